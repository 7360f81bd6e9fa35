/- What the statement reaches, in order. -/
import Derived.Test.YtgnablliekgbgaaMXPLL
import Derived.Test.YtgnablliekgbgaaMXTI
import Derived.Lib.BufferRead
import Derived.Lib.ConvBytes
import Derived.Laws.IdiomStrings
import Derived.Test.YtgnablliekgbgaaMXPLH
import Derived.Recover
import Derived.Test.YtgnablliekgbgaaMXPLZ
import Derived.WalkKit
import Derived.ProofKit
import Derived.OpenShut
import Derived.ShutString
import Derived.ChangeOld
import Derived.Below
import Derived.SizedLaws
import Derived.Lib.SmallJoins
import Derived.Carry
import Derived.Test.YtgnablliekgbgaaMX5
set_option linter.unusedSimpArgs false
set_option linter.unusedVariables false
set_option maxRecDepth 100000
namespace Go.Proofs.Ytgnablliekgbgaa
open Go Go.PL Go.RowKit
set_option maxHeartbeats 2000000
instance oneC_func {f : Fn} {p : Value} : OneC [Value.func f #[] #[p]] := OneC.cons rfl oneC_nil
theorem accE_nil {c : Int} : accE c [] = c := rfl
theorem built_sg {x : Int} {u v : Value} {n m : Nat} (hu : SV u n) (hv : SV v m) : Try.prog.built 28 [(0, .int .i64 x), (1, u), (2, v)] = some [.int .i64 x, u, v].toArray := by
  obtain ⟨a, cap, rfl, _⟩ := hu
  obtain ⟨a2, cap2, rfl, _⟩ := hv
  kernel_rfl
theorem built_rz : Try.prog.built 30 [] = some Rv.z.c.toArray := by kernel_rfl
theorem bne_f {a b : Int} (h : (a != b) = false) : a = b := by simpa using h
theorem len_trs {l : List HT} {L : List Tr} (h : trs l = L) : l.length = L.length := by rw [← h, trs_length]
theorem wT_len (T : Tr) : (wT T).length = 2 := lsT_len
theorem fT_len (T : Tr) : (fT T).length = 5 := lsT_len
theorem gT_len (T : Tr) : (gT T).length = 3 := lsT_len
theorem lT_le (T : Tr) : (lT T).length ≤ 500 := lsT_le
def rvE (y : Rv) : List Ent := [.row y.sv y.ss.length 22 1 (v64s y.ss), .row y.cv y.chs.length 62 16 (v8s y.chs.flatten), .row y.pv y.ps.length 62 16 (v8s y.ps.flatten)]
theorem rvE_z {w0 w : World} {M : List Ent} {S : List Fact} (h : Mem w0 [] M S w) : New w0.heap.size (rvE Rv.z) [] w := (show New w0.heap.size [Ent.row nl 0 22 1 [], Ent.row nl 0 62 16 [], Ent.row nl 0 62 16 []] [] w from (((h.nilRow 62 16).nilRow 62 16).nilRow 22 1).made SubC.h .nil)
theorem rdNum_le (t : Tr) (g : UInt8) (mx : UInt64) : (rdNum t g mx).1.toNat ≤ mx.toNat := by
  unfold rdNum
  split
  · exact Nat.zero_le _
  · split
    · exact Nat.zero_le _
    · show (UInt64.ofNat (numOf t.bs)).toNat ≤ _
      rw [UInt64.toNat_ofNat']
      exact Nat.le_trans (Nat.mod_le _ _) zz11
theorem hcs_part {l : List HT} {i : Nat} (h : i < l.length) : ((hcs l).drop (i * 3)).take 3 = (l.getD i HT.z).c := cat_part HT.c_length HT.z h
theorem bs_le {t : Tr} (h : Sm t) : t.bs.length ≤ 1000000 := by
  obtain ⟨tg, bs, l⟩ := t
  have h : bs.length + bytL l + 5 * (1 + cntL l) ≤ 1000000 := h
  show bs.length ≤ _
  omega
theorem Rv.z_svs : Rv.z.svs := ⟨SV.nil, SV.nil, SV.nil⟩
instance oneC_rvz : OneC Rv.z.c := Rv.z_svs.one
theorem decodeR (av : Value) (xs : List UInt8) (w : World) (hav : Seen w.cell? av xs.length 1 (v8s xs))  :
    Calls Try.prog 21 [av].toArray w (GivesP w (fun y : Rv × Int => DecP xs y.1 y.2 ∧ y.1.svs) (fun y => .tuple #[.agg y.1.c.toArray, .int .i64 y.2]) (fun y => rvE y.1) (fun _ => [])) := by
  have sav := hav.sv
  have lav := sav.le
  simp only [maxLen] at lav
  have sav := hav.sv
  refine enter (m := 109) (R := Mem w [] [] []) Try.func21 rfl rfl (Nat.le_of_ble_eq_true rfl) (Mem.start w) ?_
  refine wpc_seq <| wpc_region ?_
  refine wpl_t (t_alloc Try.ti30 Rv.z.c rfl) rfl (fun b2 => ?_)
  refine wpl_q (q_pure rfl) rfl <| wpl_nil <| ex_then <| wpc_seq <| wpc_region <| wpl_q (q_pure rfl) rfl ?_
  refine wpl_tp (t_callPT Try.hb48 rfl fun w h => frz (decode av xs w (h.seen_old hav))) rfl (fun b17 p17 => ?_)
  haveI := p17.2.one
  have hsmT : Sm b17.tr := by rw [p17.1]; exact (decF_sm xs).1
  refine wpl_q (q_pure rfl) rfl <| wpl_q (q_pure rfl) rfl <| wpl_q (q_pure rfl) rfl ?_
  refine wpl_t (t_alloc Try.ti72 HT.z.c rfl) rfl (fun b4 => ?_)
  refine wpl_t (t_alloc Try.ti33 [.int .i64 0] rfl) rfl (fun b5 => ?_)
  refine wpl_t0 (t_stA Try.ti72 rfl rfl LenC.h OneC.h LenC.h) (fun _ => ?_)
  refine wpl_t0 (t_st1 Try.ti33 rfl rfl rfl zz3 [.int .i64 (decF xs).2] rfl) (fun _ => ?_)
  refine wpl_nil <| ex_then <| wpc_seq <| wpc_region ?_
  refine wpl_q (q_fn (us := []) (vs := [.pointer (some ⟨b5, 0, none⟩)]) rfl rfl) rfl ?_
  refine wpl_q (q_build (cs := [(.func (.func 49) #[] #[.pointer (some ⟨b5, 0, none⟩)])]) rfl zz6) rfl ?_
  refine wpl_t (t_alloc Try.ti84 [.nilFunc] rfl) rfl (fun b6 => ?_)
  refine wpl_t0 (t_stA Try.ti84 rfl rfl LenC.h OneC.h LenC.h) (fun _ => ?_)
  refine wpl_nil <| ex_then <| wpc_seq ?_
  refine wpc_draw 6 zz6 (fun _ h => h.drew) ?_
  refine wpd_q 0 rfl zz6 trivial (q_ldN Try.underlying84 rfl Try.ti84 rfl LenC.h) rfl (fun _ h => h) ?_
  refine wpd_p 1 rfl zz6 trivial (q_fn (us := [.agg #[(.func (.func 49) #[] #[.pointer (some ⟨b5, 0, none⟩)])]]) (vs := []) rfl rfl) rfl sk0 ?_
  refine wpd_q 2 rfl zz6 trivial (q_ldN Try.underlying84 rfl Try.ti84 rfl LenC.h) rfl (fun _ h => h) ?_
  refine wpd_p 3 rfl zz6 trivial (q_fn (us := [.agg #[(.func (.func 49) #[] #[.pointer (some ⟨b5, 0, none⟩)])]]) (vs := []) rfl rfl) rfl sk0 ?_
  refine wpd_p 4 rfl zz6 trivial (q_pure rfl) rfl sk0 ?_
  refine wpd_p 5 rfl zz6 trivial (q_pure rfl) rfl sk0 ?_
  refine wpd_done zz6 ?_
  refine ex_then <| wpc_seq <| wpc_region <| wpl_q (q_pure rfl) rfl <| wpl_q (q_ldN Try.underlying72 rfl Try.ti72 rfl LenC.h) rfl ?_
  refine wpl_tp (t_callLS (.blk b5 33 [.int .i64 (decF xs).2]) (.blk b5 33 [.int .i64 (orE (decF xs).2 (((rdSeq b17.tr 135 (2 : Nat) (2 : Nat)).2 : Nat) : Int))]) rfl Try.hb52 rfl fun w h h2 => rdrListF b5 b17 b17.tr 135 2 2 (decF xs).2 w h2 (hseen_rdo h zz4 zz15) rfl hsmT zz18) rfl (fun b28 p28 => ?_)
  have svl28 := p28.2.1
  have hl28 : b28.2.length = 2 := (len_trs p28.1).trans (wT_len _)
  haveI := (p28.2.2 (b28.2.getD 0 HT.z) (getD_memH zz11)).one
  haveI := (p28.2.2 (b28.2.getD 1 HT.z) (getD_memH zz11)).one
  refine wpl_q (q_pure rfl) rfl <| wpl_nil <| ex_then <| wpc_seq ?_
  refine wpc_drawM [] 99 zz6 zz5 ?_
  refine wpd_p 0 rfl zz6 trivial (q_pure rfl) rfl (fun w h => .inr (h.sub SubC.h SubC.h)) ?_
  refine wpd_p 1 rfl zz6 trivial (q_pure rfl) rfl (fun w h => .inr (h.sub SubC.h SubC.h)) ?_
  refine wpd_p 2 rfl zz6 trivial (q_idxW (j := 0) Try.underlying70 Try.ti72 rfl rfl zz2 zz0) rfl (fun w h => .inr (h.sub SubC.h SubC.h)) ?_
  refine wpd_q 3 rfl zz6 trivial (q_ldWN Try.underlying72 rfl Try.ti72 rfl (fun w h => HSeen.lsS (y := b28) (Mem.hseenF h zz4)) (b28.2.getD 0 HT.z).c (hcs_part zz11) LenC.h) rfl (fun w h => h.sub SubC.h SubC.h) ?_
  refine wpd_p 5 rfl zz6 trivial (q_pure rfl) rfl (fun w h => .inr (h.sub SubC.h SubC.h)) ?_
  refine wpd_p 6 rfl zz6 trivial (q_pure rfl) rfl (fun w h => .inr (h.sub SubC.h SubC.h)) ?_
  refine wpd_p 7 rfl zz6 trivial (q_idxW (j := 1) Try.underlying70 Try.ti72 rfl rfl zz2 zz0) rfl (fun w h => .inr (h.sub SubC.h SubC.h)) ?_
  refine wpd_q 8 rfl zz6 trivial (q_ldWN Try.underlying72 rfl Try.ti72 rfl (fun w h => HSeen.lsS (y := b28) (Mem.hseenF h zz4)) (b28.2.getD 1 HT.z).c (hcs_part zz11) LenC.h) rfl (fun w h => h.sub SubC.h SubC.h) ?_
  refine wpd_tp 4 rfl zz6 trivial (t_callLS (.blk b5 33 [.int .i64 (orE (decF xs).2 (((rdSeq b17.tr 135 (2 : Nat) (2 : Nat)).2 : Nat) : Int))]) (.blk b5 33 [.int .i64 (orE (orE (decF xs).2 (((rdSeq b17.tr 135 (2 : Nat) (2 : Nat)).2 : Nat) : Int)) (((rdSeq ((wT b17.tr).getD 0 Tr.z) 134 (5 : Nat) (5 : Nat)).2 : Nat) : Int))]) rfl Try.hb52 rfl fun w h h2 => rdrListF b5 (b28.2.getD 0 HT.z) ((wT b17.tr).getD 0 Tr.z) 134 5 5 (orE (decF xs).2 (((rdSeq b17.tr 135 (2 : Nat) (2 : Nat)).2 : Nat) : Int)) w h2 (HSeen.lsK (y := b28) (hseen_rdo h zz4 zz15) zz11) (tr_get (show trs b28.2 = wT b17.tr from p28.1) 0) (sm_get hsmT 0) zz18) rfl (fun _ => (fun w h => .inr (h.sub SubC.h SubC.h))) (fun b33 p33 => ?_)
  have hl33 : b33.2.length = 5 := (len_trs p33.1).trans (fT_len _)
  have svl33 := p33.2.1
  haveI := (p33.2.2 (b33.2.getD 0 HT.z) (getD_memH zz11)).one
  haveI := (p33.2.2 (b33.2.getD 1 HT.z) (getD_memH zz11)).one
  haveI := (p33.2.2 (b33.2.getD 2 HT.z) (getD_memH zz11)).one
  haveI := (p33.2.2 (b33.2.getD 3 HT.z) (getD_memH zz11)).one
  haveI := (p33.2.2 (b33.2.getD 4 HT.z) (getD_memH zz11)).one
  refine wpd_tp 9 rfl zz6 trivial (t_callLS (.blk b5 33 [.int .i64 (orE (orE (decF xs).2 (((rdSeq b17.tr 135 (2 : Nat) (2 : Nat)).2 : Nat) : Int)) (((rdSeq ((wT b17.tr).getD 0 Tr.z) 134 (5 : Nat) (5 : Nat)).2 : Nat) : Int))]) (.blk b5 33 [.int .i64 (orE (orE (orE (decF xs).2 (((rdSeq b17.tr 135 (2 : Nat) (2 : Nat)).2 : Nat) : Int)) (((rdSeq ((wT b17.tr).getD 0 Tr.z) 134 (5 : Nat) (5 : Nat)).2 : Nat) : Int)) (((rdSeq ((wT b17.tr).getD 1 Tr.z) 131 (3 : Nat) (3 : Nat)).2 : Nat) : Int))]) rfl Try.hb52 rfl fun w h h2 => rdrListF b5 (b28.2.getD 1 HT.z) ((wT b17.tr).getD 1 Tr.z) 131 3 3 (orE (orE (decF xs).2 (((rdSeq b17.tr 135 (2 : Nat) (2 : Nat)).2 : Nat) : Int)) (((rdSeq ((wT b17.tr).getD 0 Tr.z) 134 (5 : Nat) (5 : Nat)).2 : Nat) : Int)) w h2 (HSeen.lsK (y := b28) (hseen_rdo h zz4 zz15) zz11) (tr_get (show trs b28.2 = wT b17.tr from p28.1) 1) (sm_get hsmT 1) zz18) rfl (fun _ => (fun w h => .inr (h.sub SubC.h SubC.h))) (fun b38 p38 => ?_)
  have hl38 : b38.2.length = 3 := (len_trs p38.1).trans (gT_len _)
  have svl38 := p38.2.1
  haveI := (p38.2.2 (b38.2.getD 0 HT.z) (getD_memH zz11)).one
  haveI := (p38.2.2 (b38.2.getD 1 HT.z) (getD_memH zz11)).one
  haveI := (p38.2.2 (b38.2.getD 2 HT.z) (getD_memH zz11)).one
  refine wpd_p 10 rfl zz6 trivial (q_pure rfl) rfl (fun w h => .inr (h.sub SubC.h SubC.h)) ?_
  refine wpd_p 11 rfl zz6 trivial (q_pure rfl) rfl (fun w h => .inr (h.sub SubC.h SubC.h)) ?_
  refine wpd_done zz6 ?_
  refine ex_then ?_
  refine wpc_cutc ({ x : Nat // True }) [(2, .pointer (some ⟨b2, 0, none⟩)), (5, .pointer (some ⟨b5, 0, none⟩)), (6, .pointer (some ⟨b6, 0, none⟩)), (7, .func (.func 51) #[.agg #[(.func (.func 49) #[] #[.pointer (some ⟨b5, 0, none⟩)])]] #[]), (8, .func (.func 52) #[.agg #[(.func (.func 49) #[] #[.pointer (some ⟨b5, 0, none⟩)])]] #[]), (10, b33.1), (11, b38.1)] (fun x Lc => (12, .pointer (some ⟨x.1, 0, none⟩)) :: Lc) (fun x => Mem w [] [.blk x.1 30 [str (rdStr ((fT b17.tr).getD 0 Tr.z) 1 40).1, .int .u64 ((rdNum ((fT b17.tr).getD 1 Tr.z) 2 18446744073709551615).1.toNat : Int), .int .i64 ((rdNum ((fT b17.tr).getD 2 Tr.z) 3 1099511627776).1.toNat : Int), .int .i64 ((rdNum ((fT b17.tr).getD 3 Tr.z) 4 1099511627776).1.toNat : Int), nl, .int .i64 0, nl, nl], .blk b5 33 [.int .i64 (orE (orE (orE (orE (orE (orE (orE (decF xs).2 (((rdSeq b17.tr 135 (2 : Nat) (2 : Nat)).2 : Nat) : Int)) (((rdSeq ((wT b17.tr).getD 0 Tr.z) 134 (5 : Nat) (5 : Nat)).2 : Nat) : Int)) (((rdSeq ((wT b17.tr).getD 1 Tr.z) 131 (3 : Nat) (3 : Nat)).2 : Nat) : Int)) (((rdStr ((fT b17.tr).getD 0 Tr.z) 1 40).2 : Nat) : Int)) (((rdNum ((fT b17.tr).getD 1 Tr.z) 2 18446744073709551615).2 : Nat) : Int)) (((rdNum ((fT b17.tr).getD 2 Tr.z) 3 1099511627776).2 : Nat) : Int)) (((rdNum ((fT b17.tr).getD 3 Tr.z) 4 1099511627776).2 : Nat) : Int))], .blk b6 84 [(.func (.func 49) #[] #[.pointer (some ⟨b5, 0, none⟩)])], .blk b4 72 b17.c, .blk b2 30 Rv.z.c] [Go.Proofs.Ytgnablliekgbgaa.hseen (lsH b38), Go.Proofs.Ytgnablliekgbgaa.hseen (lsH b33), Go.Proofs.Ytgnablliekgbgaa.hseen (lsH b28), Go.Proofs.Ytgnablliekgbgaa.hseen b17]) ?_ ?_
  ·
   refine wpc_drawM [.blk b6 84 [(.func (.func 49) #[] #[.pointer (some ⟨b5, 0, none⟩)])]] 99 zz6 zz5 ?_
   refine wpd_q 0 rfl zz6 trivial (q_ldN Try.underlying84 rfl Try.ti84 rfl LenC.h) rfl (fun w h => h.sub SubC.h SubC.h) ?_
   refine wpd_p 1 rfl zz6 trivial (q_pure rfl) rfl (fun w h => .inr (h.sub SubC.h SubC.h)) ?_
   refine wpd_p 2 rfl zz6 trivial (q_idxW (j := 0) Try.underlying70 Try.ti72 rfl rfl zz2 zz0) rfl (fun w h => .inr (h.sub SubC.h SubC.h)) ?_
   refine wpd_q 3 rfl zz6 trivial (q_ldWN Try.underlying72 rfl Try.ti72 rfl (fun w h => HSeen.lsS (y := b33) (Mem.hseenF h zz4)) (b33.2.getD 0 HT.z).c (hcs_part zz11) LenC.h) rfl (fun w h => h.sub SubC.h SubC.h) ?_
   refine wpd_p 5 rfl zz6 trivial (q_pure rfl) rfl (fun w h => .inr (h.sub SubC.h SubC.h)) ?_
   refine wpd_p 6 rfl zz6 trivial (q_pure rfl) rfl (fun w h => .inr (h.sub SubC.h SubC.h)) ?_
   refine wpd_p 7 rfl zz6 trivial (q_idxW (j := 1) Try.underlying70 Try.ti72 rfl rfl zz2 zz0) rfl (fun w h => .inr (h.sub SubC.h SubC.h)) ?_
   refine wpd_q 8 rfl zz6 trivial (q_ldWN Try.underlying72 rfl Try.ti72 rfl (fun w h => HSeen.lsS (y := b33) (Mem.hseenF h zz4)) (b33.2.getD 1 HT.z).c (hcs_part zz11) LenC.h) rfl (fun w h => h.sub SubC.h SubC.h) ?_
   refine wpd_p 10 rfl zz6 trivial (q_pure rfl) rfl (fun w h => .inr (h.sub SubC.h SubC.h)) ?_
   refine wpd_p 11 rfl zz6 trivial (q_pure rfl) rfl (fun w h => .inr (h.sub SubC.h SubC.h)) ?_
   refine wpd_p 12 rfl zz6 trivial (q_idxW (j := 2) Try.underlying70 Try.ti72 rfl rfl zz2 zz0) rfl (fun w h => .inr (h.sub SubC.h SubC.h)) ?_
   refine wpd_q 13 rfl zz6 trivial (q_ldWN Try.underlying72 rfl Try.ti72 rfl (fun w h => HSeen.lsS (y := b33) (Mem.hseenF h zz4)) (b33.2.getD 2 HT.z).c (hcs_part zz11) LenC.h) rfl (fun w h => h.sub SubC.h SubC.h) ?_
   refine wpd_p 16 rfl zz6 trivial (q_pure rfl) rfl (fun w h => .inr (h.sub SubC.h SubC.h)) ?_
   refine wpd_p 17 rfl zz6 trivial (q_pure rfl) rfl (fun w h => .inr (h.sub SubC.h SubC.h)) ?_
   refine wpd_p 18 rfl zz6 trivial (q_idxW (j := 3) Try.underlying70 Try.ti72 rfl rfl zz2 zz0) rfl (fun w h => .inr (h.sub SubC.h SubC.h)) ?_
   refine wpd_q 19 rfl zz6 trivial (q_ldWN Try.underlying72 rfl Try.ti72 rfl (fun w h => HSeen.lsS (y := b33) (Mem.hseenF h zz4)) (b33.2.getD 3 HT.z).c (hcs_part zz11) LenC.h) rfl (fun w h => h.sub SubC.h SubC.h) ?_
   refine wpd_two 4 24 zz6 ?_ ?_
   ·
    refine wpa_tp 4 rfl trivial (t_callU (.blk b5 33 [.int .i64 (orE (orE (orE (decF xs).2 (((rdSeq b17.tr 135 (2 : Nat) (2 : Nat)).2 : Nat) : Int)) (((rdSeq ((wT b17.tr).getD 0 Tr.z) 134 (5 : Nat) (5 : Nat)).2 : Nat) : Int)) (((rdSeq ((wT b17.tr).getD 1 Tr.z) 131 (3 : Nat) (3 : Nat)).2 : Nat) : Int))]) (.blk b5 33 [.int .i64 (orE (orE (orE (orE (decF xs).2 (((rdSeq b17.tr 135 (2 : Nat) (2 : Nat)).2 : Nat) : Int)) (((rdSeq ((wT b17.tr).getD 0 Tr.z) 134 (5 : Nat) (5 : Nat)).2 : Nat) : Int)) (((rdSeq ((wT b17.tr).getD 1 Tr.z) 131 (3 : Nat) (3 : Nat)).2 : Nat) : Int)) (((rdStr ((fT b17.tr).getD 0 Tr.z) 1 40).2 : Nat) : Int))]) rfl Try.hb53 rfl fun w h h2 => rdrStrF b5 (b33.2.getD 0 HT.z) ((fT b17.tr).getD 0 Tr.z) 1 40 (orE (orE (orE (decF xs).2 (((rdSeq b17.tr 135 (2 : Nat) (2 : Nat)).2 : Nat) : Int)) (((rdSeq ((wT b17.tr).getD 0 Tr.z) 134 (5 : Nat) (5 : Nat)).2 : Nat) : Int)) (((rdSeq ((wT b17.tr).getD 1 Tr.z) 131 (3 : Nat) (3 : Nat)).2 : Nat) : Int)) w h2 (HSeen.lsK (y := b33) (hseen_rdo h zz4 zz15) zz11) (tr_get (show trs b33.2 = fT b17.tr from p33.1) 0)) rfl (fun _ => (fun w h => .inr (h.sub SubC.h SubC.h))) (fun b43 p43 => ?_)
    refine wpd_two 9 24 zz6 ?_ ?_
    ·
     refine wpa_tp 9 rfl trivial (t_callU (.blk b5 33 [.int .i64 (orE (orE (orE (orE (decF xs).2 (((rdSeq b17.tr 135 (2 : Nat) (2 : Nat)).2 : Nat) : Int)) (((rdSeq ((wT b17.tr).getD 0 Tr.z) 134 (5 : Nat) (5 : Nat)).2 : Nat) : Int)) (((rdSeq ((wT b17.tr).getD 1 Tr.z) 131 (3 : Nat) (3 : Nat)).2 : Nat) : Int)) (((rdStr ((fT b17.tr).getD 0 Tr.z) 1 40).2 : Nat) : Int))]) (.blk b5 33 [.int .i64 (orE (orE (orE (orE (orE (decF xs).2 (((rdSeq b17.tr 135 (2 : Nat) (2 : Nat)).2 : Nat) : Int)) (((rdSeq ((wT b17.tr).getD 0 Tr.z) 134 (5 : Nat) (5 : Nat)).2 : Nat) : Int)) (((rdSeq ((wT b17.tr).getD 1 Tr.z) 131 (3 : Nat) (3 : Nat)).2 : Nat) : Int)) (((rdStr ((fT b17.tr).getD 0 Tr.z) 1 40).2 : Nat) : Int)) (((rdNum ((fT b17.tr).getD 1 Tr.z) 2 18446744073709551615).2 : Nat) : Int))]) rfl Try.hb51 rfl fun w h h2 => rdrNumF b5 (b33.2.getD 1 HT.z) ((fT b17.tr).getD 1 Tr.z) 2 18446744073709551615 (orE (orE (orE (orE (decF xs).2 (((rdSeq b17.tr 135 (2 : Nat) (2 : Nat)).2 : Nat) : Int)) (((rdSeq ((wT b17.tr).getD 0 Tr.z) 134 (5 : Nat) (5 : Nat)).2 : Nat) : Int)) (((rdSeq ((wT b17.tr).getD 1 Tr.z) 131 (3 : Nat) (3 : Nat)).2 : Nat) : Int)) (((rdStr ((fT b17.tr).getD 0 Tr.z) 1 40).2 : Nat) : Int)) w h2 (HSeen.lsK (y := b33) (hseen_rdo h zz4 zz15) zz11) (tr_get (show trs b33.2 = fT b17.tr from p33.1) 1)) rfl (fun _ => (fun w h => .inr (h.sub SubC.h SubC.h))) (fun b48 p48 => ?_)
     refine wpd_two 14 24 zz6 ?_ ?_
     ·
      refine wpa_tp 14 rfl trivial (t_callU (.blk b5 33 [.int .i64 (orE (orE (orE (orE (orE (decF xs).2 (((rdSeq b17.tr 135 (2 : Nat) (2 : Nat)).2 : Nat) : Int)) (((rdSeq ((wT b17.tr).getD 0 Tr.z) 134 (5 : Nat) (5 : Nat)).2 : Nat) : Int)) (((rdSeq ((wT b17.tr).getD 1 Tr.z) 131 (3 : Nat) (3 : Nat)).2 : Nat) : Int)) (((rdStr ((fT b17.tr).getD 0 Tr.z) 1 40).2 : Nat) : Int)) (((rdNum ((fT b17.tr).getD 1 Tr.z) 2 18446744073709551615).2 : Nat) : Int))]) (.blk b5 33 [.int .i64 (orE (orE (orE (orE (orE (orE (decF xs).2 (((rdSeq b17.tr 135 (2 : Nat) (2 : Nat)).2 : Nat) : Int)) (((rdSeq ((wT b17.tr).getD 0 Tr.z) 134 (5 : Nat) (5 : Nat)).2 : Nat) : Int)) (((rdSeq ((wT b17.tr).getD 1 Tr.z) 131 (3 : Nat) (3 : Nat)).2 : Nat) : Int)) (((rdStr ((fT b17.tr).getD 0 Tr.z) 1 40).2 : Nat) : Int)) (((rdNum ((fT b17.tr).getD 1 Tr.z) 2 18446744073709551615).2 : Nat) : Int)) (((rdNum ((fT b17.tr).getD 2 Tr.z) 3 1099511627776).2 : Nat) : Int))]) rfl Try.hb51 rfl fun w h h2 => rdrNumF b5 (b33.2.getD 2 HT.z) ((fT b17.tr).getD 2 Tr.z) 3 1099511627776 (orE (orE (orE (orE (orE (decF xs).2 (((rdSeq b17.tr 135 (2 : Nat) (2 : Nat)).2 : Nat) : Int)) (((rdSeq ((wT b17.tr).getD 0 Tr.z) 134 (5 : Nat) (5 : Nat)).2 : Nat) : Int)) (((rdSeq ((wT b17.tr).getD 1 Tr.z) 131 (3 : Nat) (3 : Nat)).2 : Nat) : Int)) (((rdStr ((fT b17.tr).getD 0 Tr.z) 1 40).2 : Nat) : Int)) (((rdNum ((fT b17.tr).getD 1 Tr.z) 2 18446744073709551615).2 : Nat) : Int)) w h2 (HSeen.lsK (y := b33) (hseen_rdo h zz4 zz15) zz11) (tr_get (show trs b33.2 = fT b17.tr from p33.1) 2)) rfl (fun _ => (fun w h => .inr (h.sub SubC.h SubC.h))) (fun b53 p53 => ?_)
      refine wpd_p 15 rfl zz6 trivial (q64_intN Try.underlying22 Try.underlying2 rfl zz31) rfl (fun w h => .inr (h.sub SubC.h SubC.h)) ?_
      refine wpd_two 20 24 zz6 ?_ ?_
      ·
       refine wpa_tp 20 rfl trivial (t_callU (.blk b5 33 [.int .i64 (orE (orE (orE (orE (orE (orE (decF xs).2 (((rdSeq b17.tr 135 (2 : Nat) (2 : Nat)).2 : Nat) : Int)) (((rdSeq ((wT b17.tr).getD 0 Tr.z) 134 (5 : Nat) (5 : Nat)).2 : Nat) : Int)) (((rdSeq ((wT b17.tr).getD 1 Tr.z) 131 (3 : Nat) (3 : Nat)).2 : Nat) : Int)) (((rdStr ((fT b17.tr).getD 0 Tr.z) 1 40).2 : Nat) : Int)) (((rdNum ((fT b17.tr).getD 1 Tr.z) 2 18446744073709551615).2 : Nat) : Int)) (((rdNum ((fT b17.tr).getD 2 Tr.z) 3 1099511627776).2 : Nat) : Int))]) (.blk b5 33 [.int .i64 (orE (orE (orE (orE (orE (orE (orE (decF xs).2 (((rdSeq b17.tr 135 (2 : Nat) (2 : Nat)).2 : Nat) : Int)) (((rdSeq ((wT b17.tr).getD 0 Tr.z) 134 (5 : Nat) (5 : Nat)).2 : Nat) : Int)) (((rdSeq ((wT b17.tr).getD 1 Tr.z) 131 (3 : Nat) (3 : Nat)).2 : Nat) : Int)) (((rdStr ((fT b17.tr).getD 0 Tr.z) 1 40).2 : Nat) : Int)) (((rdNum ((fT b17.tr).getD 1 Tr.z) 2 18446744073709551615).2 : Nat) : Int)) (((rdNum ((fT b17.tr).getD 2 Tr.z) 3 1099511627776).2 : Nat) : Int)) (((rdNum ((fT b17.tr).getD 3 Tr.z) 4 1099511627776).2 : Nat) : Int))]) rfl Try.hb51 rfl fun w h h2 => rdrNumF b5 (b33.2.getD 3 HT.z) ((fT b17.tr).getD 3 Tr.z) 4 1099511627776 (orE (orE (orE (orE (orE (orE (decF xs).2 (((rdSeq b17.tr 135 (2 : Nat) (2 : Nat)).2 : Nat) : Int)) (((rdSeq ((wT b17.tr).getD 0 Tr.z) 134 (5 : Nat) (5 : Nat)).2 : Nat) : Int)) (((rdSeq ((wT b17.tr).getD 1 Tr.z) 131 (3 : Nat) (3 : Nat)).2 : Nat) : Int)) (((rdStr ((fT b17.tr).getD 0 Tr.z) 1 40).2 : Nat) : Int)) (((rdNum ((fT b17.tr).getD 1 Tr.z) 2 18446744073709551615).2 : Nat) : Int)) (((rdNum ((fT b17.tr).getD 2 Tr.z) 3 1099511627776).2 : Nat) : Int)) w h2 (HSeen.lsK (y := b33) (hseen_rdo h zz4 zz15) zz11) (tr_get (show trs b33.2 = fT b17.tr from p33.1) 3)) rfl (fun _ => (fun w h => .inr (h.sub SubC.h SubC.h))) (fun b59 p59 => ?_)
       refine wpd_p 21 rfl zz6 trivial (q64_intN Try.underlying22 Try.underlying2 rfl zz28) rfl (fun w h => .inr (h.sub SubC.h SubC.h)) ?_
       refine wpd_p 22 rfl zz6 trivial (q_build (cs := [.int .i64 ((rdNum ((fT b17.tr).getD 2 Tr.z) 3 1099511627776).1.toNat : Int), .int .i64 ((rdNum ((fT b17.tr).getD 3 Tr.z) 4 1099511627776).1.toNat : Int)]) rfl zz6) rfl (fun w h => .inr (h.sub SubC.h SubC.h)) ?_
       refine wpd_p 23 rfl zz6 trivial (q_build (cs := [str (rdStr ((fT b17.tr).getD 0 Tr.z) 1 40).1, .int .u64 ((rdNum ((fT b17.tr).getD 1 Tr.z) 2 18446744073709551615).1.toNat : Int), .int .i64 ((rdNum ((fT b17.tr).getD 2 Tr.z) 3 1099511627776).1.toNat : Int), .int .i64 ((rdNum ((fT b17.tr).getD 3 Tr.z) 4 1099511627776).1.toNat : Int), nl, .int .i64 0, nl, nl]) rfl zz6) rfl (fun w h => .inr (h.sub SubC.h SubC.h)) ?_
       refine wpd_t 24 rfl zz6 trivial (t_alloc Try.ti30 Rv.z.c rfl) rfl (fun _ => (fun w h => .inr (h.sub SubC.h SubC.h))) (fun b12 => ?_)
       refine wpd_t0 25 rfl zz6 trivial (t_stA Try.ti30 rfl rfl LenC.h (OneC.cons rfl (OneC.cons rfl (OneC.cons rfl (OneC.cons rfl (OneC.cons rfl (OneC.cons rfl (OneC.cons rfl (OneC.cons rfl oneC_nil)))))))).h LenC.h) (fun _ => (fun w h => .inr (h.sub SubC.h SubC.h))) (fun _ => ?_)
       refine wpd_done zz6 ?_
       refine ex_mid ⟨b12, trivial⟩ ?_ ?_
       ·
        exact zz7
       ·
        exact fun w h => h.sel
      ·
       refine wpa_t 24 rfl trivial (t_alloc Try.ti30 Rv.z.c rfl) rfl (fun _ => (fun w h => .inr (h.sub SubC.h SubC.h))) (fun b12 => ?_)
       refine wpd_tp 20 rfl zz6 trivial (t_callU (.blk b5 33 [.int .i64 (orE (orE (orE (orE (orE (orE (decF xs).2 (((rdSeq b17.tr 135 (2 : Nat) (2 : Nat)).2 : Nat) : Int)) (((rdSeq ((wT b17.tr).getD 0 Tr.z) 134 (5 : Nat) (5 : Nat)).2 : Nat) : Int)) (((rdSeq ((wT b17.tr).getD 1 Tr.z) 131 (3 : Nat) (3 : Nat)).2 : Nat) : Int)) (((rdStr ((fT b17.tr).getD 0 Tr.z) 1 40).2 : Nat) : Int)) (((rdNum ((fT b17.tr).getD 1 Tr.z) 2 18446744073709551615).2 : Nat) : Int)) (((rdNum ((fT b17.tr).getD 2 Tr.z) 3 1099511627776).2 : Nat) : Int))]) (.blk b5 33 [.int .i64 (orE (orE (orE (orE (orE (orE (orE (decF xs).2 (((rdSeq b17.tr 135 (2 : Nat) (2 : Nat)).2 : Nat) : Int)) (((rdSeq ((wT b17.tr).getD 0 Tr.z) 134 (5 : Nat) (5 : Nat)).2 : Nat) : Int)) (((rdSeq ((wT b17.tr).getD 1 Tr.z) 131 (3 : Nat) (3 : Nat)).2 : Nat) : Int)) (((rdStr ((fT b17.tr).getD 0 Tr.z) 1 40).2 : Nat) : Int)) (((rdNum ((fT b17.tr).getD 1 Tr.z) 2 18446744073709551615).2 : Nat) : Int)) (((rdNum ((fT b17.tr).getD 2 Tr.z) 3 1099511627776).2 : Nat) : Int)) (((rdNum ((fT b17.tr).getD 3 Tr.z) 4 1099511627776).2 : Nat) : Int))]) rfl Try.hb51 rfl fun w h h2 => rdrNumF b5 (b33.2.getD 3 HT.z) ((fT b17.tr).getD 3 Tr.z) 4 1099511627776 (orE (orE (orE (orE (orE (orE (decF xs).2 (((rdSeq b17.tr 135 (2 : Nat) (2 : Nat)).2 : Nat) : Int)) (((rdSeq ((wT b17.tr).getD 0 Tr.z) 134 (5 : Nat) (5 : Nat)).2 : Nat) : Int)) (((rdSeq ((wT b17.tr).getD 1 Tr.z) 131 (3 : Nat) (3 : Nat)).2 : Nat) : Int)) (((rdStr ((fT b17.tr).getD 0 Tr.z) 1 40).2 : Nat) : Int)) (((rdNum ((fT b17.tr).getD 1 Tr.z) 2 18446744073709551615).2 : Nat) : Int)) (((rdNum ((fT b17.tr).getD 2 Tr.z) 3 1099511627776).2 : Nat) : Int)) w h2 (HSeen.lsK (y := b33) (hseen_rdo h zz4 zz15) zz11) (tr_get (show trs b33.2 = fT b17.tr from p33.1) 3)) rfl (fun _ => (fun w h => .inr (h.sub SubC.h SubC.h))) (fun b59 p59 => ?_)
       refine wpd_p 21 rfl zz6 trivial (q64_intN Try.underlying22 Try.underlying2 rfl zz28) rfl (fun w h => .inr (h.sub SubC.h SubC.h)) ?_
       refine wpd_p 22 rfl zz6 trivial (q_build (cs := [.int .i64 ((rdNum ((fT b17.tr).getD 2 Tr.z) 3 1099511627776).1.toNat : Int), .int .i64 ((rdNum ((fT b17.tr).getD 3 Tr.z) 4 1099511627776).1.toNat : Int)]) rfl zz6) rfl (fun w h => .inr (h.sub SubC.h SubC.h)) ?_
       refine wpd_p 23 rfl zz6 trivial (q_build (cs := [str (rdStr ((fT b17.tr).getD 0 Tr.z) 1 40).1, .int .u64 ((rdNum ((fT b17.tr).getD 1 Tr.z) 2 18446744073709551615).1.toNat : Int), .int .i64 ((rdNum ((fT b17.tr).getD 2 Tr.z) 3 1099511627776).1.toNat : Int), .int .i64 ((rdNum ((fT b17.tr).getD 3 Tr.z) 4 1099511627776).1.toNat : Int), nl, .int .i64 0, nl, nl]) rfl zz6) rfl (fun w h => .inr (h.sub SubC.h SubC.h)) ?_
       refine wpd_t0 25 rfl zz6 trivial (t_stA Try.ti30 rfl rfl LenC.h (OneC.cons rfl (OneC.cons rfl (OneC.cons rfl (OneC.cons rfl (OneC.cons rfl (OneC.cons rfl (OneC.cons rfl (OneC.cons rfl oneC_nil)))))))).h LenC.h) (fun _ => (fun w h => .inr (h.sub SubC.h SubC.h))) (fun _ => ?_)
       refine wpd_done zz6 ?_
       refine ex_mid ⟨b12, trivial⟩ ?_ ?_
       ·
        exact zz7
       ·
        exact fun w h => h.sel
     ·
      refine wpa_t 24 rfl trivial (t_alloc Try.ti30 Rv.z.c rfl) rfl (fun _ => (fun w h => .inr (h.sub SubC.h SubC.h))) (fun b12 => ?_)
      refine wpd_tp 14 rfl zz6 trivial (t_callU (.blk b5 33 [.int .i64 (orE (orE (orE (orE (orE (decF xs).2 (((rdSeq b17.tr 135 (2 : Nat) (2 : Nat)).2 : Nat) : Int)) (((rdSeq ((wT b17.tr).getD 0 Tr.z) 134 (5 : Nat) (5 : Nat)).2 : Nat) : Int)) (((rdSeq ((wT b17.tr).getD 1 Tr.z) 131 (3 : Nat) (3 : Nat)).2 : Nat) : Int)) (((rdStr ((fT b17.tr).getD 0 Tr.z) 1 40).2 : Nat) : Int)) (((rdNum ((fT b17.tr).getD 1 Tr.z) 2 18446744073709551615).2 : Nat) : Int))]) (.blk b5 33 [.int .i64 (orE (orE (orE (orE (orE (orE (decF xs).2 (((rdSeq b17.tr 135 (2 : Nat) (2 : Nat)).2 : Nat) : Int)) (((rdSeq ((wT b17.tr).getD 0 Tr.z) 134 (5 : Nat) (5 : Nat)).2 : Nat) : Int)) (((rdSeq ((wT b17.tr).getD 1 Tr.z) 131 (3 : Nat) (3 : Nat)).2 : Nat) : Int)) (((rdStr ((fT b17.tr).getD 0 Tr.z) 1 40).2 : Nat) : Int)) (((rdNum ((fT b17.tr).getD 1 Tr.z) 2 18446744073709551615).2 : Nat) : Int)) (((rdNum ((fT b17.tr).getD 2 Tr.z) 3 1099511627776).2 : Nat) : Int))]) rfl Try.hb51 rfl fun w h h2 => rdrNumF b5 (b33.2.getD 2 HT.z) ((fT b17.tr).getD 2 Tr.z) 3 1099511627776 (orE (orE (orE (orE (orE (decF xs).2 (((rdSeq b17.tr 135 (2 : Nat) (2 : Nat)).2 : Nat) : Int)) (((rdSeq ((wT b17.tr).getD 0 Tr.z) 134 (5 : Nat) (5 : Nat)).2 : Nat) : Int)) (((rdSeq ((wT b17.tr).getD 1 Tr.z) 131 (3 : Nat) (3 : Nat)).2 : Nat) : Int)) (((rdStr ((fT b17.tr).getD 0 Tr.z) 1 40).2 : Nat) : Int)) (((rdNum ((fT b17.tr).getD 1 Tr.z) 2 18446744073709551615).2 : Nat) : Int)) w h2 (HSeen.lsK (y := b33) (hseen_rdo h zz4 zz15) zz11) (tr_get (show trs b33.2 = fT b17.tr from p33.1) 2)) rfl (fun _ => (fun w h => .inr (h.sub SubC.h SubC.h))) (fun b53 p53 => ?_)
      refine wpd_p 15 rfl zz6 trivial (q64_intN Try.underlying22 Try.underlying2 rfl zz31) rfl (fun w h => .inr (h.sub SubC.h SubC.h)) ?_
      refine wpd_tp 20 rfl zz6 trivial (t_callU (.blk b5 33 [.int .i64 (orE (orE (orE (orE (orE (orE (decF xs).2 (((rdSeq b17.tr 135 (2 : Nat) (2 : Nat)).2 : Nat) : Int)) (((rdSeq ((wT b17.tr).getD 0 Tr.z) 134 (5 : Nat) (5 : Nat)).2 : Nat) : Int)) (((rdSeq ((wT b17.tr).getD 1 Tr.z) 131 (3 : Nat) (3 : Nat)).2 : Nat) : Int)) (((rdStr ((fT b17.tr).getD 0 Tr.z) 1 40).2 : Nat) : Int)) (((rdNum ((fT b17.tr).getD 1 Tr.z) 2 18446744073709551615).2 : Nat) : Int)) (((rdNum ((fT b17.tr).getD 2 Tr.z) 3 1099511627776).2 : Nat) : Int))]) (.blk b5 33 [.int .i64 (orE (orE (orE (orE (orE (orE (orE (decF xs).2 (((rdSeq b17.tr 135 (2 : Nat) (2 : Nat)).2 : Nat) : Int)) (((rdSeq ((wT b17.tr).getD 0 Tr.z) 134 (5 : Nat) (5 : Nat)).2 : Nat) : Int)) (((rdSeq ((wT b17.tr).getD 1 Tr.z) 131 (3 : Nat) (3 : Nat)).2 : Nat) : Int)) (((rdStr ((fT b17.tr).getD 0 Tr.z) 1 40).2 : Nat) : Int)) (((rdNum ((fT b17.tr).getD 1 Tr.z) 2 18446744073709551615).2 : Nat) : Int)) (((rdNum ((fT b17.tr).getD 2 Tr.z) 3 1099511627776).2 : Nat) : Int)) (((rdNum ((fT b17.tr).getD 3 Tr.z) 4 1099511627776).2 : Nat) : Int))]) rfl Try.hb51 rfl fun w h h2 => rdrNumF b5 (b33.2.getD 3 HT.z) ((fT b17.tr).getD 3 Tr.z) 4 1099511627776 (orE (orE (orE (orE (orE (orE (decF xs).2 (((rdSeq b17.tr 135 (2 : Nat) (2 : Nat)).2 : Nat) : Int)) (((rdSeq ((wT b17.tr).getD 0 Tr.z) 134 (5 : Nat) (5 : Nat)).2 : Nat) : Int)) (((rdSeq ((wT b17.tr).getD 1 Tr.z) 131 (3 : Nat) (3 : Nat)).2 : Nat) : Int)) (((rdStr ((fT b17.tr).getD 0 Tr.z) 1 40).2 : Nat) : Int)) (((rdNum ((fT b17.tr).getD 1 Tr.z) 2 18446744073709551615).2 : Nat) : Int)) (((rdNum ((fT b17.tr).getD 2 Tr.z) 3 1099511627776).2 : Nat) : Int)) w h2 (HSeen.lsK (y := b33) (hseen_rdo h zz4 zz15) zz11) (tr_get (show trs b33.2 = fT b17.tr from p33.1) 3)) rfl (fun _ => (fun w h => .inr (h.sub SubC.h SubC.h))) (fun b59 p59 => ?_)
      refine wpd_p 21 rfl zz6 trivial (q64_intN Try.underlying22 Try.underlying2 rfl zz28) rfl (fun w h => .inr (h.sub SubC.h SubC.h)) ?_
      refine wpd_p 22 rfl zz6 trivial (q_build (cs := [.int .i64 ((rdNum ((fT b17.tr).getD 2 Tr.z) 3 1099511627776).1.toNat : Int), .int .i64 ((rdNum ((fT b17.tr).getD 3 Tr.z) 4 1099511627776).1.toNat : Int)]) rfl zz6) rfl (fun w h => .inr (h.sub SubC.h SubC.h)) ?_
      refine wpd_p 23 rfl zz6 trivial (q_build (cs := [str (rdStr ((fT b17.tr).getD 0 Tr.z) 1 40).1, .int .u64 ((rdNum ((fT b17.tr).getD 1 Tr.z) 2 18446744073709551615).1.toNat : Int), .int .i64 ((rdNum ((fT b17.tr).getD 2 Tr.z) 3 1099511627776).1.toNat : Int), .int .i64 ((rdNum ((fT b17.tr).getD 3 Tr.z) 4 1099511627776).1.toNat : Int), nl, .int .i64 0, nl, nl]) rfl zz6) rfl (fun w h => .inr (h.sub SubC.h SubC.h)) ?_
      refine wpd_t0 25 rfl zz6 trivial (t_stA Try.ti30 rfl rfl LenC.h (OneC.cons rfl (OneC.cons rfl (OneC.cons rfl (OneC.cons rfl (OneC.cons rfl (OneC.cons rfl (OneC.cons rfl (OneC.cons rfl oneC_nil)))))))).h LenC.h) (fun _ => (fun w h => .inr (h.sub SubC.h SubC.h))) (fun _ => ?_)
      refine wpd_done zz6 ?_
      refine ex_mid ⟨b12, trivial⟩ ?_ ?_
      ·
       exact zz7
      ·
       exact fun w h => h.sel
    ·
     refine wpa_t 24 rfl trivial (t_alloc Try.ti30 Rv.z.c rfl) rfl (fun _ => (fun w h => .inr (h.sub SubC.h SubC.h))) (fun b12 => ?_)
     refine wpd_tp 9 rfl zz6 trivial (t_callU (.blk b5 33 [.int .i64 (orE (orE (orE (orE (decF xs).2 (((rdSeq b17.tr 135 (2 : Nat) (2 : Nat)).2 : Nat) : Int)) (((rdSeq ((wT b17.tr).getD 0 Tr.z) 134 (5 : Nat) (5 : Nat)).2 : Nat) : Int)) (((rdSeq ((wT b17.tr).getD 1 Tr.z) 131 (3 : Nat) (3 : Nat)).2 : Nat) : Int)) (((rdStr ((fT b17.tr).getD 0 Tr.z) 1 40).2 : Nat) : Int))]) (.blk b5 33 [.int .i64 (orE (orE (orE (orE (orE (decF xs).2 (((rdSeq b17.tr 135 (2 : Nat) (2 : Nat)).2 : Nat) : Int)) (((rdSeq ((wT b17.tr).getD 0 Tr.z) 134 (5 : Nat) (5 : Nat)).2 : Nat) : Int)) (((rdSeq ((wT b17.tr).getD 1 Tr.z) 131 (3 : Nat) (3 : Nat)).2 : Nat) : Int)) (((rdStr ((fT b17.tr).getD 0 Tr.z) 1 40).2 : Nat) : Int)) (((rdNum ((fT b17.tr).getD 1 Tr.z) 2 18446744073709551615).2 : Nat) : Int))]) rfl Try.hb51 rfl fun w h h2 => rdrNumF b5 (b33.2.getD 1 HT.z) ((fT b17.tr).getD 1 Tr.z) 2 18446744073709551615 (orE (orE (orE (orE (decF xs).2 (((rdSeq b17.tr 135 (2 : Nat) (2 : Nat)).2 : Nat) : Int)) (((rdSeq ((wT b17.tr).getD 0 Tr.z) 134 (5 : Nat) (5 : Nat)).2 : Nat) : Int)) (((rdSeq ((wT b17.tr).getD 1 Tr.z) 131 (3 : Nat) (3 : Nat)).2 : Nat) : Int)) (((rdStr ((fT b17.tr).getD 0 Tr.z) 1 40).2 : Nat) : Int)) w h2 (HSeen.lsK (y := b33) (hseen_rdo h zz4 zz15) zz11) (tr_get (show trs b33.2 = fT b17.tr from p33.1) 1)) rfl (fun _ => (fun w h => .inr (h.sub SubC.h SubC.h))) (fun b48 p48 => ?_)
     refine wpd_tp 14 rfl zz6 trivial (t_callU (.blk b5 33 [.int .i64 (orE (orE (orE (orE (orE (decF xs).2 (((rdSeq b17.tr 135 (2 : Nat) (2 : Nat)).2 : Nat) : Int)) (((rdSeq ((wT b17.tr).getD 0 Tr.z) 134 (5 : Nat) (5 : Nat)).2 : Nat) : Int)) (((rdSeq ((wT b17.tr).getD 1 Tr.z) 131 (3 : Nat) (3 : Nat)).2 : Nat) : Int)) (((rdStr ((fT b17.tr).getD 0 Tr.z) 1 40).2 : Nat) : Int)) (((rdNum ((fT b17.tr).getD 1 Tr.z) 2 18446744073709551615).2 : Nat) : Int))]) (.blk b5 33 [.int .i64 (orE (orE (orE (orE (orE (orE (decF xs).2 (((rdSeq b17.tr 135 (2 : Nat) (2 : Nat)).2 : Nat) : Int)) (((rdSeq ((wT b17.tr).getD 0 Tr.z) 134 (5 : Nat) (5 : Nat)).2 : Nat) : Int)) (((rdSeq ((wT b17.tr).getD 1 Tr.z) 131 (3 : Nat) (3 : Nat)).2 : Nat) : Int)) (((rdStr ((fT b17.tr).getD 0 Tr.z) 1 40).2 : Nat) : Int)) (((rdNum ((fT b17.tr).getD 1 Tr.z) 2 18446744073709551615).2 : Nat) : Int)) (((rdNum ((fT b17.tr).getD 2 Tr.z) 3 1099511627776).2 : Nat) : Int))]) rfl Try.hb51 rfl fun w h h2 => rdrNumF b5 (b33.2.getD 2 HT.z) ((fT b17.tr).getD 2 Tr.z) 3 1099511627776 (orE (orE (orE (orE (orE (decF xs).2 (((rdSeq b17.tr 135 (2 : Nat) (2 : Nat)).2 : Nat) : Int)) (((rdSeq ((wT b17.tr).getD 0 Tr.z) 134 (5 : Nat) (5 : Nat)).2 : Nat) : Int)) (((rdSeq ((wT b17.tr).getD 1 Tr.z) 131 (3 : Nat) (3 : Nat)).2 : Nat) : Int)) (((rdStr ((fT b17.tr).getD 0 Tr.z) 1 40).2 : Nat) : Int)) (((rdNum ((fT b17.tr).getD 1 Tr.z) 2 18446744073709551615).2 : Nat) : Int)) w h2 (HSeen.lsK (y := b33) (hseen_rdo h zz4 zz15) zz11) (tr_get (show trs b33.2 = fT b17.tr from p33.1) 2)) rfl (fun _ => (fun w h => .inr (h.sub SubC.h SubC.h))) (fun b53 p53 => ?_)
     refine wpd_p 15 rfl zz6 trivial (q64_intN Try.underlying22 Try.underlying2 rfl zz31) rfl (fun w h => .inr (h.sub SubC.h SubC.h)) ?_
     refine wpd_tp 20 rfl zz6 trivial (t_callU (.blk b5 33 [.int .i64 (orE (orE (orE (orE (orE (orE (decF xs).2 (((rdSeq b17.tr 135 (2 : Nat) (2 : Nat)).2 : Nat) : Int)) (((rdSeq ((wT b17.tr).getD 0 Tr.z) 134 (5 : Nat) (5 : Nat)).2 : Nat) : Int)) (((rdSeq ((wT b17.tr).getD 1 Tr.z) 131 (3 : Nat) (3 : Nat)).2 : Nat) : Int)) (((rdStr ((fT b17.tr).getD 0 Tr.z) 1 40).2 : Nat) : Int)) (((rdNum ((fT b17.tr).getD 1 Tr.z) 2 18446744073709551615).2 : Nat) : Int)) (((rdNum ((fT b17.tr).getD 2 Tr.z) 3 1099511627776).2 : Nat) : Int))]) (.blk b5 33 [.int .i64 (orE (orE (orE (orE (orE (orE (orE (decF xs).2 (((rdSeq b17.tr 135 (2 : Nat) (2 : Nat)).2 : Nat) : Int)) (((rdSeq ((wT b17.tr).getD 0 Tr.z) 134 (5 : Nat) (5 : Nat)).2 : Nat) : Int)) (((rdSeq ((wT b17.tr).getD 1 Tr.z) 131 (3 : Nat) (3 : Nat)).2 : Nat) : Int)) (((rdStr ((fT b17.tr).getD 0 Tr.z) 1 40).2 : Nat) : Int)) (((rdNum ((fT b17.tr).getD 1 Tr.z) 2 18446744073709551615).2 : Nat) : Int)) (((rdNum ((fT b17.tr).getD 2 Tr.z) 3 1099511627776).2 : Nat) : Int)) (((rdNum ((fT b17.tr).getD 3 Tr.z) 4 1099511627776).2 : Nat) : Int))]) rfl Try.hb51 rfl fun w h h2 => rdrNumF b5 (b33.2.getD 3 HT.z) ((fT b17.tr).getD 3 Tr.z) 4 1099511627776 (orE (orE (orE (orE (orE (orE (decF xs).2 (((rdSeq b17.tr 135 (2 : Nat) (2 : Nat)).2 : Nat) : Int)) (((rdSeq ((wT b17.tr).getD 0 Tr.z) 134 (5 : Nat) (5 : Nat)).2 : Nat) : Int)) (((rdSeq ((wT b17.tr).getD 1 Tr.z) 131 (3 : Nat) (3 : Nat)).2 : Nat) : Int)) (((rdStr ((fT b17.tr).getD 0 Tr.z) 1 40).2 : Nat) : Int)) (((rdNum ((fT b17.tr).getD 1 Tr.z) 2 18446744073709551615).2 : Nat) : Int)) (((rdNum ((fT b17.tr).getD 2 Tr.z) 3 1099511627776).2 : Nat) : Int)) w h2 (HSeen.lsK (y := b33) (hseen_rdo h zz4 zz15) zz11) (tr_get (show trs b33.2 = fT b17.tr from p33.1) 3)) rfl (fun _ => (fun w h => .inr (h.sub SubC.h SubC.h))) (fun b59 p59 => ?_)
     refine wpd_p 21 rfl zz6 trivial (q64_intN Try.underlying22 Try.underlying2 rfl zz28) rfl (fun w h => .inr (h.sub SubC.h SubC.h)) ?_
     refine wpd_p 22 rfl zz6 trivial (q_build (cs := [.int .i64 ((rdNum ((fT b17.tr).getD 2 Tr.z) 3 1099511627776).1.toNat : Int), .int .i64 ((rdNum ((fT b17.tr).getD 3 Tr.z) 4 1099511627776).1.toNat : Int)]) rfl zz6) rfl (fun w h => .inr (h.sub SubC.h SubC.h)) ?_
     refine wpd_p 23 rfl zz6 trivial (q_build (cs := [str (rdStr ((fT b17.tr).getD 0 Tr.z) 1 40).1, .int .u64 ((rdNum ((fT b17.tr).getD 1 Tr.z) 2 18446744073709551615).1.toNat : Int), .int .i64 ((rdNum ((fT b17.tr).getD 2 Tr.z) 3 1099511627776).1.toNat : Int), .int .i64 ((rdNum ((fT b17.tr).getD 3 Tr.z) 4 1099511627776).1.toNat : Int), nl, .int .i64 0, nl, nl]) rfl zz6) rfl (fun w h => .inr (h.sub SubC.h SubC.h)) ?_
     refine wpd_t0 25 rfl zz6 trivial (t_stA Try.ti30 rfl rfl LenC.h (OneC.cons rfl (OneC.cons rfl (OneC.cons rfl (OneC.cons rfl (OneC.cons rfl (OneC.cons rfl (OneC.cons rfl (OneC.cons rfl oneC_nil)))))))).h LenC.h) (fun _ => (fun w h => .inr (h.sub SubC.h SubC.h))) (fun _ => ?_)
     refine wpd_done zz6 ?_
     refine ex_mid ⟨b12, trivial⟩ ?_ ?_
     ·
      exact zz7
     ·
      exact fun w h => h.sel
   ·
    refine wpa_t 24 rfl trivial (t_alloc Try.ti30 Rv.z.c rfl) rfl (fun _ => (fun w h => .inr (h.sub SubC.h SubC.h))) (fun b12 => ?_)
    refine wpd_tp 4 rfl zz6 trivial (t_callU (.blk b5 33 [.int .i64 (orE (orE (orE (decF xs).2 (((rdSeq b17.tr 135 (2 : Nat) (2 : Nat)).2 : Nat) : Int)) (((rdSeq ((wT b17.tr).getD 0 Tr.z) 134 (5 : Nat) (5 : Nat)).2 : Nat) : Int)) (((rdSeq ((wT b17.tr).getD 1 Tr.z) 131 (3 : Nat) (3 : Nat)).2 : Nat) : Int))]) (.blk b5 33 [.int .i64 (orE (orE (orE (orE (decF xs).2 (((rdSeq b17.tr 135 (2 : Nat) (2 : Nat)).2 : Nat) : Int)) (((rdSeq ((wT b17.tr).getD 0 Tr.z) 134 (5 : Nat) (5 : Nat)).2 : Nat) : Int)) (((rdSeq ((wT b17.tr).getD 1 Tr.z) 131 (3 : Nat) (3 : Nat)).2 : Nat) : Int)) (((rdStr ((fT b17.tr).getD 0 Tr.z) 1 40).2 : Nat) : Int))]) rfl Try.hb53 rfl fun w h h2 => rdrStrF b5 (b33.2.getD 0 HT.z) ((fT b17.tr).getD 0 Tr.z) 1 40 (orE (orE (orE (decF xs).2 (((rdSeq b17.tr 135 (2 : Nat) (2 : Nat)).2 : Nat) : Int)) (((rdSeq ((wT b17.tr).getD 0 Tr.z) 134 (5 : Nat) (5 : Nat)).2 : Nat) : Int)) (((rdSeq ((wT b17.tr).getD 1 Tr.z) 131 (3 : Nat) (3 : Nat)).2 : Nat) : Int)) w h2 (HSeen.lsK (y := b33) (hseen_rdo h zz4 zz15) zz11) (tr_get (show trs b33.2 = fT b17.tr from p33.1) 0)) rfl (fun _ => (fun w h => .inr (h.sub SubC.h SubC.h))) (fun b43 p43 => ?_)
    refine wpd_tp 9 rfl zz6 trivial (t_callU (.blk b5 33 [.int .i64 (orE (orE (orE (orE (decF xs).2 (((rdSeq b17.tr 135 (2 : Nat) (2 : Nat)).2 : Nat) : Int)) (((rdSeq ((wT b17.tr).getD 0 Tr.z) 134 (5 : Nat) (5 : Nat)).2 : Nat) : Int)) (((rdSeq ((wT b17.tr).getD 1 Tr.z) 131 (3 : Nat) (3 : Nat)).2 : Nat) : Int)) (((rdStr ((fT b17.tr).getD 0 Tr.z) 1 40).2 : Nat) : Int))]) (.blk b5 33 [.int .i64 (orE (orE (orE (orE (orE (decF xs).2 (((rdSeq b17.tr 135 (2 : Nat) (2 : Nat)).2 : Nat) : Int)) (((rdSeq ((wT b17.tr).getD 0 Tr.z) 134 (5 : Nat) (5 : Nat)).2 : Nat) : Int)) (((rdSeq ((wT b17.tr).getD 1 Tr.z) 131 (3 : Nat) (3 : Nat)).2 : Nat) : Int)) (((rdStr ((fT b17.tr).getD 0 Tr.z) 1 40).2 : Nat) : Int)) (((rdNum ((fT b17.tr).getD 1 Tr.z) 2 18446744073709551615).2 : Nat) : Int))]) rfl Try.hb51 rfl fun w h h2 => rdrNumF b5 (b33.2.getD 1 HT.z) ((fT b17.tr).getD 1 Tr.z) 2 18446744073709551615 (orE (orE (orE (orE (decF xs).2 (((rdSeq b17.tr 135 (2 : Nat) (2 : Nat)).2 : Nat) : Int)) (((rdSeq ((wT b17.tr).getD 0 Tr.z) 134 (5 : Nat) (5 : Nat)).2 : Nat) : Int)) (((rdSeq ((wT b17.tr).getD 1 Tr.z) 131 (3 : Nat) (3 : Nat)).2 : Nat) : Int)) (((rdStr ((fT b17.tr).getD 0 Tr.z) 1 40).2 : Nat) : Int)) w h2 (HSeen.lsK (y := b33) (hseen_rdo h zz4 zz15) zz11) (tr_get (show trs b33.2 = fT b17.tr from p33.1) 1)) rfl (fun _ => (fun w h => .inr (h.sub SubC.h SubC.h))) (fun b48 p48 => ?_)
    refine wpd_tp 14 rfl zz6 trivial (t_callU (.blk b5 33 [.int .i64 (orE (orE (orE (orE (orE (decF xs).2 (((rdSeq b17.tr 135 (2 : Nat) (2 : Nat)).2 : Nat) : Int)) (((rdSeq ((wT b17.tr).getD 0 Tr.z) 134 (5 : Nat) (5 : Nat)).2 : Nat) : Int)) (((rdSeq ((wT b17.tr).getD 1 Tr.z) 131 (3 : Nat) (3 : Nat)).2 : Nat) : Int)) (((rdStr ((fT b17.tr).getD 0 Tr.z) 1 40).2 : Nat) : Int)) (((rdNum ((fT b17.tr).getD 1 Tr.z) 2 18446744073709551615).2 : Nat) : Int))]) (.blk b5 33 [.int .i64 (orE (orE (orE (orE (orE (orE (decF xs).2 (((rdSeq b17.tr 135 (2 : Nat) (2 : Nat)).2 : Nat) : Int)) (((rdSeq ((wT b17.tr).getD 0 Tr.z) 134 (5 : Nat) (5 : Nat)).2 : Nat) : Int)) (((rdSeq ((wT b17.tr).getD 1 Tr.z) 131 (3 : Nat) (3 : Nat)).2 : Nat) : Int)) (((rdStr ((fT b17.tr).getD 0 Tr.z) 1 40).2 : Nat) : Int)) (((rdNum ((fT b17.tr).getD 1 Tr.z) 2 18446744073709551615).2 : Nat) : Int)) (((rdNum ((fT b17.tr).getD 2 Tr.z) 3 1099511627776).2 : Nat) : Int))]) rfl Try.hb51 rfl fun w h h2 => rdrNumF b5 (b33.2.getD 2 HT.z) ((fT b17.tr).getD 2 Tr.z) 3 1099511627776 (orE (orE (orE (orE (orE (decF xs).2 (((rdSeq b17.tr 135 (2 : Nat) (2 : Nat)).2 : Nat) : Int)) (((rdSeq ((wT b17.tr).getD 0 Tr.z) 134 (5 : Nat) (5 : Nat)).2 : Nat) : Int)) (((rdSeq ((wT b17.tr).getD 1 Tr.z) 131 (3 : Nat) (3 : Nat)).2 : Nat) : Int)) (((rdStr ((fT b17.tr).getD 0 Tr.z) 1 40).2 : Nat) : Int)) (((rdNum ((fT b17.tr).getD 1 Tr.z) 2 18446744073709551615).2 : Nat) : Int)) w h2 (HSeen.lsK (y := b33) (hseen_rdo h zz4 zz15) zz11) (tr_get (show trs b33.2 = fT b17.tr from p33.1) 2)) rfl (fun _ => (fun w h => .inr (h.sub SubC.h SubC.h))) (fun b53 p53 => ?_)
    refine wpd_p 15 rfl zz6 trivial (q64_intN Try.underlying22 Try.underlying2 rfl zz31) rfl (fun w h => .inr (h.sub SubC.h SubC.h)) ?_
    refine wpd_tp 20 rfl zz6 trivial (t_callU (.blk b5 33 [.int .i64 (orE (orE (orE (orE (orE (orE (decF xs).2 (((rdSeq b17.tr 135 (2 : Nat) (2 : Nat)).2 : Nat) : Int)) (((rdSeq ((wT b17.tr).getD 0 Tr.z) 134 (5 : Nat) (5 : Nat)).2 : Nat) : Int)) (((rdSeq ((wT b17.tr).getD 1 Tr.z) 131 (3 : Nat) (3 : Nat)).2 : Nat) : Int)) (((rdStr ((fT b17.tr).getD 0 Tr.z) 1 40).2 : Nat) : Int)) (((rdNum ((fT b17.tr).getD 1 Tr.z) 2 18446744073709551615).2 : Nat) : Int)) (((rdNum ((fT b17.tr).getD 2 Tr.z) 3 1099511627776).2 : Nat) : Int))]) (.blk b5 33 [.int .i64 (orE (orE (orE (orE (orE (orE (orE (decF xs).2 (((rdSeq b17.tr 135 (2 : Nat) (2 : Nat)).2 : Nat) : Int)) (((rdSeq ((wT b17.tr).getD 0 Tr.z) 134 (5 : Nat) (5 : Nat)).2 : Nat) : Int)) (((rdSeq ((wT b17.tr).getD 1 Tr.z) 131 (3 : Nat) (3 : Nat)).2 : Nat) : Int)) (((rdStr ((fT b17.tr).getD 0 Tr.z) 1 40).2 : Nat) : Int)) (((rdNum ((fT b17.tr).getD 1 Tr.z) 2 18446744073709551615).2 : Nat) : Int)) (((rdNum ((fT b17.tr).getD 2 Tr.z) 3 1099511627776).2 : Nat) : Int)) (((rdNum ((fT b17.tr).getD 3 Tr.z) 4 1099511627776).2 : Nat) : Int))]) rfl Try.hb51 rfl fun w h h2 => rdrNumF b5 (b33.2.getD 3 HT.z) ((fT b17.tr).getD 3 Tr.z) 4 1099511627776 (orE (orE (orE (orE (orE (orE (decF xs).2 (((rdSeq b17.tr 135 (2 : Nat) (2 : Nat)).2 : Nat) : Int)) (((rdSeq ((wT b17.tr).getD 0 Tr.z) 134 (5 : Nat) (5 : Nat)).2 : Nat) : Int)) (((rdSeq ((wT b17.tr).getD 1 Tr.z) 131 (3 : Nat) (3 : Nat)).2 : Nat) : Int)) (((rdStr ((fT b17.tr).getD 0 Tr.z) 1 40).2 : Nat) : Int)) (((rdNum ((fT b17.tr).getD 1 Tr.z) 2 18446744073709551615).2 : Nat) : Int)) (((rdNum ((fT b17.tr).getD 2 Tr.z) 3 1099511627776).2 : Nat) : Int)) w h2 (HSeen.lsK (y := b33) (hseen_rdo h zz4 zz15) zz11) (tr_get (show trs b33.2 = fT b17.tr from p33.1) 3)) rfl (fun _ => (fun w h => .inr (h.sub SubC.h SubC.h))) (fun b59 p59 => ?_)
    refine wpd_p 21 rfl zz6 trivial (q64_intN Try.underlying22 Try.underlying2 rfl zz28) rfl (fun w h => .inr (h.sub SubC.h SubC.h)) ?_
    refine wpd_p 22 rfl zz6 trivial (q_build (cs := [.int .i64 ((rdNum ((fT b17.tr).getD 2 Tr.z) 3 1099511627776).1.toNat : Int), .int .i64 ((rdNum ((fT b17.tr).getD 3 Tr.z) 4 1099511627776).1.toNat : Int)]) rfl zz6) rfl (fun w h => .inr (h.sub SubC.h SubC.h)) ?_
    refine wpd_p 23 rfl zz6 trivial (q_build (cs := [str (rdStr ((fT b17.tr).getD 0 Tr.z) 1 40).1, .int .u64 ((rdNum ((fT b17.tr).getD 1 Tr.z) 2 18446744073709551615).1.toNat : Int), .int .i64 ((rdNum ((fT b17.tr).getD 2 Tr.z) 3 1099511627776).1.toNat : Int), .int .i64 ((rdNum ((fT b17.tr).getD 3 Tr.z) 4 1099511627776).1.toNat : Int), nl, .int .i64 0, nl, nl]) rfl zz6) rfl (fun w h => .inr (h.sub SubC.h SubC.h)) ?_
    refine wpd_t0 25 rfl zz6 trivial (t_stA Try.ti30 rfl rfl LenC.h (OneC.cons rfl (OneC.cons rfl (OneC.cons rfl (OneC.cons rfl (OneC.cons rfl (OneC.cons rfl (OneC.cons rfl (OneC.cons rfl oneC_nil)))))))).h LenC.h) (fun _ => (fun w h => .inr (h.sub SubC.h SubC.h))) (fun _ => ?_)
    refine wpd_done zz6 ?_
    refine ex_mid ⟨b12, trivial⟩ ?_ ?_
    ·
     exact zz7
    ·
     exact fun w h => h.sel
  ·
   rintro ⟨b12, _⟩; try dsimp only
   refine wpc_seq <| wpc_seq <| wpc_region <| wpl_q (q_pure rfl) rfl <| wpl_q (q_pure rfl) rfl ?_
   refine wpl_q (q_idxW (j := 4) Try.underlying70 Try.ti72 rfl rfl zz2 zz0) rfl ?_
   refine wpl_q (q_ldWN Try.underlying72 rfl Try.ti72 rfl (fun w h => HSeen.lsS (y := b33) (Mem.hseenF h zz4)) (b33.2.getD 4 HT.z).c (hcs_part zz11) LenC.h) rfl ?_
   refine wpl_tp (t_callLS (.blk b5 33 [.int .i64 (orE (orE (orE (orE (orE (orE (orE (decF xs).2 (((rdSeq b17.tr 135 (2 : Nat) (2 : Nat)).2 : Nat) : Int)) (((rdSeq ((wT b17.tr).getD 0 Tr.z) 134 (5 : Nat) (5 : Nat)).2 : Nat) : Int)) (((rdSeq ((wT b17.tr).getD 1 Tr.z) 131 (3 : Nat) (3 : Nat)).2 : Nat) : Int)) (((rdStr ((fT b17.tr).getD 0 Tr.z) 1 40).2 : Nat) : Int)) (((rdNum ((fT b17.tr).getD 1 Tr.z) 2 18446744073709551615).2 : Nat) : Int)) (((rdNum ((fT b17.tr).getD 2 Tr.z) 3 1099511627776).2 : Nat) : Int)) (((rdNum ((fT b17.tr).getD 3 Tr.z) 4 1099511627776).2 : Nat) : Int))]) (.blk b5 33 [.int .i64 (orE (orE (orE (orE (orE (orE (orE (orE (decF xs).2 (((rdSeq b17.tr 135 (2 : Nat) (2 : Nat)).2 : Nat) : Int)) (((rdSeq ((wT b17.tr).getD 0 Tr.z) 134 (5 : Nat) (5 : Nat)).2 : Nat) : Int)) (((rdSeq ((wT b17.tr).getD 1 Tr.z) 131 (3 : Nat) (3 : Nat)).2 : Nat) : Int)) (((rdStr ((fT b17.tr).getD 0 Tr.z) 1 40).2 : Nat) : Int)) (((rdNum ((fT b17.tr).getD 1 Tr.z) 2 18446744073709551615).2 : Nat) : Int)) (((rdNum ((fT b17.tr).getD 2 Tr.z) 3 1099511627776).2 : Nat) : Int)) (((rdNum ((fT b17.tr).getD 3 Tr.z) 4 1099511627776).2 : Nat) : Int)) (((rdSeq ((fT b17.tr).getD 4 Tr.z) 129 (0 : Nat) (500 : Nat)).2 : Nat) : Int))]) rfl Try.hb52 rfl fun w h h2 => rdrListF b5 (b33.2.getD 4 HT.z) ((fT b17.tr).getD 4 Tr.z) 129 0 500 (orE (orE (orE (orE (orE (orE (orE (decF xs).2 (((rdSeq b17.tr 135 (2 : Nat) (2 : Nat)).2 : Nat) : Int)) (((rdSeq ((wT b17.tr).getD 0 Tr.z) 134 (5 : Nat) (5 : Nat)).2 : Nat) : Int)) (((rdSeq ((wT b17.tr).getD 1 Tr.z) 131 (3 : Nat) (3 : Nat)).2 : Nat) : Int)) (((rdStr ((fT b17.tr).getD 0 Tr.z) 1 40).2 : Nat) : Int)) (((rdNum ((fT b17.tr).getD 1 Tr.z) 2 18446744073709551615).2 : Nat) : Int)) (((rdNum ((fT b17.tr).getD 2 Tr.z) 3 1099511627776).2 : Nat) : Int)) (((rdNum ((fT b17.tr).getD 3 Tr.z) 4 1099511627776).2 : Nat) : Int)) w h2 (HSeen.lsK (y := b33) (hseen_rdo h zz4 zz15) zz11) (tr_get (show trs b33.2 = fT b17.tr from p33.1) 4) (sm_get (lo := 5) (hi := 5) (sm_get hsmT 0) 4) zz18) rfl (fun b67 p67 => ?_)
   have hl67 : b67.2.length = (lT b17.tr).length := len_trs p67.1
   have hl500 := lT_le b17.tr
   have svl67 := p67.2.1
   refine wpl_q (q_lenW Try.underlying70 rfl zz2) rfl ?_
   refine wpl_q (q_pure rfl) rfl <| wpl_nil <| ex_then <| wpc_block ?_
   refine wpc_loopc (ι := { x : Nat × Value // (x.1 ≤ b67.2.length) ∧ (SV x.2 x.1) }) [(2, _), (5, _), (6, _), (7, _), (11, _), (12, _), (67, _), (68, _)] (fun x Lc => (69, .int .i64 ((x.1.1 : Nat) : Int)) :: Lc) (fun x => Mem w [] [.blk b12 30 [str (rdStr ((fT b17.tr).getD 0 Tr.z) 1 40).1, .int .u64 ((rdNum ((fT b17.tr).getD 1 Tr.z) 2 18446744073709551615).1.toNat : Int), .int .i64 ((rdNum ((fT b17.tr).getD 2 Tr.z) 3 1099511627776).1.toNat : Int), .int .i64 ((rdNum ((fT b17.tr).getD 3 Tr.z) 4 1099511627776).1.toNat : Int), x.1.2, .int .i64 0, nl, nl], .row x.1.2 x.1.1 22 1 (v64s (serS ((lT b17.tr).take x.1.1))), .blk b5 33 [.int .i64 (accE (orE (orE (orE (orE (orE (orE (orE (orE (decF xs).2 (((rdSeq b17.tr 135 (2 : Nat) (2 : Nat)).2 : Nat) : Int)) (((rdSeq ((wT b17.tr).getD 0 Tr.z) 134 (5 : Nat) (5 : Nat)).2 : Nat) : Int)) (((rdSeq ((wT b17.tr).getD 1 Tr.z) 131 (3 : Nat) (3 : Nat)).2 : Nat) : Int)) (((rdStr ((fT b17.tr).getD 0 Tr.z) 1 40).2 : Nat) : Int)) (((rdNum ((fT b17.tr).getD 1 Tr.z) 2 18446744073709551615).2 : Nat) : Int)) (((rdNum ((fT b17.tr).getD 2 Tr.z) 3 1099511627776).2 : Nat) : Int)) (((rdNum ((fT b17.tr).getD 3 Tr.z) 4 1099511627776).2 : Nat) : Int)) (((rdSeq ((fT b17.tr).getD 4 Tr.z) 129 (0 : Nat) (500 : Nat)).2 : Nat) : Int)) ((lT b17.tr).take x.1.1))], .blk b6 84 [(.func (.func 49) #[] #[.pointer (some ⟨b5, 0, none⟩)])], .blk b4 72 b17.c, .blk b2 30 Rv.z.c] [Go.Proofs.Ytgnablliekgbgaa.hseen (lsH b67), Go.Proofs.Ytgnablliekgbgaa.hseen (lsH b38), Go.Proofs.Ytgnablliekgbgaa.hseen (lsH b33), Go.Proofs.Ytgnablliekgbgaa.hseen (lsH b28), Go.Proofs.Ytgnablliekgbgaa.hseen b17]) (fun x => b67.2.length - x.1.1) ⟨(0, nl), ⟨Nat.zero_le _, SV.nil⟩⟩ zz7 ?_ ?_
   ·
    exact fun w h => by
      dsimp only
      rw [List.take_zero, accE_nil, show v64s (serS []) = [] from rfl]
      exact (h.nilRow 22 1).sel
   ·
    rintro ⟨⟨i, sv⟩, ⟨hi0, hi1⟩⟩; try dsimp only
    have hi0 : i ≤ b67.2.length := hi0; have hi1 : SV sv i := hi1
    refine wpc_seq <| wpc_region <| wpl_q (q_pure rfl) rfl <| wpl_nil <| ex_then <| wpc_seq ?_
    refine wpc_cond rfl (fun hc70 => ?_) (fun hc70 => ?_)
    ·
     simp only [decide_eq_true_eq] at hc70
     have hil : i < b67.2.length := by omega
     haveI := (p67.2.2 (b67.2.getD i HT.z) (getD_memH hil)).one
     have hi1 := hi1
     refine wpc_skip <| ex_then <| wpc_seq <| wpc_block <| wpc_seq <| wpc_region ?_
     refine wpl_q (q_idxW Try.underlying70 Try.ti72 rfl rfl zz2 zz0) rfl ?_
     refine wpl_q (q_ldWN Try.underlying72 rfl Try.ti72 rfl (fun w h => HSeen.lsS (y := b67) (Mem.hseenF h zz4)) (b67.2.getD i HT.z).c (hcs_part hil) LenC.h) rfl ?_
     refine wpl_t (t_alloc Try.ti72 HT.z.c rfl) rfl (fun b14 => ?_)
     refine wpl_t0 (t_stA Try.ti72 rfl rfl LenC.h OneC.h LenC.h) (fun _ => ?_)
     refine wpl_nil <| ex_then ?_
     refine wpc_drawM [.blk b14 72 (b67.2.getD i HT.z).c, .blk b12 30 [str (rdStr ((fT b17.tr).getD 0 Tr.z) 1 40).1, .int .u64 ((rdNum ((fT b17.tr).getD 1 Tr.z) 2 18446744073709551615).1.toNat : Int), .int .i64 ((rdNum ((fT b17.tr).getD 2 Tr.z) 3 1099511627776).1.toNat : Int), .int .i64 ((rdNum ((fT b17.tr).getD 3 Tr.z) 4 1099511627776).1.toNat : Int), sv, .int .i64 0, nl, nl]] 6 zz6 zz5 ?_
     refine wpd_p 0 rfl zz6 trivial (q_field Try.underlying30 rfl Try.ti25 rfl rfl _ rfl) rfl (fun w h => .inr (h.sub SubC.h SubC.h)) ?_
     refine wpd_q 1 rfl zz6 trivial (q_ld Try.underlying25 rfl rfl rfl) rfl (fun w h => h.sub SubC.h SubC.h) ?_
     refine wpd_p 2 rfl zz6 trivial (q_pure rfl) rfl (fun w h => .inr (h.sub SubC.h SubC.h)) ?_
     refine wpd_qB 3 [4, 5, 6] rfl zz6 trivial (q_ldN Try.underlying72 rfl Try.ti72 rfl LenC.h) rfl (fun w h => h.sub SubC.h SubC.h) ?_
     refine wpd_tp 4 rfl zz6 trivial (t_callU (.blk b5 33 [.int .i64 (accE (orE (orE (orE (orE (orE (orE (orE (orE (decF xs).2 (((rdSeq b17.tr 135 (2 : Nat) (2 : Nat)).2 : Nat) : Int)) (((rdSeq ((wT b17.tr).getD 0 Tr.z) 134 (5 : Nat) (5 : Nat)).2 : Nat) : Int)) (((rdSeq ((wT b17.tr).getD 1 Tr.z) 131 (3 : Nat) (3 : Nat)).2 : Nat) : Int)) (((rdStr ((fT b17.tr).getD 0 Tr.z) 1 40).2 : Nat) : Int)) (((rdNum ((fT b17.tr).getD 1 Tr.z) 2 18446744073709551615).2 : Nat) : Int)) (((rdNum ((fT b17.tr).getD 2 Tr.z) 3 1099511627776).2 : Nat) : Int)) (((rdNum ((fT b17.tr).getD 3 Tr.z) 4 1099511627776).2 : Nat) : Int)) (((rdSeq ((fT b17.tr).getD 4 Tr.z) 129 (0 : Nat) (500 : Nat)).2 : Nat) : Int)) ((lT b17.tr).take i))]) (.blk b5 33 [.int .i64 (orE (accE (orE (orE (orE (orE (orE (orE (orE (orE (decF xs).2 (((rdSeq b17.tr 135 (2 : Nat) (2 : Nat)).2 : Nat) : Int)) (((rdSeq ((wT b17.tr).getD 0 Tr.z) 134 (5 : Nat) (5 : Nat)).2 : Nat) : Int)) (((rdSeq ((wT b17.tr).getD 1 Tr.z) 131 (3 : Nat) (3 : Nat)).2 : Nat) : Int)) (((rdStr ((fT b17.tr).getD 0 Tr.z) 1 40).2 : Nat) : Int)) (((rdNum ((fT b17.tr).getD 1 Tr.z) 2 18446744073709551615).2 : Nat) : Int)) (((rdNum ((fT b17.tr).getD 2 Tr.z) 3 1099511627776).2 : Nat) : Int)) (((rdNum ((fT b17.tr).getD 3 Tr.z) 4 1099511627776).2 : Nat) : Int)) (((rdSeq ((fT b17.tr).getD 4 Tr.z) 129 (0 : Nat) (500 : Nat)).2 : Nat) : Int)) ((lT b17.tr).take i)) ((((rdNum ((lT b17.tr).getD i Tr.z) 5 18446744073709551615).2 : Nat)) : Int))]) rfl Try.hb51 rfl fun w h h2 => rdrNumF b5 (b67.2.getD i HT.z) ((lT b17.tr).getD i Tr.z) 5 18446744073709551615 (accE (orE (orE (orE (orE (orE (orE (orE (orE (decF xs).2 (((rdSeq b17.tr 135 (2 : Nat) (2 : Nat)).2 : Nat) : Int)) (((rdSeq ((wT b17.tr).getD 0 Tr.z) 134 (5 : Nat) (5 : Nat)).2 : Nat) : Int)) (((rdSeq ((wT b17.tr).getD 1 Tr.z) 131 (3 : Nat) (3 : Nat)).2 : Nat) : Int)) (((rdStr ((fT b17.tr).getD 0 Tr.z) 1 40).2 : Nat) : Int)) (((rdNum ((fT b17.tr).getD 1 Tr.z) 2 18446744073709551615).2 : Nat) : Int)) (((rdNum ((fT b17.tr).getD 2 Tr.z) 3 1099511627776).2 : Nat) : Int)) (((rdNum ((fT b17.tr).getD 3 Tr.z) 4 1099511627776).2 : Nat) : Int)) (((rdSeq ((fT b17.tr).getD 4 Tr.z) 129 (0 : Nat) (500 : Nat)).2 : Nat) : Int)) ((lT b17.tr).take i)) w h2 (HSeen.lsK (y := b67) (hseen_rdo h zz4 zz15) hil) (tr_get (show trs b67.2 = lT b17.tr from p67.1) i)) rfl (fun _ => (fun w h => .inr (h.sub SubC.h SubC.h))) (fun b77 p77 => ?_)
     refine wpd_tp 5 rfl zz6 trivial (t_bsG [.int .u64 ((rdNum ((lT b17.tr).getD i Tr.z) 5 18446744073709551615).1.toNat : Int)] (v64s [(rdNum ((lT b17.tr).getD i Tr.z) 5 18446744073709551615).1]) Try.underlying25 Try.ti22 rfl zz18 rfl zz18 zz18 rfl (by intro v hv; rw [List.mem_singleton] at hv; subst hv; rfl) rfl) rfl (fun _ => (fun w h => .inr (h.sub SubC.h SubC.h))) (fun b78 p78 => ?_)
     refine wpd_tp 6 rfl zz6 trivial (t_apW Try.underlying25 Try.ti22 rfl zz18 rfl rfl (fun w h => zz12) (v64s_one _) zz0 zz0 (v64s (serS ((lT b17.tr).take (i + 1)))) (by rw [serS_S (by omega : i < (lT b17.tr).length)]; simp [v64s])) rfl (fun _ => skk rfl) (fun b79 p79 => ?_)
     refine wpd_p 7 rfl zz6 trivial (q_field Try.underlying30 rfl Try.ti25 rfl rfl _ rfl) rfl (skk rfl) ?_
     refine wpd_t0 8 rfl zz6 trivial (t_st1 Try.ti25 rfl rfl (SV.one zz2) zz3 [str (rdStr ((fT b17.tr).getD 0 Tr.z) 1 40).1, .int .u64 ((rdNum ((fT b17.tr).getD 1 Tr.z) 2 18446744073709551615).1.toNat : Int), .int .i64 ((rdNum ((fT b17.tr).getD 2 Tr.z) 3 1099511627776).1.toNat : Int), .int .i64 ((rdNum ((fT b17.tr).getD 3 Tr.z) 4 1099511627776).1.toNat : Int), b79, .int .i64 0, nl, nl] rfl) (fun _ => skk rfl) (fun _ => ?_)
     refine wpd_done zz6 ?_
     refine ex_block <| ex_then <| wpc_region ?_
     refine wpl_q (q_addN (b := 1) rfl rfl zz0) rfl ?_
     refine wpl_q (q_pure rfl) rfl <| wpl_nil ?_
     refine ex_again ⟨(i + 1, b79), ⟨by show i + 1 ≤ b67.2.length; omega, p79⟩⟩ ?_ ?_ ?_
     ·
      exact zz7
     ·
      exact fun w h => (by
        dsimp only
        rw [accE_S (by omega : i < (lT b17.tr).length)]
        exact h.sel)
     ·
      (show b67.2.length - (i + 1) < b67.2.length - i); omega
    ·
     simp only [decide_eq_false_iff_not] at hc70
     obtain rfl : i = (lT b17.tr).length := by omega
     rw [List.take_length]
     have hi1 : SV sv (lT b17.tr).length := hi1
     refine wpc_exit ?_
     refine ex_then_exit ?_
     refine ex_then_exit ?_
     refine ex_block_hit ?_
     refine ex_then <| wpc_seq ?_
     refine wpc_drawM [.blk b6 84 [(.func (.func 49) #[] #[.pointer (some ⟨b5, 0, none⟩)])]] 99 zz6 zz5 ?_
     refine wpd_p 0 rfl zz6 trivial (q_pure rfl) rfl (fun w h => .inr (h.sub SubC.h SubC.h)) ?_
     refine wpd_p 1 rfl zz6 trivial (q_pure rfl) rfl (fun w h => .inr (h.sub SubC.h SubC.h)) ?_
     refine wpd_p 2 rfl zz6 trivial (q_idxW (j := 0) Try.underlying70 Try.ti72 rfl rfl zz2 zz0) rfl (fun w h => .inr (h.sub SubC.h SubC.h)) ?_
     refine wpd_q 3 rfl zz6 trivial (q_ldWN Try.underlying72 rfl Try.ti72 rfl (fun w h => HSeen.lsS (y := b38) (Mem.hseenF h zz4)) (b38.2.getD 0 HT.z).c (hcs_part zz11) LenC.h) rfl (fun w h => h.sub SubC.h SubC.h) ?_
     refine wpd_q 6 rfl zz6 trivial (q_ldN Try.underlying84 rfl Try.ti84 rfl LenC.h) rfl (fun w h => h.sub SubC.h SubC.h) ?_
     refine wpd_p 7 rfl zz6 trivial (q_pure rfl) rfl (fun w h => .inr (h.sub SubC.h SubC.h)) ?_
     refine wpd_p 8 rfl zz6 trivial (q_idxW (j := 1) Try.underlying70 Try.ti72 rfl rfl zz2 zz0) rfl (fun w h => .inr (h.sub SubC.h SubC.h)) ?_
     refine wpd_q 9 rfl zz6 trivial (q_ldWN Try.underlying72 rfl Try.ti72 rfl (fun w h => HSeen.lsS (y := b38) (Mem.hseenF h zz4)) (b38.2.getD 1 HT.z).c (hcs_part zz11) LenC.h) rfl (fun w h => h.sub SubC.h SubC.h) ?_
     refine wpd_q 11 rfl zz6 trivial (q_ldN Try.underlying84 rfl Try.ti84 rfl LenC.h) rfl (fun w h => h.sub SubC.h SubC.h) ?_
     refine wpd_p 12 rfl zz6 trivial (q_pure rfl) rfl (fun w h => .inr (h.sub SubC.h SubC.h)) ?_
     refine wpd_p 13 rfl zz6 trivial (q_idxW (j := 2) Try.underlying70 Try.ti72 rfl rfl zz2 zz0) rfl (fun w h => .inr (h.sub SubC.h SubC.h)) ?_
     refine wpd_q 14 rfl zz6 trivial (q_ldWN Try.underlying72 rfl Try.ti72 rfl (fun w h => HSeen.lsS (y := b38) (Mem.hseenF h zz4)) (b38.2.getD 2 HT.z).c (hcs_part zz11) LenC.h) rfl (fun w h => h.sub SubC.h SubC.h) ?_
     refine wpd_tp 4 rfl zz6 trivial (t_callU (.blk b5 33 [.int .i64 (accE (orE (orE (orE (orE (orE (orE (orE (orE (decF xs).2 (((rdSeq b17.tr 135 (2 : Nat) (2 : Nat)).2 : Nat) : Int)) (((rdSeq ((wT b17.tr).getD 0 Tr.z) 134 (5 : Nat) (5 : Nat)).2 : Nat) : Int)) (((rdSeq ((wT b17.tr).getD 1 Tr.z) 131 (3 : Nat) (3 : Nat)).2 : Nat) : Int)) (((rdStr ((fT b17.tr).getD 0 Tr.z) 1 40).2 : Nat) : Int)) (((rdNum ((fT b17.tr).getD 1 Tr.z) 2 18446744073709551615).2 : Nat) : Int)) (((rdNum ((fT b17.tr).getD 2 Tr.z) 3 1099511627776).2 : Nat) : Int)) (((rdNum ((fT b17.tr).getD 3 Tr.z) 4 1099511627776).2 : Nat) : Int)) (((rdSeq ((fT b17.tr).getD 4 Tr.z) 129 (0 : Nat) (500 : Nat)).2 : Nat) : Int)) (lT b17.tr))]) (.blk b5 33 [.int .i64 (orE (accE (orE (orE (orE (orE (orE (orE (orE (orE (decF xs).2 (((rdSeq b17.tr 135 (2 : Nat) (2 : Nat)).2 : Nat) : Int)) (((rdSeq ((wT b17.tr).getD 0 Tr.z) 134 (5 : Nat) (5 : Nat)).2 : Nat) : Int)) (((rdSeq ((wT b17.tr).getD 1 Tr.z) 131 (3 : Nat) (3 : Nat)).2 : Nat) : Int)) (((rdStr ((fT b17.tr).getD 0 Tr.z) 1 40).2 : Nat) : Int)) (((rdNum ((fT b17.tr).getD 1 Tr.z) 2 18446744073709551615).2 : Nat) : Int)) (((rdNum ((fT b17.tr).getD 2 Tr.z) 3 1099511627776).2 : Nat) : Int)) (((rdNum ((fT b17.tr).getD 3 Tr.z) 4 1099511627776).2 : Nat) : Int)) (((rdSeq ((fT b17.tr).getD 4 Tr.z) 129 (0 : Nat) (500 : Nat)).2 : Nat) : Int)) (lT b17.tr)) (((rdNum ((gT b17.tr).getD 0 Tr.z) 1 16).2 : Nat) : Int))]) rfl Try.hb51 rfl fun w h h2 => rdrNumF b5 (b38.2.getD 0 HT.z) ((gT b17.tr).getD 0 Tr.z) 1 16 (accE (orE (orE (orE (orE (orE (orE (orE (orE (decF xs).2 (((rdSeq b17.tr 135 (2 : Nat) (2 : Nat)).2 : Nat) : Int)) (((rdSeq ((wT b17.tr).getD 0 Tr.z) 134 (5 : Nat) (5 : Nat)).2 : Nat) : Int)) (((rdSeq ((wT b17.tr).getD 1 Tr.z) 131 (3 : Nat) (3 : Nat)).2 : Nat) : Int)) (((rdStr ((fT b17.tr).getD 0 Tr.z) 1 40).2 : Nat) : Int)) (((rdNum ((fT b17.tr).getD 1 Tr.z) 2 18446744073709551615).2 : Nat) : Int)) (((rdNum ((fT b17.tr).getD 2 Tr.z) 3 1099511627776).2 : Nat) : Int)) (((rdNum ((fT b17.tr).getD 3 Tr.z) 4 1099511627776).2 : Nat) : Int)) (((rdSeq ((fT b17.tr).getD 4 Tr.z) 129 (0 : Nat) (500 : Nat)).2 : Nat) : Int)) (lT b17.tr)) w h2 (HSeen.lsK (y := b38) (hseen_rdo h zz4 zz15) zz11) (tr_get (show trs b38.2 = gT b17.tr from p38.1) 0)) rfl (fun _ => (fun w h => .inr (h.sub SubC.h SubC.h))) (fun b86 p86 => ?_)
     refine wpd_p 5 rfl zz6 trivial (q64_intN Try.underlying22 Try.underlying3 rfl (by have := rdNum_le ((gT b17.tr).getD 0 Tr.z) 1 16; have e : (16 : UInt64).toNat = 16 := rfl; omega)) rfl (fun w h => .inr (h.sub SubC.h SubC.h)) ?_
     refine wpd_tp 10 rfl zz6 trivial (t_callUR (.blk b5 33 [.int .i64 (orE (accE (orE (orE (orE (orE (orE (orE (orE (orE (decF xs).2 (((rdSeq b17.tr 135 (2 : Nat) (2 : Nat)).2 : Nat) : Int)) (((rdSeq ((wT b17.tr).getD 0 Tr.z) 134 (5 : Nat) (5 : Nat)).2 : Nat) : Int)) (((rdSeq ((wT b17.tr).getD 1 Tr.z) 131 (3 : Nat) (3 : Nat)).2 : Nat) : Int)) (((rdStr ((fT b17.tr).getD 0 Tr.z) 1 40).2 : Nat) : Int)) (((rdNum ((fT b17.tr).getD 1 Tr.z) 2 18446744073709551615).2 : Nat) : Int)) (((rdNum ((fT b17.tr).getD 2 Tr.z) 3 1099511627776).2 : Nat) : Int)) (((rdNum ((fT b17.tr).getD 3 Tr.z) 4 1099511627776).2 : Nat) : Int)) (((rdSeq ((fT b17.tr).getD 4 Tr.z) 129 (0 : Nat) (500 : Nat)).2 : Nat) : Int)) (lT b17.tr)) (((rdNum ((gT b17.tr).getD 0 Tr.z) 1 16).2 : Nat) : Int))]) (.blk b5 33 [.int .i64 (orE (orE (orE (accE (orE (orE (orE (orE (orE (orE (orE (orE (decF xs).2 (((rdSeq b17.tr 135 (2 : Nat) (2 : Nat)).2 : Nat) : Int)) (((rdSeq ((wT b17.tr).getD 0 Tr.z) 134 (5 : Nat) (5 : Nat)).2 : Nat) : Int)) (((rdSeq ((wT b17.tr).getD 1 Tr.z) 131 (3 : Nat) (3 : Nat)).2 : Nat) : Int)) (((rdStr ((fT b17.tr).getD 0 Tr.z) 1 40).2 : Nat) : Int)) (((rdNum ((fT b17.tr).getD 1 Tr.z) 2 18446744073709551615).2 : Nat) : Int)) (((rdNum ((fT b17.tr).getD 2 Tr.z) 3 1099511627776).2 : Nat) : Int)) (((rdNum ((fT b17.tr).getD 3 Tr.z) 4 1099511627776).2 : Nat) : Int)) (((rdSeq ((fT b17.tr).getD 4 Tr.z) 129 (0 : Nat) (500 : Nat)).2 : Nat) : Int)) (lT b17.tr)) (((rdNum ((gT b17.tr).getD 0 Tr.z) 1 16).2 : Nat) : Int)) (((rdStr ((gT b17.tr).getD 1 Tr.z) 2 65536).2 : Nat) : Int)) (shE (rdStr ((gT b17.tr).getD 1 Tr.z) 2 65536).1))]) rfl Try.hb54 rfl fun w h h2 => rdrShF b5 (b38.2.getD 1 HT.z) ((gT b17.tr).getD 1 Tr.z) 2 (orE (accE (orE (orE (orE (orE (orE (orE (orE (orE (decF xs).2 (((rdSeq b17.tr 135 (2 : Nat) (2 : Nat)).2 : Nat) : Int)) (((rdSeq ((wT b17.tr).getD 0 Tr.z) 134 (5 : Nat) (5 : Nat)).2 : Nat) : Int)) (((rdSeq ((wT b17.tr).getD 1 Tr.z) 131 (3 : Nat) (3 : Nat)).2 : Nat) : Int)) (((rdStr ((fT b17.tr).getD 0 Tr.z) 1 40).2 : Nat) : Int)) (((rdNum ((fT b17.tr).getD 1 Tr.z) 2 18446744073709551615).2 : Nat) : Int)) (((rdNum ((fT b17.tr).getD 2 Tr.z) 3 1099511627776).2 : Nat) : Int)) (((rdNum ((fT b17.tr).getD 3 Tr.z) 4 1099511627776).2 : Nat) : Int)) (((rdSeq ((fT b17.tr).getD 4 Tr.z) 129 (0 : Nat) (500 : Nat)).2 : Nat) : Int)) (lT b17.tr)) (((rdNum ((gT b17.tr).getD 0 Tr.z) 1 16).2 : Nat) : Int)) w h2 (HSeen.lsK (y := b38) (hseen_rdo h zz4 zz15) zz11) (tr_get (show trs b38.2 = gT b17.tr from p38.1) 1) (bs_le (sm_get (lo := 3) (hi := 3) (sm_get hsmT 1) 1))) rfl (fun _ => (fun w h => .inr (h.sub SubC.h SubC.h))) (fun b92 p92 => ?_)
     refine wpd_tp 15 rfl zz6 trivial (t_callUR (.blk b5 33 [.int .i64 (orE (orE (orE (accE (orE (orE (orE (orE (orE (orE (orE (orE (decF xs).2 (((rdSeq b17.tr 135 (2 : Nat) (2 : Nat)).2 : Nat) : Int)) (((rdSeq ((wT b17.tr).getD 0 Tr.z) 134 (5 : Nat) (5 : Nat)).2 : Nat) : Int)) (((rdSeq ((wT b17.tr).getD 1 Tr.z) 131 (3 : Nat) (3 : Nat)).2 : Nat) : Int)) (((rdStr ((fT b17.tr).getD 0 Tr.z) 1 40).2 : Nat) : Int)) (((rdNum ((fT b17.tr).getD 1 Tr.z) 2 18446744073709551615).2 : Nat) : Int)) (((rdNum ((fT b17.tr).getD 2 Tr.z) 3 1099511627776).2 : Nat) : Int)) (((rdNum ((fT b17.tr).getD 3 Tr.z) 4 1099511627776).2 : Nat) : Int)) (((rdSeq ((fT b17.tr).getD 4 Tr.z) 129 (0 : Nat) (500 : Nat)).2 : Nat) : Int)) (lT b17.tr)) (((rdNum ((gT b17.tr).getD 0 Tr.z) 1 16).2 : Nat) : Int)) (((rdStr ((gT b17.tr).getD 1 Tr.z) 2 65536).2 : Nat) : Int)) (shE (rdStr ((gT b17.tr).getD 1 Tr.z) 2 65536).1))]) (.blk b5 33 [.int .i64 (orE (orE (orE (orE (orE (accE (orE (orE (orE (orE (orE (orE (orE (orE (decF xs).2 (((rdSeq b17.tr 135 (2 : Nat) (2 : Nat)).2 : Nat) : Int)) (((rdSeq ((wT b17.tr).getD 0 Tr.z) 134 (5 : Nat) (5 : Nat)).2 : Nat) : Int)) (((rdSeq ((wT b17.tr).getD 1 Tr.z) 131 (3 : Nat) (3 : Nat)).2 : Nat) : Int)) (((rdStr ((fT b17.tr).getD 0 Tr.z) 1 40).2 : Nat) : Int)) (((rdNum ((fT b17.tr).getD 1 Tr.z) 2 18446744073709551615).2 : Nat) : Int)) (((rdNum ((fT b17.tr).getD 2 Tr.z) 3 1099511627776).2 : Nat) : Int)) (((rdNum ((fT b17.tr).getD 3 Tr.z) 4 1099511627776).2 : Nat) : Int)) (((rdSeq ((fT b17.tr).getD 4 Tr.z) 129 (0 : Nat) (500 : Nat)).2 : Nat) : Int)) (lT b17.tr)) (((rdNum ((gT b17.tr).getD 0 Tr.z) 1 16).2 : Nat) : Int)) (((rdStr ((gT b17.tr).getD 1 Tr.z) 2 65536).2 : Nat) : Int)) (shE (rdStr ((gT b17.tr).getD 1 Tr.z) 2 65536).1)) (((rdStr ((gT b17.tr).getD 2 Tr.z) 3 65536).2 : Nat) : Int)) (shE (rdStr ((gT b17.tr).getD 2 Tr.z) 3 65536).1))]) rfl Try.hb54 rfl fun w h h2 => rdrShF b5 (b38.2.getD 2 HT.z) ((gT b17.tr).getD 2 Tr.z) 3 (orE (orE (orE (accE (orE (orE (orE (orE (orE (orE (orE (orE (decF xs).2 (((rdSeq b17.tr 135 (2 : Nat) (2 : Nat)).2 : Nat) : Int)) (((rdSeq ((wT b17.tr).getD 0 Tr.z) 134 (5 : Nat) (5 : Nat)).2 : Nat) : Int)) (((rdSeq ((wT b17.tr).getD 1 Tr.z) 131 (3 : Nat) (3 : Nat)).2 : Nat) : Int)) (((rdStr ((fT b17.tr).getD 0 Tr.z) 1 40).2 : Nat) : Int)) (((rdNum ((fT b17.tr).getD 1 Tr.z) 2 18446744073709551615).2 : Nat) : Int)) (((rdNum ((fT b17.tr).getD 2 Tr.z) 3 1099511627776).2 : Nat) : Int)) (((rdNum ((fT b17.tr).getD 3 Tr.z) 4 1099511627776).2 : Nat) : Int)) (((rdSeq ((fT b17.tr).getD 4 Tr.z) 129 (0 : Nat) (500 : Nat)).2 : Nat) : Int)) (lT b17.tr)) (((rdNum ((gT b17.tr).getD 0 Tr.z) 1 16).2 : Nat) : Int)) (((rdStr ((gT b17.tr).getD 1 Tr.z) 2 65536).2 : Nat) : Int)) (shE (rdStr ((gT b17.tr).getD 1 Tr.z) 2 65536).1)) w h2 (HSeen.lsK (y := b38) (hseen_rdo h zz4 zz15) zz11) (tr_get (show trs b38.2 = gT b17.tr from p38.1) 2) (bs_le (sm_get (lo := 3) (hi := 3) (sm_get hsmT 1) 2))) rfl (fun _ => (fun w h => .inr (h.sub SubC.h SubC.h))) (fun b97 p97 => ?_)
     refine wpd_p 16 rfl zz6 trivial (q_build (cs := [.int .i64 (((rdNum ((gT b17.tr).getD 0 Tr.z) 1 16).1.toNat : Nat) : Int), b92, b97]) rfl (built_sg p92 p97)) rfl (fun w h => .inr (h.sub SubC.h SubC.h)) ?_
     have hnmO : (rdStr ((fT b17.tr).getD 0 Tr.z) 1 40).1.length ≤ maxLen := by
       have q1 := rdStr_le ((fT b17.tr).getD 0 Tr.z) 1 40
       have q2 : (((fT b17.tr).getD 0 Tr.z)).bs.length ≤ 1000000 := bs_le (sm_get (lo := 5) (hi := 5) (sm_get hsmT 0) 0)
       unfold maxLen; omega
     haveI : OneC (outR b17.tr sv b92 b97).c := Rv.svs.one (l := (outR b17.tr sv b92 b97)) ⟨by show SV sv (serS (lT b17.tr)).length; rw [serS_len]; exact hi1, p92, p97⟩
     refine wpd_p 17 rfl zz6 trivial (q_field Try.underlying30 rfl Try.ti28 rfl rfl _ rfl) rfl (fun w h => .inr (h.sub SubC.h SubC.h)) ?_
     refine wpd_t0 18 rfl zz6 trivial (t_stP Try.ti28 rfl rfl zz8 (OneC.cons rfl (OneC.cons (SV.one p92) (OneC.cons (SV.one p97) oneC_nil))).h zz3 (outR b17.tr sv b92 b97).c rfl) (fun _ => (fun w h => .inr (h.sub SubC.h SubC.h))) (fun _ => ?_)
     refine wpd_done zz6 ?_
     refine ex_then <| wpc_seq <| wpc_seq <| wpc_region ?_
     refine wpl_q (q_ld Try.underlying33 rfl rfl zz23) rfl ?_
     refine wpl_q (q_pure rfl) rfl <| wpl_q (q_pure rfl) rfl ?_
     refine wpl_bool2 102 101 rfl rfl (fun hb102 => ?_) (fun hb102 => ?_)
     ·
      try simp only [decide_eq_true_eq, decide_eq_false_iff_not, Bool.and_eq_true, Bool.or_eq_true, beq_iff_eq, bne_iff_ne, ne_eq, Bool.not_eq_true', Bool.not_eq_false', Decidable.not_not] at hb102
      refine wpl_off rfl rfl rfl rfl <| wpl_off rfl rfl rfl rfl <| wpl_off rfl rfl rfl rfl <| wpl_q (q_pure rfl) rfl <| wpl_nil <| ex_then ?_
      refine wpc_cond_t rfl ?_
      refine wpc_seq <| wpc_region ?_
      refine wpl_q (q_build (cs := Rv.z.c) rfl built_rz) rfl ?_
      refine wpl_t0 (t_stA Try.ti30 rfl rfl LenC.h OneC.h LenC.h) (fun _ => ?_)
      refine wpl_q (q_pure rfl) rfl <| wpl_nil <| ex_then <| wpc_ret ?_
      refine ex_then_ret ?_
      refine retv2 (.inl rfl) rfl (rv_agg Try.underlying30 rfl Try.ti30 rfl (fun w h => h.atB) zz8) (rv_tmp rfl) ?_
      exact fun w1 h => ⟨(Rv.z, 12), ⟨zz43, Rv.z_svs⟩, rfl, h.below, rvE_z h⟩
     ·
      try simp only [decide_eq_true_eq, decide_eq_false_iff_not, Bool.and_eq_true, Bool.or_eq_true, beq_iff_eq, bne_iff_ne, ne_eq, Bool.not_eq_true', Bool.not_eq_false', Decidable.not_not] at hb102
      refine wpl_on rfl rfl <| wpl_q (q_ldN Try.underlying30 rfl Try.ti30 rfl LenC.h) rfl <| wpl_on rfl rfl ?_
      refine wpl_t (t_pur Try.hb12 rfl fun w h => rvCheck (outR b17.tr sv b92 b97) w ⟨(by rw [show ((outR b17.tr sv b92 b97)).ss.length = (lT b17.tr).length from serS_len _]; exact h.seen_row zz4), h.seen_row zz4, shK_all, h.seen_row zz4, shK_all⟩ hnmO) rfl (fun b104 => ?_)
      refine wpl_on rfl rfl <| wpl_q (q_pure rfl) rfl <| wpl_q (q_pure rfl) rfl <| wpl_nil <| ex_then ?_
      refine wpc_cond rfl (fun hc106 => ?_) (fun hc106 => ?_)
      ·
       try simp only [decide_eq_true_eq, decide_eq_false_iff_not, Bool.and_eq_true, Bool.or_eq_true, beq_iff_eq, bne_iff_ne, ne_eq, Bool.not_eq_true', Bool.not_eq_false', Decidable.not_not] at hc106
       refine wpc_seq <| wpc_region ?_
       refine wpl_q (q_build (cs := Rv.z.c) rfl built_rz) rfl ?_
       refine wpl_t0 (t_stA Try.ti30 rfl rfl LenC.h OneC.h LenC.h) (fun _ => ?_)
       refine wpl_q (q_pure rfl) rfl <| wpl_nil <| ex_then <| wpc_ret ?_
       refine ex_then_ret ?_
       refine retv2 (.inl rfl) rfl (rv_agg Try.underlying30 rfl Try.ti30 rfl (fun w h => h.atB) zz8) (rv_tmp rfl) ?_
       exact fun w1 h => ⟨(Rv.z, 12), ⟨zz43, Rv.z_svs⟩, rfl, h.below, rvE_z h⟩
      ·
       try simp only [decide_eq_true_eq, decide_eq_false_iff_not, Bool.and_eq_true, Bool.or_eq_true, beq_iff_eq, bne_iff_ne, ne_eq, Bool.not_eq_true', Bool.not_eq_false', Decidable.not_not] at hc106
       refine wpc_skip <| ex_then <| wpc_seq <| wpc_region <| wpl_q (q_ldN Try.underlying30 rfl Try.ti30 rfl LenC.h) rfl ?_
       refine wpl_t0 (t_stA Try.ti30 rfl rfl LenC.h OneC.h LenC.h) (fun _ => ?_)
       refine wpl_q (q_pure rfl) rfl <| wpl_nil <| ex_then <| wpc_ret ?_
       refine retv2 (.inl rfl) rfl (rv_agg Try.underlying30 rfl Try.ti30 rfl (fun w h => h.atB) zz8) (rv_tmp rfl) ?_
       exact fun w1 h => ⟨((outR b17.tr sv b92 b97), 0), ⟨by have q := dec_yes (xs := xs) (sv := sv) (cv := b92) (pv := b97) (by rw [← p17.1]; exact bne_f hb102) (by rw [← p17.1]; first | exact hc106 | exact bne_f hc106); rwa [← p17.1] at q, ⟨by show SV sv (serS (lT b17.tr)).length; rw [serS_len]; exact hi1, p92, p97⟩⟩, rfl, h.below, by
         show New _ [Ent.row sv (serS (lT b17.tr)).length 22 1 (v64s (serS (lT b17.tr))), .row b92 (shF (rdStr ((gT b17.tr).getD 1 Tr.z) 2 65536).1).length 62 16 (v8s (shF (rdStr ((gT b17.tr).getD 1 Tr.z) 2 65536).1).flatten), .row b97 (shF (rdStr ((gT b17.tr).getD 2 Tr.z) 3 65536).1).length 62 16 (v8s (shF (rdStr ((gT b17.tr).getD 2 Tr.z) 3 65536).1).flatten)] [] w1
         rw [serS_len]
         exact (h.sel (M' := [Ent.row sv (lT b17.tr).length 22 1 (v64s (serS (lT b17.tr))), .row b92 (shF (rdStr ((gT b17.tr).getD 1 Tr.z) 2 65536).1).length 62 16 (v8s (shF (rdStr ((gT b17.tr).getD 1 Tr.z) 2 65536).1).flatten), .row b97 (shF (rdStr ((gT b17.tr).getD 2 Tr.z) 3 65536).1).length 62 16 (v8s (shF (rdStr ((gT b17.tr).getD 2 Tr.z) 3 65536).1).flatten)])).made (Sub.refl _) .nil⟩
end Go.Proofs.Ytgnablliekgbgaa
namespace Go.Proofs.Ytgnablliekgbgaa
open Go Go.PL Go.RowKit
theorem HT.c_bv (t : HT) : t.c[1]? = some t.bv := by cases t; rfl
theorem HT.c_lv (t : HT) : t.c[2]? = some t.lv := by cases t; rfl
theorem HT.tr_bs (t : HT) : t.tr.bs = t.bs := by cases t; rfl
theorem HT.tr_kids (t : HT) : t.tr.kids = trs t.kids := by cases t; rfl
theorem HSeen.bsH {r : Rd} {t : HT} (h : HSeen r t) : Seen r t.bv t.bs.length 1 (v8s t.bs) := by cases t; exact h.1
theorem HSeen.lsX {r : Rd} {t : HT} (h : HSeen r t) : HSeen r (lsH (t.lv, t.kids)) := by
  obtain ⟨tg, bv, bs, lv, l⟩ := t
  exact ⟨seen_nil _ 0 _, h.2.1, h.2.2⟩
theorem hseen_zr (r : Rd) : HSeen r HT.z := ⟨seen_nil _ 0 _, seen_nil _ 0 _, trivial⟩
theorem HSeen.lsG {r : Rd} {y : Value × List HT} (h : HSeen r (lsH y)) (i : Nat) : HSeen r (y.2.getD i HT.z) := by
  rcases Nat.lt_or_ge i y.2.length with h1 | h1
  · exact HSeen.lsK h h1
  · rw [List.getD_eq_getElem?_getD, List.getElem?_eq_none h1]; exact hseen_zr r
theorem getD_no {l : List HT} {i : Nat} (h : l.length ≤ i) : l.getD i HT.z = HT.z := by rw [List.getD_eq_getElem?_getD, List.getElem?_eq_none h]; rfl
def fillX (bs : List UInt8) (k j : Nat) : List UInt8 := (bs.drop (16 * k)).take j ++ List.replicate (16 - j) 0
theorem fillX_len {bs : List UInt8} {k j : Nat} (h : 16 * k + 16 ≤ bs.length) (hj : j ≤ 16) : (fillX bs k j).length = 16 := by
  unfold fillX; rw [List.length_append, List.length_take, List.length_drop, List.length_replicate]; omega
theorem fillX_S {bs : List UInt8} {k j : Nat} (h : 16 * k + 16 ≤ bs.length) (hj : j < 16) : (fillX bs k j).set j (bs.getD (16 * k + j) 0) = fillX bs k (j + 1) := by
  have e1 : ((bs.drop (16 * k)).take j).length = j := by rw [List.length_take, List.length_drop]; omega
  have e2 : List.replicate (16 - j) (0 : UInt8) = 0 :: List.replicate (16 - (j + 1)) 0 := by rw [show 16 - j = (16 - (j + 1)) + 1 from zz11]; rfl
  have e3 : (bs.drop (16 * k)).take (j + 1) = (bs.drop (16 * k)).take j ++ [bs.getD (16 * k + j) 0] := by
    rw [List.take_add_one, List.getElem?_drop, List.getD_eq_getElem?_getD, List.getElem?_eq_getElem (show 16 * k + j < bs.length from zz11)]; rfl
  unfold fillX
  rw [e3, e2, List.append_assoc]
  have e5 : ∀ (u : List UInt8) (a b : UInt8) (v : List UInt8), u.length = j → (u ++ a :: v).set j b = u ++ ([b] ++ v) := by
    intro u a b v hu
    rw [List.set_append_right _ _ zz11, hu, Nat.sub_self]; rfl
  exact e5 _ _ _ _ e1
theorem fillX_16 (bs : List UInt8) (k : Nat) : fillX bs k 16 = (bs.drop (16 * k)).take 16 := by
  unfold fillX; rw [Nat.sub_self]; exact List.append_nil _
theorem refAt (lv : Value) (l : List HT) (i : Nat) (w : World) (hl : HSeen w.cell? (lsH (lv, l)))  :
    Calls Try.prog 56 [lv, .int .i64 ((i : Nat) : Int)].toArray w (Pur w (.agg (l.getD i HT.z).c.toArray)) := by
  have sll := hl.lsS.sv
  have sll : SV lv l.length := sll
  have lll := sll.le
  simp only [maxLen] at lll
  refine enter (m := 18) (R := Mem w [] [] []) Try.func56 rfl rfl (Nat.le_of_ble_eq_true rfl) (Mem.start w) ?_
  refine wpc_seq <| wpc_region ?_
  refine wpl_t (t_alloc Try.ti72 HT.z.c rfl) rfl (fun b4 => ?_)
  refine wpl_nil <| ex_then <| wpc_seq <| wpc_seq <| wpc_region <| wpl_q (q_pure rfl) rfl <| wpl_q (q_pure rfl) rfl <| wpl_q (q_pure rfl) rfl ?_
  refine wpl_bool2 7 6 rfl rfl (fun hb7 => ?_) (fun hb7 => ?_)
  ·
   simp only [decide_eq_true_eq] at hb7; omega
  ·
   try simp only [decide_eq_true_eq, decide_eq_false_iff_not, Bool.and_eq_true, Bool.or_eq_true, beq_iff_eq, bne_iff_ne, ne_eq, Bool.not_eq_true', Bool.not_eq_false', Decidable.not_not] at hb7
   refine wpl_on rfl rfl <| wpl_q (q_pure rfl) rfl <| wpl_on rfl rfl <| wpl_q (q_pure rfl) rfl <| wpl_on rfl rfl ?_
   refine wpl_q (q_lenW Try.underlying70 rfl zz2) rfl ?_
   refine wpl_on rfl rfl <| wpl_q (q_pure rfl) rfl <| wpl_q (q_pure rfl) rfl <| wpl_nil <| ex_then ?_
   refine wpc_cond rfl (fun hc12 => ?_) (fun hc12 => ?_)
   ·
    have hge : l.length ≤ i := by first | (simp only [decide_eq_true_eq] at hc12; omega) | (have := of_decide_eq_true hc12; omega)
    refine wpc_seq <| wpc_region ?_
    refine wpl_q (q_build (cs := HT.z.c) rfl built_oz) rfl ?_
    refine wpl_t0 (t_stA Try.ti72 rfl rfl LenC.h OneC.h LenC.h) (fun _ => ?_)
    refine wpl_nil <| ex_then <| wpc_ret ?_
    refine ex_then_ret ?_
    refine retv1 (.inl rfl) rfl (rv_agg Try.underlying72 rfl Try.ti72 rfl (fun w h => h.atB) LenC.h) ?_
    exact fun w1 h => ⟨by rw [getD_no hge], h.below⟩
   ·
    have hil : i < l.length := by first | (simp only [decide_eq_false_iff_not] at hc12; omega) | (have := of_decide_eq_false hc12; omega)
    haveI := (hl.lsK (y := (lv, l)) hil).sv.one
    refine wpc_skip <| ex_then <| wpc_seq <| wpc_region <| wpl_q (q_pure rfl) rfl <| wpl_q (q_pure rfl) rfl ?_
    refine wpl_q (q_idxW Try.underlying70 Try.ti72 rfl rfl zz2 zz0) rfl ?_
    refine wpl_q (q_ldWN Try.underlying72 rfl Try.ti72 rfl (fun w h => (show Seen w.cell? lv l.length 3 (hcs l) from h.seen_old hl.lsS)) (l.getD i HT.z).c (hcs_part hil) LenC.h) rfl ?_
    refine wpl_t0 (t_stA Try.ti72 rfl rfl LenC.h OneC.h LenC.h) (fun _ => ?_)
    refine wpl_nil <| ex_then <| wpc_ret ?_
    refine retv1 (.inl rfl) rfl (rv_agg Try.underlying72 rfl Try.ti72 rfl (fun w h => h.atB) LenC.h) ?_
    exact fun w1 h => ⟨rfl, h.below⟩
theorem refNumber (t : HT) (g : UInt8) (w : World) (ht : HSeen w.cell? t)  :
    Calls Try.prog 57 [.agg t.c.toArray, .int .u8 g.toNat].toArray w (Pur w (.int .u64 ((nX t.tr g).toNat : Int))) := by
  haveI := ht.sv.one
  refine enter (m := 16) (R := Mem w [] [] []) Try.func57 rfl rfl (Nat.le_of_ble_eq_true rfl) (Mem.start w) ?_
  refine wpc_seq <| wpc_region ?_
  refine wpl_t (t_box rfl t.c rfl) rfl (fun b2 => ?_)
  refine wpl_q (q_pure rfl) rfl <| wpl_nil <| ex_then <| wpc_seq <| wpc_region <| wpl_q (q_ldN Try.underlying72 rfl Try.ti72 rfl LenC.h) rfl <| wpl_q (q_pure rfl) rfl ?_
  refine wpl_t (t_pur Try.hb91 rfl fun w h => refReadNum t g 18446744073709551615 w (ht.old h)) rfl (fun b10 => ?_)
  refine wpl_q (q_pure rfl) rfl <| wpl_q (q_pure rfl) rfl <| wpl_q (q_pure rfl) rfl <| wpl_q (q_pure rfl) rfl <| wpl_q (q_pure rfl) rfl <| wpl_nil <| ex_then <| wpc_seq <| wpc_seq <| wpc_region <| wpl_q (q_pure rfl) rfl <| wpl_q (q_pure rfl) rfl ?_
  refine wpl_nil <| ex_then ?_
  refine wpc_cond rfl (fun hc14 => ?_) (fun hc14 => ?_)
  ·
   have hN : (rdNum t.tr g 18446744073709551615).2 ≠ 0 := by simpa using hc14
   refine wpc_seq <| wpc_region <| wpl_q (q_pure rfl) rfl <| wpl_nil <| ex_then <| wpc_ret ?_
   refine ex_then_ret ?_
   refine ret1 (.inl rfl) rfl rfl ?_
   exact fun w1 h => ⟨by rw [nX_no hN]; rfl, h.below⟩
  ·
   try simp only [decide_eq_true_eq, decide_eq_false_iff_not, Bool.and_eq_true, Bool.or_eq_true, beq_iff_eq, bne_iff_ne, ne_eq, Bool.not_eq_true', Bool.not_eq_false', Decidable.not_not] at hc14
   refine wpc_skip <| ex_then <| wpc_seq <| wpc_region <| wpl_q (q_pure rfl) rfl <| wpl_q (q_pure rfl) rfl <| wpl_nil <| ex_then <| wpc_ret ?_
   refine ret1 (.inl rfl) rfl rfl ?_
   exact fun w1 h => ⟨rfl, h.below⟩
theorem refSmall (x : UInt64) (m : UInt64) (w : World)  (hm : m.toNat ≤ 4611686018427387904) :
    Calls Try.prog 59 [.int .u64 x.toNat, .int .u64 m.toNat].toArray w (Pur w (.int .i64 (smX x m))) := by
  refine enter (m := 10) (R := Mem w [] [] []) Try.func59 rfl rfl (Nat.le_of_ble_eq_true rfl) (Mem.start w) ?_
  refine wpc_seq <| wpc_region <| wpl_q (q_pure rfl) rfl <| wpl_nil <| ex_then <| wpc_seq <| wpc_seq <| wpc_region <| wpl_q (q_pure rfl) rfl <| wpl_q (q_pure rfl) rfl <| wpl_q (q_pure rfl) rfl <| wpl_nil ?_
  refine ex_then ?_
  refine wpc_cond rfl (fun hc7 => ?_) (fun hc7 => ?_)
  ·
   simp only [decide_eq_true_eq, gt_iff_lt] at hc7
   have hlt : m < x := by show m.toNat < x.toNat; omega
   refine wpc_seq <| wpc_region <| wpl_q (q_pure rfl) rfl <| wpl_nil <| ex_then <| wpc_ret ?_
   refine ex_then_ret ?_
   refine ret1 (.inl rfl) rfl rfl ?_
   exact fun w1 h => ⟨by unfold smX; rw [if_pos hlt], h.below⟩
  ·
   simp only [decide_eq_false_iff_not, gt_iff_lt] at hc7
   have hlt : ¬ m < x := by show ¬ m.toNat < x.toNat; omega
   have hlx : x.toNat ≤ m.toNat := Nat.le_of_not_lt hlt
   refine wpc_skip <| ex_then <| wpc_seq <| wpc_region <| wpl_q (q_pure rfl) rfl ?_
   refine wpl_q (q64_intN Try.underlying22 Try.underlying3 rfl zz11) rfl ?_
   refine wpl_q (q_pure rfl) rfl <| wpl_nil <| ex_then <| wpc_ret ?_
   refine ret1 (.inl rfl) rfl rfl ?_
   exact fun w1 h => ⟨by unfold smX; rw [if_neg hlt], h.below⟩
theorem refShorts10 (bv : Value) (bs : List UInt8) (w : World) (hbv : Seen w.cell? bv bs.length 1 (v8s bs)) (hbl : bs.length ≤ 1000000) :
    Calls Try.prog 92 [bv].toArray w (GivesP w (fun v : Value => SV v (shX bs).length) (fun v => v) (fun v => [.row v (shX bs).length 62 16 (v8s (shX bs).flatten)]) (fun _ => [])) := by
  have sbv := hbv.sv
  have lbv := sbv.le
  simp only [maxLen] at lbv
  refine enter (m := 31) (R := Mem w [] [] []) Try.func92 rfl rfl (Nat.le_of_ble_eq_true rfl) (Mem.start w) ?_
  refine wpc_seq <| wpc_region <| wpl_q (q_pure rfl) rfl <| wpl_nil <| ex_then <| wpc_seq <| wpc_region <| wpl_q (q_pure rfl) rfl <| wpl_nil <| ex_then <| wpc_seq <| wpc_seq ?_
  refine wpc_region <| wpl_q (q_pure rfl) rfl <| wpl_nil <| ex_then <| wpc_block ?_
  refine wpc_loopc (ι := { x : Nat × Value // (16 * x.1 ≤ bs.length) ∧ (SV x.2 x.1) }) [(0, _)] (fun x Lc => (4, .int .i64 ((16 * x.1.1 : Nat) : Int)) :: (3, x.1.2) :: Lc) (fun x => Mem w [] [.row x.1.2 x.1.1 62 16 (v8s (shXk bs x.1.1).flatten)] []) (fun x => bs.length - 16 * x.1.1) ⟨(0, nl), ⟨Nat.zero_le _, SV.nil⟩⟩ zz7 ?_ ?_
  ·
   exact fun w h => h.nilRow 62 16
  ·
   rintro ⟨⟨k, v⟩, ⟨hi0, hi1⟩⟩; try dsimp only
   have hi0 : 16 * k ≤ bs.length := hi0; have hi1 : SV v k := hi1
   refine wpc_seq <| wpc_seq <| wpc_region <| wpl_q (q_pure rfl) rfl ?_
   refine wpl_q (q_addN (b := 16) rfl rfl zz0) rfl ?_
   refine wpl_q (q_pure rfl) rfl ?_
   refine wpl_q (q_lenW Try.underlying43 rfl zz2) rfl ?_
   refine wpl_q (q_pure rfl) rfl <| wpl_nil <| ex_then ?_
   refine wpc_cond rfl (fun hc11 => ?_) (fun hc11 => ?_)
   ·
    simp only [decide_eq_true_eq] at hc11
    have hik : 16 * k + 16 ≤ bs.length := by omega
    refine wpc_skip <| ex_then <| wpc_seq <| wpc_block <| wpc_seq <| wpc_region ?_
    refine wpl_t (t_alloc Try.ti62 (v8s (List.replicate 16 0)) rfl) rfl (fun b5 => ?_)
    refine wpl_nil <| ex_then <| wpc_seq <| wpc_seq <| wpc_region <| wpl_q (q_pure rfl) rfl <| wpl_nil <| ex_then <| wpc_block ?_
    refine wpc_loopc (ι := { x : Nat // (x ≤ 16) }) [(0, _), (3, _), (4, _), (5, _)] (fun x Lc => (6, .int .i64 ((x.1 : Nat) : Int)) :: Lc) (fun x => Mem w [] [.blk b5 62 (v8s (fillX bs k x.1)), .row v k 62 16 (v8s (shXk bs k).flatten)] []) (fun x => 16 - x.1) ⟨0, (Nat.zero_le _)⟩ zz7 ?_ ?_
    ·
     exact fun w h => h
    ·
     rintro ⟨j, hi0⟩; try dsimp only
     have hi0 : j ≤ 16 := hi0
     refine wpc_seq <| wpc_seq <| wpc_region <| wpl_q (q_pure rfl) rfl <| wpl_q (q_pure rfl) rfl <| wpl_nil <| ex_then ?_
     refine wpc_cond rfl (fun hc15 => ?_) (fun hc15 => ?_)
     ·
      simp only [decide_eq_true_eq] at hc15
      have hj16 : j < 16 := by omega
      have hfl := fillX_len (bs := bs) (k := k) hik (show j ≤ 16 from zz11)
      refine wpc_skip <| ex_then <| wpc_seq <| wpc_block <| wpc_region <| wpl_q (q_pure rfl) rfl <| wpl_q (q_pure rfl) rfl <| wpl_q (q_pure rfl) rfl <| wpl_q (q_pure rfl) rfl ?_
      refine wpl_q (q_addN rfl rfl zz0) rfl ?_
      refine wpl_q (q_idxW1 Try.underlying43 Try.ti5 rfl rfl zz2 zz0) rfl ?_
      refine wpl_q (q_ldW Try.underlying5 rfl rfl (fun w h => zz12) zz19) rfl ?_
      refine wpl_q (q_idxA1 Try.underlying62 Try.ti5 rfl rfl zz11) rfl ?_
      refine wpl_t0 (t_st1 Try.ti5 rfl rfl rfl zz3 _ (by first | exact v8s_set _ | rfl)) (fun _ => ?_)
      refine wpl_nil <| ex_block <| ex_then <| wpc_region <| wpl_q (q_pure rfl) rfl ?_
      refine wpl_q (q_addN (b := 1) rfl rfl zz0) rfl ?_
      refine wpl_q (q_pure rfl) rfl <| wpl_nil ?_
      refine ex_again ⟨j + 1, (show j + 1 ≤ 16 from zz11)⟩ ?_ ?_ ?_
      ·
       exact zz7
      ·
       exact fun w h => by
         dsimp only
         rw [← fillX_S hik hj16]
         exact h.sel
      ·
       (show 16 - (j + 1) < 16 - j); omega
     ·
      simp only [decide_eq_false_iff_not] at hc15
      obtain rfl : j = 16 := by omega
      rw [fillX_16]
      have hdl : ((bs.drop (16 * k)).take 16).length = 16 := by rw [List.length_take, List.length_drop]; omega
      refine wpc_exit ?_
      refine ex_then_exit ?_
      refine ex_then_exit ?_
      refine ex_block_hit ?_
      refine ex_then <| wpc_region <| wpl_q (q_pure rfl) rfl ?_
      refine wpl_q (q_ldN Try.underlying62 rfl Try.ti62 rfl (by rw [v8s_length]; exact hdl)) rfl ?_
      refine wpl_tp (t_bsS [_] Try.underlying26 Try.ti62 rfl zz18 rfl zz18 zz18 rfl (all_one hdl)) rfl (fun b28 p28 => ?_)
      refine wpl_tp (t_apW Try.underlying26 Try.ti62 rfl zz18 rfl rfl (fun w h => zz12) (v8s_one _) zz0 zz0 (v8s (shXk bs (k + 1)).flatten) (by rw [shXk_S, List.flatten_append]; simp [v8s_append])) rfl (fun b29 p29 => ?_)
      refine wpl_q (q_pure rfl) rfl <| wpl_nil <| ex_block <| ex_then <| wpc_region <| wpl_q (q_pure rfl) rfl ?_
      refine wpl_q (q_addN (b := 16) rfl rfl zz0) rfl ?_
      refine wpl_q (q_pure rfl) rfl <| wpl_nil ?_
      refine ex_again ⟨(k + 1, b29), ⟨by dsimp only; omega, p29⟩⟩ ?_ ?_ ?_
      ·
       exact zz7
      ·
       exact fun w h => by
         dsimp only
         exact h.sel
      ·
       (show bs.length - 16 * (k + 1) < bs.length - 16 * k); omega
   ·
    simp only [decide_eq_false_iff_not] at hc11
    obtain rfl : k = bs.length / 16 := by omega
    have hel : (shX bs).length = bs.length / 16 := shXk_len _ _
    refine wpc_exit ?_
    refine ex_then_exit ?_
    refine ex_then_exit ?_
    refine ex_block_hit ?_
    refine ex_then <| wpc_seq <| wpc_region <| wpl_q (q_pure rfl) rfl <| wpl_q (q_pure rfl) rfl <| wpl_nil <| ex_then <| wpc_ret ?_
    refine ret1 (.inl rfl) rfl rfl ?_
    exact fun w1 h => ⟨v, by rw [hel]; exact hi1, rfl, h.below, by rw [hel]; exact (show New _ [Ent.row v (bs.length / 16) 62 16 (v8s (shXk bs (bs.length / 16)).flatten)] [] w1 from h.made SubC.h .nil)⟩
end Go.Proofs.Ytgnablliekgbgaa
namespace Go.Proofs.Ytgnablliekgbgaa
open Go Go.PL Go.RowKit
theorem kT {t : HT} {T : Tr} (h : t.tr = T) (i : Nat) : (t.kids.getD i HT.z).tr = kX T i := by
  subst h
  exact tr_get (ns := t.kids) (T := t.tr.kids) (HT.tr_kids t).symm i
theorem kidsT {t : HT} {T : Tr} (h : t.tr = T) : trs t.kids = T.kids := by subst h; exact (HT.tr_kids t).symm
theorem sm_kX {T : Tr} (h : Sm T) (i : Nat) : Sm (kX T i) := by
  obtain ⟨tg, bs, l⟩ := T
  show Sm (l.getD i Tr.z)
  rcases Nat.lt_or_ge i l.length with h1 | h1
  · exact h.kidT (by rw [List.getD_eq_getElem?_getD, List.getElem?_eq_getElem h1]; exact List.getElem_mem _)
  · rw [List.getD_eq_getElem?_getD, List.getElem?_eq_none h1]; exact sm_z
theorem HSeen.bsT {r : Rd} {t : HT} {T : Tr} (h : HSeen r t) (e : t.tr = T) : Seen r t.bv T.bs.length 1 (v8s T.bs) := by
  subst e
  rw [HT.tr_bs]; exact h.bsH
theorem refNumF (t : HT) (T : Tr) (g : UInt8) (w : World) (ht : HSeen w.cell? t) (hT : t.tr = T) : Calls Try.prog 57 [.agg t.c.toArray, .int .u8 (g.toNat : Int)].toArray w (Pur w (.int .u64 ((nX T g).toNat : Int))) := by
  subst hT
  exact refNumber t g w ht
theorem kids_len {t : HT} {T : Tr} (h : t.tr = T) : t.kids.length = T.kids.length := by rw [← kidsT h, trs_length]
theorem HT.sv_lv {t : HT} (h : t.sv) : SV t.lv t.kids.length := by cases t; exact h.2
theorem wpc_get {P : Program} {Q : Exit → Act → World → Prop} {n : Cx} {R : World → Prop} {L : Slots} {c : Code} {φ : Prop} (hφ : ∀ w, R w → φ) (h : φ → WPC P Q n R L c) : WPC P Q n R L c := fun a w hs hm => h (hφ w hm) a w hs hm
theorem cntL_ge : ∀ l : List Tr, l.length ≤ cntL l
  | [] => Nat.zero_le _
  | ⟨tg, bs, k⟩ :: l => by
    have := cntL_ge l
    show l.length + 1 ≤ (1 + cntL k) + cntL l
    omega
theorem kids_le {T : Tr} (h : Sm T) : T.kids.length ≤ 1000000 := by
  obtain ⟨tg, bs, l⟩ := T
  have h1 := cntL_ge l
  have h : bs.length + bytL l + 5 * (1 + cntL l) ≤ 1000000 := h
  show l.length ≤ _
  omega
theorem built_rx {s : Value} {a x : Int} {u v : Value} {n m : Nat} (hs : ∃ bs : List UInt8, s = str bs) (hu : SV u n) (hv : SV v m) : Try.prog.built 30 [(0, s), (1, .int .u64 a), (4, .agg #[.int .i64 x, u, v])] = some [s, .int .u64 a, .int .i64 0, .int .i64 0, nl, .int .i64 x, u, v].toArray := by
  obtain ⟨bs, rfl⟩ := hs
  obtain ⟨q, cap, rfl, _⟩ := hu
  obtain ⟨q2, cap2, rfl, _⟩ := hv
  kernel_rfl
theorem refReadSig (t : HT) (T : Tr) (w : World) (ht : HSeen w.cell? t) (hT : t.tr = T) (hsm : Sm T)  :
    Calls Try.prog 58 [.agg t.c.toArray].toArray w (GivesP w (fun y : Value × Value => SV y.1 (shX (kX T 1).bs).length ∧ SV y.2 (shX (kX T 2).bs).length) (fun y => .agg #[.int .i64 (smX (nX (kX T 0) 1) 1000), y.1, y.2]) (fun y => [.row y.1 (shX (kX T 1).bs).length 62 16 (v8s (shX (kX T 1).bs).flatten), .row y.2 (shX (kX T 2).bs).length 62 16 (v8s (shX (kX T 2).bs).flatten)]) (fun _ => [])) := by
  haveI := ht.sv.one
  refine enter (m := 19) (R := Mem w [] [] []) Try.func58 rfl rfl (Nat.le_of_ble_eq_true rfl) (Mem.start w) ?_
  refine wpc_seq <| wpc_region ?_
  refine wpl_t (t_box rfl t.c rfl) rfl (fun b1 => ?_)
  refine wpl_t (t_alloc Try.ti28 [.int .i64 0, nl, nl] rfl) rfl (fun b2 => ?_)
  refine wpl_nil <| ex_then <| wpc_seq ?_
  refine wpc_drawM [.blk b1 72 t.c] 99 zz6 zz5 ?_
  refine wpd_p 0 rfl zz6 trivial (q_field Try.underlying72 rfl Try.ti70 rfl rfl _ rfl) rfl (fun w h => .inr (h.sub SubC.h SubC.h)) ?_
  refine wpd_q 1 rfl zz6 trivial (q_ld Try.underlying70 rfl rfl (HT.c_lv t)) rfl (fun w h => h.sub SubC.h SubC.h) ?_
  refine wpd_p 5 rfl zz6 trivial (q_field Try.underlying72 rfl Try.ti70 rfl rfl _ rfl) rfl (fun w h => .inr (h.sub SubC.h SubC.h)) ?_
  refine wpd_q 6 rfl zz6 trivial (q_ld Try.underlying70 rfl rfl (HT.c_lv t)) rfl (fun w h => h.sub SubC.h SubC.h) ?_
  refine wpd_p 10 rfl zz6 trivial (q_field Try.underlying72 rfl Try.ti70 rfl rfl _ rfl) rfl (fun w h => .inr (h.sub SubC.h SubC.h)) ?_
  refine wpd_q 11 rfl zz6 trivial (q_ld Try.underlying70 rfl rfl (HT.c_lv t)) rfl (fun w h => h.sub SubC.h SubC.h) ?_
  refine wpd_t 2 rfl zz6 trivial (t_pur Try.hb56 rfl fun w h => refAt t.lv t.kids 0 w (ht.old h).lsX) rfl (fun _ => (fun w h => .inr (h.sub SubC.h SubC.h))) (fun b5 => ?_)
  haveI : OneC (t.kids.getD 0 HT.z).c := (ht.lsX.lsG 0).sv.one
  refine wpd_t 3 rfl zz6 trivial (t_pur Try.hb57 rfl fun w h => refNumF (t.kids.getD 0 HT.z) (kX T 0) 1 w ((ht.old h).lsX.lsG 0) (kT hT 0)) rfl (fun _ => (fun w h => .inr (h.sub SubC.h SubC.h))) (fun b6 => ?_)
  refine wpd_t 4 rfl zz6 trivial (t_pur Try.hb59 rfl fun w h => refSmall (nX (kX T 0) 1) 1000 w zz18) rfl (fun _ => (fun w h => .inr (h.sub SubC.h SubC.h))) (fun b7 => ?_)
  refine wpd_t 7 rfl zz6 trivial (t_pur Try.hb56 rfl fun w h => refAt t.lv t.kids 1 w (ht.old h).lsX) rfl (fun _ => (fun w h => .inr (h.sub SubC.h SubC.h))) (fun b10 => ?_)
  haveI : OneC (t.kids.getD 1 HT.z).c := (ht.lsX.lsG 1).sv.one
  refine wpd_p 8 rfl zz6 trivial (q_fieldC Try.underlying72 rfl rfl rfl rfl (HT.c_bv _)) rfl (fun w h => .inr (h.sub SubC.h SubC.h)) ?_
  refine wpd_tp 9 rfl zz6 trivial (t_callP1 Try.hb92 rfl fun w h => refShorts10 (t.kids.getD 1 HT.z).bv (kX T 1).bs w (((ht.old h).lsX.lsG 1).bsT (kT hT 1)) (bs_le (sm_kX hsm 1))) rfl (fun _ => (fun w h => .inr (h.sub SubC.h SubC.h))) (fun b12 p12 => ?_)
  refine wpd_t 12 rfl zz6 trivial (t_pur Try.hb56 rfl fun w h => refAt t.lv t.kids 2 w (ht.old h).lsX) rfl (fun _ => (fun w h => .inr (h.sub SubC.h SubC.h))) (fun b15 => ?_)
  haveI : OneC (t.kids.getD 2 HT.z).c := (ht.lsX.lsG 2).sv.one
  refine wpd_p 13 rfl zz6 trivial (q_fieldC Try.underlying72 rfl rfl rfl rfl (HT.c_bv _)) rfl (fun w h => .inr (h.sub SubC.h SubC.h)) ?_
  refine wpd_tp 14 rfl zz6 trivial (t_callP1 Try.hb92 rfl fun w h => refShorts10 (t.kids.getD 2 HT.z).bv (kX T 2).bs w (((ht.old h).lsX.lsG 2).bsT (kT hT 2)) (bs_le (sm_kX hsm 2))) rfl (fun _ => (fun w h => .inr (h.sub SubC.h SubC.h))) (fun b17 p17 => ?_)
  refine wpd_p 15 rfl zz6 trivial (q_build (cs := [.int .i64 (smX (nX (kX T 0) 1) 1000), b12, b17]) rfl (built_sg p12 p17)) rfl (fun w h => .inr (h.sub SubC.h SubC.h)) ?_
  refine wpd_t0 16 rfl zz6 trivial (t_stA Try.ti28 rfl rfl LenC.h (OneC.cons rfl (OneC.cons (SV.one p12) (OneC.cons (SV.one p17) oneC_nil))).h LenC.h) (fun _ => (fun w h => .inr (h.sub SubC.h SubC.h))) (fun _ => ?_)
  refine wpd_done zz6 ?_
  refine ex_then <| wpc_ret ?_
  refine retv1 (.inl rfl) rfl (rv_agg Try.underlying28 rfl Try.ti28 rfl (fun w h => h.atB) rfl) ?_
  exact fun w1 h => ⟨(b12, b17), ⟨p12, p17⟩, rfl, h.below, (h.sel (M' := [.row b12 (shX (kX T 1).bs).length 62 16 (v8s (shX (kX T 1).bs).flatten), .row b17 (shX (kX T 2).bs).length 62 16 (v8s (shX (kX T 2).bs).flatten)])).made (Sub.refl _) .nil⟩
end Go.Proofs.Ytgnablliekgbgaa
namespace Go.Proofs.Ytgnablliekgbgaa
open Go Go.PL Go.RowKit
set_option maxHeartbeats 2000000
theorem refDecodeR (av : Value) (xs : List UInt8) (w : World) (hav : Seen w.cell? av xs.length 1 (v8s xs))  :
    Calls Try.prog 22 [av].toArray w (GivesP w (fun y : Rv × Int => DecP xs y.1 y.2 ∧ y.1.svs) (fun y => .tuple #[.agg y.1.c.toArray, .int .i64 y.2]) (fun y => rvE y.1) (fun _ => [])) := by
  have sav := hav.sv
  have lav := sav.le
  simp only [maxLen] at lav
  have sav := hav.sv
  refine enter (m := 78) (R := Mem w [] [] []) Try.func22 rfl rfl (Nat.le_of_ble_eq_true rfl) (Mem.start w) ?_
  refine wpc_seq <| wpc_region ?_
  refine wpl_t (t_alloc Try.ti30 Rv.z.c rfl) rfl (fun b2 => ?_)
  refine wpl_q (q_pure rfl) rfl <| wpl_nil <| ex_then <| wpc_seq <| wpc_region <| wpl_q (q_pure rfl) rfl ?_
  refine wpl_tp (t_callPT Try.hb55 rfl fun w h => frz (refDecode av xs w (h.seen_old hav))) rfl (fun b12 p12 => ?_)
  haveI := p12.2.one
  have hsmT : Sm b12.tr := by rw [p12.1]; exact (decF_sm xs).1
  refine wpl_q (q_pure rfl) rfl <| wpl_q (q_pure rfl) rfl <| wpl_q (q_pure rfl) rfl ?_
  refine wpl_t (t_alloc Try.ti72 HT.z.c rfl) rfl (fun b4 => ?_)
  refine wpl_t0 (t_stA Try.ti72 rfl rfl LenC.h OneC.h LenC.h) (fun _ => ?_)
  refine wpl_q (q_pure rfl) rfl <| wpl_nil <| ex_then <| wpc_seq <| wpc_seq <| wpc_region <| wpl_q (q_pure rfl) rfl <| wpl_q (q_pure rfl) rfl <| wpl_nil <| ex_then ?_
  refine wpc_cond rfl (fun hc16 => ?_) (fun hc16 => ?_)
  ·
   have hN : (decF xs).2 ≠ 0 := by simpa using hc16
   refine wpc_seq <| wpc_region ?_
   refine wpl_q (q_build (cs := Rv.z.c) rfl built_rz) rfl ?_
   refine wpl_t0 (t_stA Try.ti30 rfl rfl LenC.h OneC.h LenC.h) (fun _ => ?_)
   refine wpl_q (q_pure rfl) rfl <| wpl_nil <| ex_then <| wpc_ret ?_
   refine ex_then_ret ?_
   refine retv2 (.inl rfl) rfl (rv_agg Try.underlying30 rfl Try.ti30 rfl (fun w h => h.atB) zz8) (rv_tmp rfl) ?_
   exact fun w1 h => ⟨(Rv.z, 12), ⟨decX_no0 hN, Rv.z_svs⟩, rfl, h.below, rvE_z h⟩
  ·
   have hZ0 : (decF xs).2 = 0 := by simpa using hc16
   refine wpc_skip <| ex_then <| wpc_seq ?_
   refine wpc_get (φ := ∃ r : Rd, HSeen r b12) (fun w h => ⟨_, Mem.hseenF h zz4⟩) ?_
   rintro ⟨r9, hs9⟩
   have hF0 := hs9.lsX.lsG 0
   have sv4 : SV ((b12.kids.getD 0 HT.z).kids.getD 4 HT.z).lv ((b12.kids.getD 0 HT.z).kids.getD 4 HT.z).kids.length := HT.sv_lv (hF0.lsX.lsG 4).sv
   have sv0 : SV (b12.kids.getD 0 HT.z).lv (b12.kids.getD 0 HT.z).kids.length := HT.sv_lv hF0.sv
   haveI : OneC (b12.kids.getD 0 HT.z).c := hF0.sv.one
   haveI : OneC (b12.kids.getD 1 HT.z).c := (hs9.lsX.lsG 1).sv.one
   haveI : OneC ((b12.kids.getD 0 HT.z).kids.getD 0 HT.z).c := (hF0.lsX.lsG 0).sv.one
   haveI : OneC ((b12.kids.getD 0 HT.z).kids.getD 1 HT.z).c := (hF0.lsX.lsG 1).sv.one
   haveI : OneC ((b12.kids.getD 0 HT.z).kids.getD 2 HT.z).c := (hF0.lsX.lsG 2).sv.one
   haveI : OneC ((b12.kids.getD 0 HT.z).kids.getD 3 HT.z).c := (hF0.lsX.lsG 3).sv.one
   haveI : OneC ((b12.kids.getD 0 HT.z).kids.getD 4 HT.z).c := (hF0.lsX.lsG 4).sv.one
   refine wpc_region <| wpl_q (q_field Try.underlying72 rfl Try.ti70 rfl rfl _ rfl) rfl <| wpl_q (q_ld Try.underlying70 rfl rfl (HT.c_lv b12)) rfl ?_
   refine wpl_t (t_pur Try.hb56 rfl fun w h => refAt b12.lv b12.kids 0 w (Mem.hseenF h zz4 : HSeen w.cell? b12).lsX) rfl (fun b20 => ?_)
   refine wpl_q (q_fieldC Try.underlying72 rfl rfl rfl rfl (HT.c_lv _)) rfl <| wpl_q (q_pure rfl) rfl <| wpl_nil <| ex_then ?_
   refine wpc_cutc ({ x : Nat × Value × Value // (SV x.2.1 (shX (kX (kX b12.tr 1) 1).bs).length) ∧ (SV x.2.2 (shX (kX (kX b12.tr 1) 2).bs).length) }) [(0, av), (2, .pointer (some ⟨b2, 0, none⟩)), (6, (b12.kids.getD 0 HT.z).lv)] (fun x Lc => (7, .pointer (some ⟨x.1.1, 0, none⟩)) :: Lc) (fun x => Mem w [] [.blk x.1.1 30 [str (kX (kX b12.tr 0) 0).bs, .int .u64 ((nX (kX (kX b12.tr 0) 1) 2).toNat : Int), .int .i64 0, .int .i64 0, nl, .int .i64 (smX (nX (kX (kX b12.tr 1) 0) 1) 1000), x.1.2.1, x.1.2.2], .row x.1.2.1 (shX (kX (kX b12.tr 1) 1).bs).length 62 16 (v8s (shX (kX (kX b12.tr 1) 1).bs).flatten), .row x.1.2.2 (shX (kX (kX b12.tr 1) 2).bs).length 62 16 (v8s (shX (kX (kX b12.tr 1) 2).bs).flatten), .blk b4 72 b12.c, .blk b2 30 Rv.z.c] [Go.Proofs.Ytgnablliekgbgaa.hseen b12]) ?_ ?_
   ·
    refine wpc_drawM [.blk b4 72 b12.c] 99 zz6 zz5 ?_
    refine wpd_p 0 rfl zz6 trivial (q_pure rfl) rfl (fun w h => .inr (h.sub SubC.h SubC.h)) ?_
    refine wpd_p 4 rfl zz6 trivial (q_pure rfl) rfl (fun w h => .inr (h.sub SubC.h SubC.h)) ?_
    refine wpd_p 7 rfl zz6 trivial (q_field Try.underlying72 rfl Try.ti70 rfl rfl _ rfl) rfl (fun w h => .inr (h.sub SubC.h SubC.h)) ?_
    refine wpd_q 8 rfl zz6 trivial (q_ld Try.underlying70 rfl rfl (HT.c_lv b12)) rfl (fun w h => h.sub SubC.h SubC.h) ?_
    refine wpd_two 1 12 zz6 ?_ ?_
    ·
     refine wpa_t 1 rfl trivial (t_pur Try.hb56 rfl fun w h => refAt (b12.kids.getD 0 HT.z).lv (b12.kids.getD 0 HT.z).kids 0 w ((Mem.hseenF h zz4 : HSeen w.cell? b12).lsX.lsG 0).lsX) rfl (fun _ => (fun w h => .inr (h.sub SubC.h SubC.h))) (fun b23 => ?_)
     refine wpd_p 2 rfl zz6 trivial (q_fieldC Try.underlying72 rfl rfl rfl rfl (HT.c_bv _)) rfl (fun w h => .inr (h.sub SubC.h SubC.h)) ?_
     refine wpd_q 3 rfl zz6 trivial (q_cvBS (bs := (kX (kX b12.tr 0) 0).bs) Try.underlying43 Try.underlying5 Try.underlying9 rfl (fun w h => (((Mem.hseenF h zz4 : HSeen w.cell? b12).lsX.lsG 0).lsX.lsG 0).bsT (kT (kT (rfl : b12.tr = b12.tr) 0) 0))) rfl (fun w h => h.sub SubC.h SubC.h) ?_
     refine wpd_two 5 12 zz6 ?_ ?_
     ·
      refine wpa_t 5 rfl trivial (t_pur Try.hb56 rfl fun w h => refAt (b12.kids.getD 0 HT.z).lv (b12.kids.getD 0 HT.z).kids 1 w ((Mem.hseenF h zz4 : HSeen w.cell? b12).lsX.lsG 0).lsX) rfl (fun _ => (fun w h => .inr (h.sub SubC.h SubC.h))) (fun b27 => ?_)
      refine wpd_two 6 12 zz6 ?_ ?_
      ·
       refine wpa_t 6 rfl trivial (t_pur Try.hb57 rfl fun w h => refNumF ((b12.kids.getD 0 HT.z).kids.getD 1 HT.z) (kX (kX b12.tr 0) 1) 2 w (((Mem.hseenF h zz4 : HSeen w.cell? b12).lsX.lsG 0).lsX.lsG 1) (kT (kT (rfl : b12.tr = b12.tr) 0) 1)) rfl (fun _ => (fun w h => .inr (h.sub SubC.h SubC.h))) (fun b28 => ?_)
       refine wpd_two 9 12 zz6 ?_ ?_
       ·
        refine wpa_t 9 rfl trivial (t_pur Try.hb56 rfl fun w h => refAt b12.lv b12.kids 1 w (Mem.hseenF h zz4 : HSeen w.cell? b12).lsX) rfl (fun _ => (fun w h => .inr (h.sub SubC.h SubC.h))) (fun b31 => ?_)
        refine wpd_two 10 12 zz6 ?_ ?_
        ·
         refine wpa_tp 10 rfl trivial (t_callP2 Try.hb58 rfl fun w h => refReadSig (b12.kids.getD 1 HT.z) (kX b12.tr 1) w ((Mem.hseenF h zz4 : HSeen w.cell? b12).lsX.lsG 1) (kT rfl 1) (sm_kX hsmT 1)) rfl (fun _ => (fun w h => .inr (h.sub SubC.h SubC.h))) (fun b32 p32 => ?_)
         refine wpd_p 11 rfl zz6 trivial (q_build (cs := [str (kX (kX b12.tr 0) 0).bs, .int .u64 ((nX (kX (kX b12.tr 0) 1) 2).toNat : Int), .int .i64 0, .int .i64 0, nl, .int .i64 (smX (nX (kX (kX b12.tr 1) 0) 1) 1000), b32.1, b32.2]) rfl (built_rx ⟨_, rfl⟩ p32.1 p32.2)) rfl (fun w h => .inr (h.sub SubC.h SubC.h)) ?_
         refine wpd_t 12 rfl zz6 trivial (t_alloc Try.ti30 Rv.z.c rfl) rfl (fun _ => (fun w h => .inr (h.sub SubC.h SubC.h))) (fun b7 => ?_)
         refine wpd_t0 13 rfl zz6 trivial (t_stA Try.ti30 rfl rfl LenC.h (OneC.cons rfl (OneC.cons rfl (OneC.cons rfl (OneC.cons rfl (OneC.cons rfl (OneC.cons rfl (OneC.cons (SV.one p32.1) (OneC.cons (SV.one p32.2) oneC_nil)))))))).h LenC.h) (fun _ => (fun w h => .inr (h.sub SubC.h SubC.h))) (fun _ => ?_)
         refine wpd_done zz6 ?_
         refine ex_mid ⟨(b7, b32), ⟨p32.1, p32.2⟩⟩ ?_ ?_
         ·
          exact zz7
         ·
          exact fun w h => h.sel
        ·
         refine wpa_t 12 rfl trivial (t_alloc Try.ti30 Rv.z.c rfl) rfl (fun _ => (fun w h => .inr (h.sub SubC.h SubC.h))) (fun b7 => ?_)
         refine wpd_tp 10 rfl zz6 trivial (t_callP2 Try.hb58 rfl fun w h => refReadSig (b12.kids.getD 1 HT.z) (kX b12.tr 1) w ((Mem.hseenF h zz4 : HSeen w.cell? b12).lsX.lsG 1) (kT rfl 1) (sm_kX hsmT 1)) rfl (fun _ => (fun w h => .inr (h.sub SubC.h SubC.h))) (fun b32 p32 => ?_)
         refine wpd_p 11 rfl zz6 trivial (q_build (cs := [str (kX (kX b12.tr 0) 0).bs, .int .u64 ((nX (kX (kX b12.tr 0) 1) 2).toNat : Int), .int .i64 0, .int .i64 0, nl, .int .i64 (smX (nX (kX (kX b12.tr 1) 0) 1) 1000), b32.1, b32.2]) rfl (built_rx ⟨_, rfl⟩ p32.1 p32.2)) rfl (fun w h => .inr (h.sub SubC.h SubC.h)) ?_
         refine wpd_t0 13 rfl zz6 trivial (t_stA Try.ti30 rfl rfl LenC.h (OneC.cons rfl (OneC.cons rfl (OneC.cons rfl (OneC.cons rfl (OneC.cons rfl (OneC.cons rfl (OneC.cons (SV.one p32.1) (OneC.cons (SV.one p32.2) oneC_nil)))))))).h LenC.h) (fun _ => (fun w h => .inr (h.sub SubC.h SubC.h))) (fun _ => ?_)
         refine wpd_done zz6 ?_
         refine ex_mid ⟨(b7, b32), ⟨p32.1, p32.2⟩⟩ ?_ ?_
         ·
          exact zz7
         ·
          exact fun w h => h.sel
       ·
        refine wpa_t 12 rfl trivial (t_alloc Try.ti30 Rv.z.c rfl) rfl (fun _ => (fun w h => .inr (h.sub SubC.h SubC.h))) (fun b7 => ?_)
        refine wpd_t 9 rfl zz6 trivial (t_pur Try.hb56 rfl fun w h => refAt b12.lv b12.kids 1 w (Mem.hseenF h zz4 : HSeen w.cell? b12).lsX) rfl (fun _ => (fun w h => .inr (h.sub SubC.h SubC.h))) (fun b31 => ?_)
        refine wpd_tp 10 rfl zz6 trivial (t_callP2 Try.hb58 rfl fun w h => refReadSig (b12.kids.getD 1 HT.z) (kX b12.tr 1) w ((Mem.hseenF h zz4 : HSeen w.cell? b12).lsX.lsG 1) (kT rfl 1) (sm_kX hsmT 1)) rfl (fun _ => (fun w h => .inr (h.sub SubC.h SubC.h))) (fun b32 p32 => ?_)
        refine wpd_p 11 rfl zz6 trivial (q_build (cs := [str (kX (kX b12.tr 0) 0).bs, .int .u64 ((nX (kX (kX b12.tr 0) 1) 2).toNat : Int), .int .i64 0, .int .i64 0, nl, .int .i64 (smX (nX (kX (kX b12.tr 1) 0) 1) 1000), b32.1, b32.2]) rfl (built_rx ⟨_, rfl⟩ p32.1 p32.2)) rfl (fun w h => .inr (h.sub SubC.h SubC.h)) ?_
        refine wpd_t0 13 rfl zz6 trivial (t_stA Try.ti30 rfl rfl LenC.h (OneC.cons rfl (OneC.cons rfl (OneC.cons rfl (OneC.cons rfl (OneC.cons rfl (OneC.cons rfl (OneC.cons (SV.one p32.1) (OneC.cons (SV.one p32.2) oneC_nil)))))))).h LenC.h) (fun _ => (fun w h => .inr (h.sub SubC.h SubC.h))) (fun _ => ?_)
        refine wpd_done zz6 ?_
        refine ex_mid ⟨(b7, b32), ⟨p32.1, p32.2⟩⟩ ?_ ?_
        ·
         exact zz7
        ·
         exact fun w h => h.sel
      ·
       refine wpa_t 12 rfl trivial (t_alloc Try.ti30 Rv.z.c rfl) rfl (fun _ => (fun w h => .inr (h.sub SubC.h SubC.h))) (fun b7 => ?_)
       refine wpd_t 6 rfl zz6 trivial (t_pur Try.hb57 rfl fun w h => refNumF ((b12.kids.getD 0 HT.z).kids.getD 1 HT.z) (kX (kX b12.tr 0) 1) 2 w (((Mem.hseenF h zz4 : HSeen w.cell? b12).lsX.lsG 0).lsX.lsG 1) (kT (kT (rfl : b12.tr = b12.tr) 0) 1)) rfl (fun _ => (fun w h => .inr (h.sub SubC.h SubC.h))) (fun b28 => ?_)
       refine wpd_t 9 rfl zz6 trivial (t_pur Try.hb56 rfl fun w h => refAt b12.lv b12.kids 1 w (Mem.hseenF h zz4 : HSeen w.cell? b12).lsX) rfl (fun _ => (fun w h => .inr (h.sub SubC.h SubC.h))) (fun b31 => ?_)
       refine wpd_tp 10 rfl zz6 trivial (t_callP2 Try.hb58 rfl fun w h => refReadSig (b12.kids.getD 1 HT.z) (kX b12.tr 1) w ((Mem.hseenF h zz4 : HSeen w.cell? b12).lsX.lsG 1) (kT rfl 1) (sm_kX hsmT 1)) rfl (fun _ => (fun w h => .inr (h.sub SubC.h SubC.h))) (fun b32 p32 => ?_)
       refine wpd_p 11 rfl zz6 trivial (q_build (cs := [str (kX (kX b12.tr 0) 0).bs, .int .u64 ((nX (kX (kX b12.tr 0) 1) 2).toNat : Int), .int .i64 0, .int .i64 0, nl, .int .i64 (smX (nX (kX (kX b12.tr 1) 0) 1) 1000), b32.1, b32.2]) rfl (built_rx ⟨_, rfl⟩ p32.1 p32.2)) rfl (fun w h => .inr (h.sub SubC.h SubC.h)) ?_
       refine wpd_t0 13 rfl zz6 trivial (t_stA Try.ti30 rfl rfl LenC.h (OneC.cons rfl (OneC.cons rfl (OneC.cons rfl (OneC.cons rfl (OneC.cons rfl (OneC.cons rfl (OneC.cons (SV.one p32.1) (OneC.cons (SV.one p32.2) oneC_nil)))))))).h LenC.h) (fun _ => (fun w h => .inr (h.sub SubC.h SubC.h))) (fun _ => ?_)
       refine wpd_done zz6 ?_
       refine ex_mid ⟨(b7, b32), ⟨p32.1, p32.2⟩⟩ ?_ ?_
       ·
        exact zz7
       ·
        exact fun w h => h.sel
     ·
      refine wpa_t 12 rfl trivial (t_alloc Try.ti30 Rv.z.c rfl) rfl (fun _ => (fun w h => .inr (h.sub SubC.h SubC.h))) (fun b7 => ?_)
      refine wpd_t 5 rfl zz6 trivial (t_pur Try.hb56 rfl fun w h => refAt (b12.kids.getD 0 HT.z).lv (b12.kids.getD 0 HT.z).kids 1 w ((Mem.hseenF h zz4 : HSeen w.cell? b12).lsX.lsG 0).lsX) rfl (fun _ => (fun w h => .inr (h.sub SubC.h SubC.h))) (fun b27 => ?_)
      refine wpd_t 6 rfl zz6 trivial (t_pur Try.hb57 rfl fun w h => refNumF ((b12.kids.getD 0 HT.z).kids.getD 1 HT.z) (kX (kX b12.tr 0) 1) 2 w (((Mem.hseenF h zz4 : HSeen w.cell? b12).lsX.lsG 0).lsX.lsG 1) (kT (kT (rfl : b12.tr = b12.tr) 0) 1)) rfl (fun _ => (fun w h => .inr (h.sub SubC.h SubC.h))) (fun b28 => ?_)
      refine wpd_t 9 rfl zz6 trivial (t_pur Try.hb56 rfl fun w h => refAt b12.lv b12.kids 1 w (Mem.hseenF h zz4 : HSeen w.cell? b12).lsX) rfl (fun _ => (fun w h => .inr (h.sub SubC.h SubC.h))) (fun b31 => ?_)
      refine wpd_tp 10 rfl zz6 trivial (t_callP2 Try.hb58 rfl fun w h => refReadSig (b12.kids.getD 1 HT.z) (kX b12.tr 1) w ((Mem.hseenF h zz4 : HSeen w.cell? b12).lsX.lsG 1) (kT rfl 1) (sm_kX hsmT 1)) rfl (fun _ => (fun w h => .inr (h.sub SubC.h SubC.h))) (fun b32 p32 => ?_)
      refine wpd_p 11 rfl zz6 trivial (q_build (cs := [str (kX (kX b12.tr 0) 0).bs, .int .u64 ((nX (kX (kX b12.tr 0) 1) 2).toNat : Int), .int .i64 0, .int .i64 0, nl, .int .i64 (smX (nX (kX (kX b12.tr 1) 0) 1) 1000), b32.1, b32.2]) rfl (built_rx ⟨_, rfl⟩ p32.1 p32.2)) rfl (fun w h => .inr (h.sub SubC.h SubC.h)) ?_
      refine wpd_t0 13 rfl zz6 trivial (t_stA Try.ti30 rfl rfl LenC.h (OneC.cons rfl (OneC.cons rfl (OneC.cons rfl (OneC.cons rfl (OneC.cons rfl (OneC.cons rfl (OneC.cons (SV.one p32.1) (OneC.cons (SV.one p32.2) oneC_nil)))))))).h LenC.h) (fun _ => (fun w h => .inr (h.sub SubC.h SubC.h))) (fun _ => ?_)
      refine wpd_done zz6 ?_
      refine ex_mid ⟨(b7, b32), ⟨p32.1, p32.2⟩⟩ ?_ ?_
      ·
       exact zz7
      ·
       exact fun w h => h.sel
    ·
     refine wpa_t 12 rfl trivial (t_alloc Try.ti30 Rv.z.c rfl) rfl (fun _ => (fun w h => .inr (h.sub SubC.h SubC.h))) (fun b7 => ?_)
     refine wpd_t 1 rfl zz6 trivial (t_pur Try.hb56 rfl fun w h => refAt (b12.kids.getD 0 HT.z).lv (b12.kids.getD 0 HT.z).kids 0 w ((Mem.hseenF h zz4 : HSeen w.cell? b12).lsX.lsG 0).lsX) rfl (fun _ => (fun w h => .inr (h.sub SubC.h SubC.h))) (fun b23 => ?_)
     refine wpd_p 2 rfl zz6 trivial (q_fieldC Try.underlying72 rfl rfl rfl rfl (HT.c_bv _)) rfl (fun w h => .inr (h.sub SubC.h SubC.h)) ?_
     refine wpd_q 3 rfl zz6 trivial (q_cvBS (bs := (kX (kX b12.tr 0) 0).bs) Try.underlying43 Try.underlying5 Try.underlying9 rfl (fun w h => (((Mem.hseenF h zz4 : HSeen w.cell? b12).lsX.lsG 0).lsX.lsG 0).bsT (kT (kT (rfl : b12.tr = b12.tr) 0) 0))) rfl (fun w h => h.sub SubC.h SubC.h) ?_
     refine wpd_t 5 rfl zz6 trivial (t_pur Try.hb56 rfl fun w h => refAt (b12.kids.getD 0 HT.z).lv (b12.kids.getD 0 HT.z).kids 1 w ((Mem.hseenF h zz4 : HSeen w.cell? b12).lsX.lsG 0).lsX) rfl (fun _ => (fun w h => .inr (h.sub SubC.h SubC.h))) (fun b27 => ?_)
     refine wpd_t 6 rfl zz6 trivial (t_pur Try.hb57 rfl fun w h => refNumF ((b12.kids.getD 0 HT.z).kids.getD 1 HT.z) (kX (kX b12.tr 0) 1) 2 w (((Mem.hseenF h zz4 : HSeen w.cell? b12).lsX.lsG 0).lsX.lsG 1) (kT (kT (rfl : b12.tr = b12.tr) 0) 1)) rfl (fun _ => (fun w h => .inr (h.sub SubC.h SubC.h))) (fun b28 => ?_)
     refine wpd_t 9 rfl zz6 trivial (t_pur Try.hb56 rfl fun w h => refAt b12.lv b12.kids 1 w (Mem.hseenF h zz4 : HSeen w.cell? b12).lsX) rfl (fun _ => (fun w h => .inr (h.sub SubC.h SubC.h))) (fun b31 => ?_)
     refine wpd_tp 10 rfl zz6 trivial (t_callP2 Try.hb58 rfl fun w h => refReadSig (b12.kids.getD 1 HT.z) (kX b12.tr 1) w ((Mem.hseenF h zz4 : HSeen w.cell? b12).lsX.lsG 1) (kT rfl 1) (sm_kX hsmT 1)) rfl (fun _ => (fun w h => .inr (h.sub SubC.h SubC.h))) (fun b32 p32 => ?_)
     refine wpd_p 11 rfl zz6 trivial (q_build (cs := [str (kX (kX b12.tr 0) 0).bs, .int .u64 ((nX (kX (kX b12.tr 0) 1) 2).toNat : Int), .int .i64 0, .int .i64 0, nl, .int .i64 (smX (nX (kX (kX b12.tr 1) 0) 1) 1000), b32.1, b32.2]) rfl (built_rx ⟨_, rfl⟩ p32.1 p32.2)) rfl (fun w h => .inr (h.sub SubC.h SubC.h)) ?_
     refine wpd_t0 13 rfl zz6 trivial (t_stA Try.ti30 rfl rfl LenC.h (OneC.cons rfl (OneC.cons rfl (OneC.cons rfl (OneC.cons rfl (OneC.cons rfl (OneC.cons rfl (OneC.cons (SV.one p32.1) (OneC.cons (SV.one p32.2) oneC_nil)))))))).h LenC.h) (fun _ => (fun w h => .inr (h.sub SubC.h SubC.h))) (fun _ => ?_)
     refine wpd_done zz6 ?_
     refine ex_mid ⟨(b7, b32), ⟨p32.1, p32.2⟩⟩ ?_ ?_
     ·
      exact zz7
     ·
      exact fun w h => h.sel
   ·
    rintro ⟨⟨b7, y⟩, ⟨hi0, hi1⟩⟩; try dsimp only
    have hi0 : SV y.1 (shX (kX (kX b12.tr 1) 1).bs).length := hi0; have hi1 : SV y.2 (shX (kX (kX b12.tr 1) 2).bs).length := hi1
    have hy1 := hi0
    have hy2 := hi1
    refine wpc_seq <| wpc_region <| wpl_q (q_pure rfl) rfl ?_
    refine wpl_t (t_pur Try.hb56 rfl fun w h => refAt (b12.kids.getD 0 HT.z).lv (b12.kids.getD 0 HT.z).kids 2 w ((Mem.hseenF h zz4 : HSeen w.cell? b12).lsX.lsG 0).lsX) rfl (fun b35 => ?_)
    refine wpl_t (t_pur Try.hb57 rfl fun w h => refNumF ((b12.kids.getD 0 HT.z).kids.getD 2 HT.z) (kX (kX b12.tr 0) 2) 3 w (((Mem.hseenF h zz4 : HSeen w.cell? b12).lsX.lsG 0).lsX.lsG 2) (kT (kT (rfl : b12.tr = b12.tr) 0) 2)) rfl (fun b36 => ?_)
    refine wpl_t (t_pur Try.hb59 rfl fun w h => refSmall (nX (kX (kX b12.tr 0) 2) 3) 1099511627776 w zz18) rfl (fun b37 => ?_)
    refine wpl_q (q_field Try.underlying30 rfl Try.ti24 rfl rfl _ rfl) rfl <| wpl_q (q_field Try.underlying24 rfl Try.ti2 rfl rfl _ rfl) rfl ?_
    refine wpl_t0 (t_st1 Try.ti2 rfl rfl rfl zz3 [str (kX (kX b12.tr 0) 0).bs, .int .u64 ((nX (kX (kX b12.tr 0) 1) 2).toNat : Int), .int .i64 (smX (nX (kX (kX b12.tr 0) 2) 3) 1099511627776), .int .i64 0, nl, .int .i64 (smX (nX (kX (kX b12.tr 1) 0) 1) 1000), y.1, y.2] rfl) (fun _ => ?_)
    refine wpl_nil <| ex_then <| wpc_seq <| wpc_region <| wpl_q (q_pure rfl) rfl ?_
    refine wpl_t (t_pur Try.hb56 rfl fun w h => refAt (b12.kids.getD 0 HT.z).lv (b12.kids.getD 0 HT.z).kids 3 w ((Mem.hseenF h zz4 : HSeen w.cell? b12).lsX.lsG 0).lsX) rfl (fun b41 => ?_)
    refine wpl_t (t_pur Try.hb57 rfl fun w h => refNumF ((b12.kids.getD 0 HT.z).kids.getD 3 HT.z) (kX (kX b12.tr 0) 3) 4 w (((Mem.hseenF h zz4 : HSeen w.cell? b12).lsX.lsG 0).lsX.lsG 3) (kT (kT (rfl : b12.tr = b12.tr) 0) 3)) rfl (fun b42 => ?_)
    refine wpl_t (t_pur Try.hb59 rfl fun w h => refSmall (nX (kX (kX b12.tr 0) 3) 4) 1099511627776 w zz18) rfl (fun b43 => ?_)
    refine wpl_q (q_field Try.underlying30 rfl Try.ti24 rfl rfl _ rfl) rfl <| wpl_q (q_field Try.underlying24 rfl Try.ti2 rfl rfl _ rfl) rfl ?_
    refine wpl_t0 (t_st1 Try.ti2 rfl rfl rfl zz3 [str (kX (kX b12.tr 0) 0).bs, .int .u64 ((nX (kX (kX b12.tr 0) 1) 2).toNat : Int), .int .i64 (smX (nX (kX (kX b12.tr 0) 2) 3) 1099511627776), .int .i64 (smX (nX (kX (kX b12.tr 0) 3) 4) 1099511627776), nl, .int .i64 (smX (nX (kX (kX b12.tr 1) 0) 1) 1000), y.1, y.2] rfl) (fun _ => ?_)
    refine wpl_nil <| ex_then <| wpc_seq <| wpc_region <| wpl_q (q_pure rfl) rfl ?_
    refine wpl_t (t_pur Try.hb56 rfl fun w h => refAt (b12.kids.getD 0 HT.z).lv (b12.kids.getD 0 HT.z).kids 4 w ((Mem.hseenF h zz4 : HSeen w.cell? b12).lsX.lsG 0).lsX) rfl (fun b47 => ?_)
    refine wpl_q (q_fieldC Try.underlying72 rfl rfl rfl rfl (HT.c_lv _)) rfl ?_
    have hl5 : (kX (kX b12.tr 0) 4).kids.length ≤ 1000000 := kids_le (sm_kX (sm_kX hsmT 0) 4)
    have hl4 : ((b12.kids.getD 0 HT.z).kids.getD 4 HT.z).kids.length = (kX (kX b12.tr 0) 4).kids.length := kids_len (kT (kT (rfl : b12.tr = b12.tr) 0) 4)
    refine wpl_q (q_pure rfl) rfl <| wpl_nil <| ex_then <| wpc_seq <| wpc_seq <| wpc_region <| wpl_q (q_pure rfl) rfl <| wpl_nil <| ex_then <| wpc_block ?_
    refine wpc_loopc (ι := { x : Nat × Value // (x.1 ≤ ((b12.kids.getD 0 HT.z).kids.getD 4 HT.z).kids.length) ∧ (SV x.2 x.1) }) [(0, _), (2, _), (7, _), (8, _)] (fun x Lc => (9, .int .i64 ((x.1.1 : Nat) : Int)) :: Lc) (fun x => Mem w [] [.blk b7 30 [str (kX (kX b12.tr 0) 0).bs, .int .u64 ((nX (kX (kX b12.tr 0) 1) 2).toNat : Int), .int .i64 (smX (nX (kX (kX b12.tr 0) 2) 3) 1099511627776), .int .i64 (smX (nX (kX (kX b12.tr 0) 3) 4) 1099511627776), x.1.2, .int .i64 (smX (nX (kX (kX b12.tr 1) 0) 1) 1000), y.1, y.2], .row x.1.2 x.1.1 22 1 (v64s (serX ((kX (kX b12.tr 0) 4).kids.take x.1.1))), .row y.1 (shX (kX (kX b12.tr 1) 1).bs).length 62 16 (v8s (shX (kX (kX b12.tr 1) 1).bs).flatten), .row y.2 (shX (kX (kX b12.tr 1) 2).bs).length 62 16 (v8s (shX (kX (kX b12.tr 1) 2).bs).flatten), .blk b4 72 b12.c, .blk b2 30 Rv.z.c] [Go.Proofs.Ytgnablliekgbgaa.hseen b12]) (fun x => ((b12.kids.getD 0 HT.z).kids.getD 4 HT.z).kids.length - x.1.1) ⟨(0, nl), ⟨Nat.zero_le _, SV.nil⟩⟩ zz7 ?_ ?_
    ·
     exact fun w h => by
       dsimp only
       rw [List.take_zero, show v64s (serX []) = [] from rfl]
       exact (h.nilRow 22 1).sel
    ·
     rintro ⟨⟨i, sv⟩, ⟨hi0, hi1⟩⟩; try dsimp only
     have hi0 : i ≤ ((b12.kids.getD 0 HT.z).kids.getD 4 HT.z).kids.length := hi0; have hi1 : SV sv i := hi1
     refine wpc_seq <| wpc_seq <| wpc_region <| wpl_q (q_pure rfl) rfl <| wpl_q (q_pure rfl) rfl ?_
     refine wpl_q (q_lenW Try.underlying70 rfl zz2) rfl ?_
     refine wpl_q (q_pure rfl) rfl <| wpl_nil <| ex_then ?_
     refine wpc_cond rfl (fun hc52 => ?_) (fun hc52 => ?_)
     ·
      simp only [decide_eq_true_eq] at hc52
      have hil : i < ((b12.kids.getD 0 HT.z).kids.getD 4 HT.z).kids.length := by omega
      haveI : OneC (((b12.kids.getD 0 HT.z).kids.getD 4 HT.z).kids.getD i HT.z).c := ((hF0.lsX.lsG 4).lsX.lsG i).sv.one
      refine wpc_skip <| ex_then <| wpc_seq <| wpc_block ?_
      refine wpc_drawM [.blk b7 30 [str (kX (kX b12.tr 0) 0).bs, .int .u64 ((nX (kX (kX b12.tr 0) 1) 2).toNat : Int), .int .i64 (smX (nX (kX (kX b12.tr 0) 2) 3) 1099511627776), .int .i64 (smX (nX (kX (kX b12.tr 0) 3) 4) 1099511627776), sv, .int .i64 (smX (nX (kX (kX b12.tr 1) 0) 1) 1000), y.1, y.2]] 8 zz6 zz5 ?_
      refine wpd_p 0 rfl zz6 trivial (q_field Try.underlying30 rfl Try.ti25 rfl rfl _ rfl) rfl (fun w h => .inr (h.sub SubC.h SubC.h)) ?_
      refine wpd_q 1 rfl zz6 trivial (q_ld Try.underlying25 rfl rfl rfl) rfl (fun w h => h.sub SubC.h SubC.h) ?_
      refine wpd_p 2 rfl zz6 trivial (q_pure rfl) rfl (fun w h => .inr (h.sub SubC.h SubC.h)) ?_
      refine wpd_p 3 rfl zz6 trivial (q_pure rfl) rfl (fun w h => .inr (h.sub SubC.h SubC.h)) ?_
      refine wpd_p 4 rfl zz6 trivial (q_idxW Try.underlying70 Try.ti72 rfl rfl zz2 zz0) rfl (fun w h => .inr (h.sub SubC.h SubC.h)) ?_
      refine wpd_qB 5 [6, 7, 8] rfl zz6 trivial (q_ldWN Try.underlying72 rfl Try.ti72 rfl (fun w h => (show Seen w.cell? ((b12.kids.getD 0 HT.z).kids.getD 4 HT.z).lv ((b12.kids.getD 0 HT.z).kids.getD 4 HT.z).kids.length 3 (hcs ((b12.kids.getD 0 HT.z).kids.getD 4 HT.z).kids) from (((Mem.hseenF h zz4 : HSeen w.cell? b12).lsX.lsG 0).lsX.lsG 4).lsX.lsS)) (((b12.kids.getD 0 HT.z).kids.getD 4 HT.z).kids.getD i HT.z).c (hcs_part hil) LenC.h) rfl (fun w h => h.sub SubC.h SubC.h) ?_
      refine wpd_t 6 rfl zz6 trivial (t_pur Try.hb57 rfl fun w h => refNumF (((b12.kids.getD 0 HT.z).kids.getD 4 HT.z).kids.getD i HT.z) ((kX (kX b12.tr 0) 4).kids.getD i Tr.z) 5 w ((((Mem.hseenF h zz4 : HSeen w.cell? b12).lsX.lsG 0).lsX.lsG 4).lsX.lsG i) (tr_get (kidsT (kT (kT (rfl : b12.tr = b12.tr) 0) 4)) i)) rfl (fun _ => (fun w h => .inr (h.sub SubC.h SubC.h))) (fun b61 => ?_)
      refine wpd_tp 7 rfl zz6 trivial (t_bsG [.int .u64 ((nX ((kX (kX b12.tr 0) 4).kids.getD i Tr.z) 5).toNat : Int)] (v64s [nX ((kX (kX b12.tr 0) 4).kids.getD i Tr.z) 5]) Try.underlying25 Try.ti22 rfl zz18 rfl zz18 zz18 rfl (by intro v hv; rw [List.mem_singleton] at hv; subst hv; rfl) rfl) rfl (fun _ => (fun w h => .inr (h.sub SubC.h SubC.h))) (fun b62 p62 => ?_)
      refine wpd_tp 8 rfl zz6 trivial (t_apW Try.underlying25 Try.ti22 rfl zz18 rfl rfl (fun w h => zz12) (v64s_one _) zz0 zz0 (v64s (serX ((kX (kX b12.tr 0) 4).kids.take (i + 1)))) (by rw [serX_S (by omega : i < (kX (kX b12.tr 0) 4).kids.length)]; simp [v64s])) rfl (fun _ => skk rfl) (fun b63 p63 => ?_)
      refine wpd_p 9 rfl zz6 trivial (q_field Try.underlying30 rfl Try.ti25 rfl rfl _ rfl) rfl (skk rfl) ?_
      refine wpd_t0 10 rfl zz6 trivial (t_st1 Try.ti25 rfl rfl (SV.one zz2) zz3 [str (kX (kX b12.tr 0) 0).bs, .int .u64 ((nX (kX (kX b12.tr 0) 1) 2).toNat : Int), .int .i64 (smX (nX (kX (kX b12.tr 0) 2) 3) 1099511627776), .int .i64 (smX (nX (kX (kX b12.tr 0) 3) 4) 1099511627776), b63, .int .i64 (smX (nX (kX (kX b12.tr 1) 0) 1) 1000), y.1, y.2] rfl) (fun _ => skk rfl) (fun _ => ?_)
      refine wpd_done zz6 ?_
      refine ex_block <| ex_then <| wpc_region <| wpl_q (q_pure rfl) rfl ?_
      refine wpl_q (q_addN (b := 1) rfl rfl zz0) rfl ?_
      refine wpl_q (q_pure rfl) rfl <| wpl_nil ?_
      refine ex_again ⟨(i + 1, b63), ⟨by show i + 1 ≤ _; omega, p63⟩⟩ ?_ ?_ ?_
      ·
       exact zz7
      ·
       exact fun w h => h.sel
      ·
       (show ((b12.kids.getD 0 HT.z).kids.getD 4 HT.z).kids.length - (i + 1) < ((b12.kids.getD 0 HT.z).kids.getD 4 HT.z).kids.length - i); omega
     ·
      simp only [decide_eq_false_iff_not] at hc52
      obtain rfl : i = (kX (kX b12.tr 0) 4).kids.length := by omega
      rw [List.take_length]
      have hi1 : SV sv (kX (kX b12.tr 0) 4).kids.length := hi1
      refine wpc_exit ?_
      refine ex_then_exit ?_
      refine ex_then_exit ?_
      refine ex_block_hit ?_
      refine ex_then <| wpc_seq <| wpc_seq ?_
      have hnmO : (kX (kX b12.tr 0) 0).bs.length ≤ maxLen := by
        have q2 : (kX (kX b12.tr 0) 0).bs.length ≤ 1000000 := bs_le (sm_kX (sm_kX hsmT 0) 0)
        unfold maxLen; omega
      haveI : OneC (outX b12.tr sv y.1 y.2).c := Rv.svs.one (l := (outX b12.tr sv y.1 y.2)) ⟨by show SV sv (serX (kX (kX b12.tr 0) 4).kids).length; rw [serX_len]; exact hi1, hy1, hy2⟩
      haveI : OneC [str (kX (kX b12.tr 0) 0).bs, .int .u64 ((nX (kX (kX b12.tr 0) 1) 2).toNat : Int), .int .i64 (smX (nX (kX (kX b12.tr 0) 2) 3) 1099511627776), .int .i64 (smX (nX (kX (kX b12.tr 0) 3) 4) 1099511627776), sv, .int .i64 (smX (nX (kX (kX b12.tr 1) 0) 1) 1000), y.1, y.2] := Rv.svs.one (l := (outX b12.tr sv y.1 y.2)) ⟨by show SV sv (serX (kX (kX b12.tr 0) 4).kids).length; rw [serX_len]; exact hi1, hy1, hy2⟩
      refine wpc_region <| wpl_q (q_ldN Try.underlying30 rfl Try.ti30 rfl LenC.h) rfl ?_
      refine wpl_t (t_pur Try.hb13 rfl fun w h => refRvCheck (outX b12.tr sv y.1 y.2) w ⟨(by rw [show ((outX b12.tr sv y.1 y.2)).ss.length = (kX (kX b12.tr 0) 4).kids.length from serX_len _]; exact h.seen_row zz4), h.seen_row zz4, shX_16 _, h.seen_row zz4, shX_16 _⟩ hnmO) rfl (fun b66 => ?_)
      refine wpl_q (q_pure rfl) rfl <| wpl_q (q_pure rfl) rfl ?_
      refine wpl_bool2 68 67 rfl rfl (fun hb68 => ?_) (fun hb68 => ?_)
      ·
       refine wpl_off rfl rfl rfl rfl <| wpl_off rfl rfl rfl rfl <| wpl_off rfl rfl rfl rfl <| wpl_off rfl rfl rfl rfl <| wpl_off rfl rfl rfl rfl <| wpl_off rfl rfl rfl rfl <| wpl_q (q_pure rfl) rfl <| wpl_nil <| ex_then ?_
       refine wpc_cond_t rfl ?_
       refine wpc_seq <| wpc_region ?_
       refine wpl_q (q_build (cs := Rv.z.c) rfl built_rz) rfl ?_
       refine wpl_t0 (t_stA Try.ti30 rfl rfl LenC.h OneC.h LenC.h) (fun _ => ?_)
       refine wpl_q (q_pure rfl) rfl <| wpl_nil <| ex_then <| wpc_ret ?_
       refine ex_then_ret ?_
       refine retv2 (.inl rfl) rfl (rv_agg Try.underlying30 rfl Try.ti30 rfl (fun w h => h.atB) zz8) (rv_tmp rfl) ?_
       exact fun w1 h => ⟨(Rv.z, 12), ⟨zz40, Rv.z_svs⟩, rfl, h.below, rvE_z h⟩
      ·
       have hZ : chkR (outX b12.tr sv y.1 y.2) = 0 := bne_f hb68
       have hkl := chk_lim hZ
       refine wpl_on rfl rfl <| wpl_q (q_ldN Try.underlying30 rfl Try.ti30 rfl LenC.h) rfl <| wpl_on rfl rfl ?_
       refine wpl_tp (t_callPT Try.hb46 rfl fun w h => refWhole (outX b12.tr sv y.1 y.2) w ⟨(by rw [show ((outX b12.tr sv y.1 y.2)).ss.length = (kX (kX b12.tr 0) 4).kids.length from serX_len _]; exact h.seen_row zz4), h.seen_row zz4, shX_16 _, h.seen_row zz4, shX_16 _⟩ hnmO hkl) rfl (fun b70 p70 => ?_)
       haveI := p70.2.one
       refine wpl_on rfl rfl ?_
       refine wpl_tp (t_callP1 Try.hb45 rfl fun w h => refPut_ok w (Mem.hseenF h zz4) (sm_whole hkl (shX_16 _) (shX_16 _)) p70.1) rfl (fun b71 p71 => ?_)
       refine wpl_on rfl rfl <| wpl_q (q_pure rfl) rfl <| wpl_on rfl rfl ?_
       refine wpl_t (t_pur Try.hb23 rfl fun w h => sameB b71 (enc (wholeT (outX b12.tr sv y.1 y.2))) av xs w (h.seen_row zz4) (h.seen_old hav)) rfl (fun b73 => ?_)
       refine wpl_on rfl rfl <| wpl_q (q_pure rfl) rfl <| wpl_q (q_pure rfl) rfl <| wpl_nil <| ex_then ?_
       refine wpc_cond rfl (fun hc75 => ?_) (fun hc75 => ?_)
       ·
        try simp only [decide_eq_true_eq, decide_eq_false_iff_not, Bool.and_eq_true, Bool.or_eq_true, beq_iff_eq, bne_iff_ne, ne_eq, Bool.not_eq_true', Bool.not_eq_false', Decidable.not_not] at hc75
        refine wpc_seq <| wpc_region ?_
        refine wpl_q (q_build (cs := Rv.z.c) rfl built_rz) rfl ?_
        refine wpl_t0 (t_stA Try.ti30 rfl rfl LenC.h OneC.h LenC.h) (fun _ => ?_)
        refine wpl_q (q_pure rfl) rfl <| wpl_nil <| ex_then <| wpc_ret ?_
        refine ex_then_ret ?_
        refine retv2 (.inl rfl) rfl (rv_agg Try.underlying30 rfl Try.ti30 rfl (fun w h => h.atB) zz8) (rv_tmp rfl) ?_
        exact fun w1 h => ⟨(Rv.z, 12), ⟨zz40, Rv.z_svs⟩, rfl, h.below, rvE_z h⟩
       ·
        try simp only [decide_eq_true_eq, decide_eq_false_iff_not, Bool.and_eq_true, Bool.or_eq_true, beq_iff_eq, bne_iff_ne, ne_eq, Bool.not_eq_true', Bool.not_eq_false', Decidable.not_not] at hc75
        refine wpc_skip <| ex_then <| wpc_seq <| wpc_region <| wpl_q (q_ldN Try.underlying30 rfl Try.ti30 rfl LenC.h) rfl ?_
        refine wpl_t0 (t_stA Try.ti30 rfl rfl LenC.h OneC.h LenC.h) (fun _ => ?_)
        refine wpl_q (q_pure rfl) rfl <| wpl_nil <| ex_then <| wpc_ret ?_
        refine retv2 (.inl rfl) rfl (rv_agg Try.underlying30 rfl Try.ti30 rfl (fun w h => h.atB) zz8) (rv_tmp rfl) ?_
        exact fun w1 h => ⟨((outX b12.tr sv y.1 y.2), 0), ⟨by have q := decX_yes (xs := xs) (sv := sv) (cv := y.1) (pv := y.2) (by rw [← p12.1]; exact hZ) (by rw [← p12.1]; first | exact hc75 | (simpa using hc75)); rwa [← p12.1] at q, ⟨by show SV sv (serX (kX (kX b12.tr 0) 4).kids).length; rw [serX_len]; exact hi1, hy1, hy2⟩⟩, rfl, h.below, by
          show New _ [Ent.row sv (serX (kX (kX b12.tr 0) 4).kids).length 22 1 (v64s (serX (kX (kX b12.tr 0) 4).kids)), .row y.1 (shX (kX (kX b12.tr 1) 1).bs).length 62 16 (v8s (shX (kX (kX b12.tr 1) 1).bs).flatten), .row y.2 (shX (kX (kX b12.tr 1) 2).bs).length 62 16 (v8s (shX (kX (kX b12.tr 1) 2).bs).flatten)] [] w1
          rw [serX_len]
          exact (h.sel (M' := [Ent.row sv (kX (kX b12.tr 0) 4).kids.length 22 1 (v64s (serX (kX (kX b12.tr 0) 4).kids)), .row y.1 (shX (kX (kX b12.tr 1) 1).bs).length 62 16 (v8s (shX (kX (kX b12.tr 1) 1).bs).flatten), .row y.2 (shX (kX (kX b12.tr 1) 2).bs).length 62 16 (v8s (shX (kX (kX b12.tr 1) 2).bs).flatten)])).made (Sub.refl _) .nil⟩
end Go.Proofs.Ytgnablliekgbgaa
namespace Go.Proofs.Ytgnablliekgbgaa
open Go Go.PL Go.RowKit
def rvseen (y : Rv) : Fact := ⟨fun r => y.seen r, fun _ _ hr h => h.mono hr⟩
theorem Mem.rvF {w0 w : World} {Ln : List Nat} {M : List Ent} {S : List Fact} (h : Mem w0 Ln M S w) {y : Rv} (hy : Go.Proofs.Ytgnablliekgbgaa.rvseen y ∈ S) : y.seen w.cell? := h.fact hy
theorem DecP.len {xs : List UInt8} {y : Rv} {e : Int} (h : DecP xs y e) : (∀ x ∈ y.chs, x.length = 16) ∧ (∀ x ∈ y.ps, x.length = 16) := by
  rcases h with ⟨_, h, _⟩ | ⟨_, h, _⟩
  · exact h.2
  · have h1 : y.chs = [] := h.2.2.2.2.2.1
    have h2 : y.ps = [] := h.2.2.2.2.2.2
    rw [h1, h2]
    constructor <;> (intro x hx; cases hx)
theorem rv_freeze {w0 w : World} {M : List Ent} {S : List Fact} {y : Rv} (hc : ∀ x ∈ y.chs, x.length = 16) (hp : ∀ x ∈ y.ps, x.length = 16) (h : Mem w0 [] (rvE y ++ M) S w) : Mem w0 [] M (Go.Proofs.Ytgnablliekgbgaa.rvseen y :: S) w := by
  have h2 := ((h.freezeRow .here).freezeRow .here).freezeRow .here
  exact h2.imp fun r hr f hf => by
    rcases List.mem_cons.1 hf with rfl | hf
    · exact ⟨hr (Go.PL.seen y.sv y.ss.length 1 (v64s y.ss)) zz44, hr (Go.PL.seen y.cv y.chs.length 16 (v8s y.chs.flatten)) zz44, hc, hr (Go.PL.seen y.pv y.ps.length 16 (v8s y.ps.flatten)) zz44, hp⟩
    · exact hr f (by simp [hf])
theorem frzD {P : Program} {k : FuncId} {vs : Array Value} {w : World} {xs : List UInt8} {V : Rv × Int → Value} (h : Calls P k vs w (GivesP w (fun y : Rv × Int => DecP xs y.1 y.2 ∧ y.1.svs) V (fun y => rvE y.1) (fun _ => []))) : Calls P k vs w (GivesP w (fun y : Rv × Int => DecP xs y.1 y.2 ∧ y.1.svs) V (fun _ => []) (fun y => [Go.Proofs.Ytgnablliekgbgaa.rvseen y.1])) := by
  refine h.mono ?_
  rintro e w' ⟨y, hp, rfl, hb, hn⟩
  have hm := (Mem.start w).call hb hn
  rw [List.append_nil, List.append_nil] at hm
  exact ⟨y, hp, rfl, hb, (rv_freeze (M := []) hp.1.len.1 hp.1.len.2 (by rw [List.append_nil]; exact hm)).made .nil (Sub.refl _)⟩
theorem lim_no {l : Rv} (h : bigR l = false) : RLim l := by
  obtain ⟨a1, a2, a3, a4⟩ := big_no h
  exact ⟨a1, a2, a3, a4⟩
theorem lawCodes11 (l : Rv) (bv : Value) (bs : List UInt8) (w : World) (hl : l.seen w.cell?) (hnl : l.nm.length ≤ maxLen) (hbv : Seen w.cell? bv bs.length 1 (v8s bs))  :
    Calls Try.prog 4 [.agg l.c.toArray, bv].toArray w (Pur w (.bool true)) := by
  haveI := hl.svs.one
  have lss := hl.s.sv.le
  have lcs := hl.c.sv.le
  have lps := hl.p.sv.le
  have sss := hl.s.sv
  have scs := hl.c.sv
  have sps := hl.p.sv
  simp only [maxLen] at lss lcs lps
  have sbv := hbv.sv
  have lbv := sbv.le
  simp only [maxLen] at lbv
  refine enter (m := 91) (R := Mem w [] [] []) Try.func4 rfl rfl (Nat.le_of_ble_eq_true rfl) (Mem.start w) ?_
  refine wpc_seq <| wpc_region ?_
  refine wpl_t (t_box rfl l.c rfl) rfl (fun b2 => ?_)
  refine wpl_q (q_pure rfl) rfl <| wpl_nil <| ex_then <| wpc_seq <| wpc_seq <| wpc_region <| wpl_q (q_ldN Try.underlying30 rfl Try.ti30 rfl LenC.h) rfl ?_
  refine wpl_t (t_pur Try.hb7 rfl fun w h => refRvGreat l w (hl.old h rfl) hnl) rfl (fun b19 => ?_)
  refine wpl_q (q_pure rfl) rfl ?_
  refine wpl_bool2 20 19 rfl rfl (fun hb20 => ?_) (fun hb20 => ?_)
  ·
   refine wpl_off rfl rfl rfl rfl <| wpl_off rfl rfl rfl rfl <| wpl_off rfl rfl rfl rfl <| wpl_q (q_pure rfl) rfl <| wpl_nil <| ex_then ?_
   refine wpc_cond_t rfl ?_
   refine wpc_seq <| wpc_region <| wpl_q (q_pure rfl) rfl <| wpl_nil <| ex_then <| wpc_ret ?_
   refine ex_then_ret ?_
   refine ret1 (.inl rfl) rfl rfl ?_
   exact fun w h => ⟨by first | rfl | simp, h.below⟩
  ·
   have hk : RLim l := lim_no (l := l) hb20
   refine wpl_on rfl rfl <| wpl_q (q_pure rfl) rfl <| wpl_on rfl rfl ?_
   refine wpl_q (q_lenW Try.underlying43 rfl zz2) rfl ?_
   refine wpl_on rfl rfl <| wpl_q (q_pure rfl) rfl <| wpl_q (q_pure rfl) rfl <| wpl_nil <| ex_then ?_
   refine wpc_cond rfl (fun hc24 => ?_) (fun hc24 => ?_)
   ·
    try simp only [decide_eq_true_eq, decide_eq_false_iff_not, Bool.and_eq_true, Bool.or_eq_true, beq_iff_eq, bne_iff_ne, ne_eq, Bool.not_eq_true', Bool.not_eq_false', Decidable.not_not] at hc24
    refine wpc_seq <| wpc_region <| wpl_q (q_pure rfl) rfl <| wpl_nil <| ex_then <| wpc_ret ?_
    refine ex_then_ret ?_
    refine ret1 (.inl rfl) rfl rfl ?_
    exact fun w h => ⟨by first | rfl | simp, h.below⟩
   ·
    try simp only [decide_eq_true_eq, decide_eq_false_iff_not, Bool.and_eq_true, Bool.or_eq_true, beq_iff_eq, bne_iff_ne, ne_eq, Bool.not_eq_true', Bool.not_eq_false', Decidable.not_not] at hc24
    refine wpc_skip <| ex_then <| wpc_seq <| wpc_region ?_
    refine wpl_tp (t_bs0W Try.underlying43 Try.ti5) rfl (fun b25 p25 => ?_)
    refine wpl_q (q_pure rfl) rfl ?_
    refine wpl_tp (t_ap0 Try.underlying43 Try.ti5 rfl zz18 rfl rfl (fun w h => h.seen_old hbv) (v8s_one _) zz0 zz0) rfl (fun b27 p27 => ?_)
    refine wpl_q (q_pure rfl) rfl <| wpl_nil <| ex_then <| wpc_seq <| wpc_region <| wpl_q (q_ldN Try.underlying30 rfl Try.ti30 rfl LenC.h) rfl ?_
    refine wpl_tp (t_callP1 Try.hb17 rfl fun w h => rvEncode l w (hl.old h rfl) hnl hk) rfl (fun b30 p30 => ?_)
    refine wpl_q (q_pure rfl) rfl <| wpl_q (q_pure rfl) rfl <| wpl_q (q_pure rfl) rfl <| wpl_q (q_pure rfl) rfl <| wpl_q (q_pure rfl) rfl <| wpl_nil <| ex_then <| wpc_seq <| wpc_region <| wpl_q (q_ldN Try.underlying30 rfl Try.ti30 rfl LenC.h) rfl ?_
    refine wpl_tp (t_callP1 Try.hb18 rfl fun w h => refRvEncode l w (hl.old h rfl) hnl hk) rfl (fun b35 p35 => ?_)
    refine wpl_q (q_pure rfl) rfl <| wpl_q (q_pure rfl) rfl <| wpl_q (q_pure rfl) rfl <| wpl_q (q_pure rfl) rfl <| wpl_q (q_pure rfl) rfl <| wpl_nil <| ex_then <| wpc_seq <| wpc_region <| wpl_q (q_ldN Try.underlying30 rfl Try.ti30 rfl LenC.h) rfl ?_
    refine wpl_tp (t_callP1 Try.hb19 rfl fun w h => rvBodyB l w (hl.old h rfl) hnl hk.ss hk.nm) rfl (fun b40 p40 => ?_)
    refine wpl_q (q_pure rfl) rfl <| wpl_q (q_pure rfl) rfl <| wpl_q (q_pure rfl) rfl <| wpl_q (q_pure rfl) rfl <| wpl_q (q_pure rfl) rfl <| wpl_nil <| ex_then <| wpc_seq <| wpc_region <| wpl_q (q_ldN Try.underlying30 rfl Try.ti30 rfl LenC.h) rfl ?_
    refine wpl_tp (t_callP1 Try.hb20 rfl fun w h => refBodyB l w (hl.old h rfl) hnl hk.ss hk.nm) rfl (fun b45 p45 => ?_)
    refine wpl_q (q_pure rfl) rfl <| wpl_q (q_pure rfl) rfl <| wpl_q (q_pure rfl) rfl <| wpl_q (q_pure rfl) rfl <| wpl_q (q_pure rfl) rfl <| wpl_nil <| ex_then <| wpc_seq <| wpc_region <| wpl_q (q_pure rfl) rfl ?_
    refine wpl_tp (t_callPT Try.hb21 rfl fun w h => frzD (decodeR bv bs w (h.seen_old hbv))) rfl (fun b50 p50 => ?_)
    haveI := p50.2.one
    refine wpl_q (q_pure rfl) rfl <| wpl_q (q_pure rfl) rfl <| wpl_q (q_pure rfl) rfl ?_
    refine wpl_t (t_alloc Try.ti30 Rv.z.c rfl) rfl (fun b14 => ?_)
    refine wpl_t0 (t_stA Try.ti30 rfl rfl LenC.h OneC.h LenC.h) (fun _ => ?_)
    refine wpl_q (q_pure rfl) rfl <| wpl_nil <| ex_then <| wpc_seq <| wpc_region <| wpl_q (q_pure rfl) rfl ?_
    refine wpl_tp (t_callPT Try.hb22 rfl fun w h => frzD (refDecodeR bv bs w (h.seen_old hbv))) rfl (fun b55 p55 => ?_)
    haveI := p55.2.one
    have hun := p50.1.uniq p55.1
    refine wpl_q (q_pure rfl) rfl <| wpl_q (q_pure rfl) rfl <| wpl_q (q_pure rfl) rfl ?_
    refine wpl_t (t_alloc Try.ti30 Rv.z.c rfl) rfl (fun b16 => ?_)
    refine wpl_t0 (t_stA Try.ti30 rfl rfl LenC.h OneC.h LenC.h) (fun _ => ?_)
    refine wpl_q (q_pure rfl) rfl <| wpl_nil <| ex_then <| wpc_seq <| wpc_region <| wpl_q (q_pure rfl) rfl <| wpl_q (q_pure rfl) rfl ?_
    refine wpl_t (t_pur (v := .bool true) Try.hb23 rfl fun w h => by
      have q := sameB b30 (encB l) b35 (encB l) w zz39 zz39
      rwa [decide_eq_true rfl] at q) rfl (fun b60 => ?_)
    refine wpl_q (q_pure rfl) rfl <| wpl_on rfl rfl <| wpl_q (q_pure rfl) rfl <| wpl_on rfl rfl <| wpl_q (q_pure rfl) rfl <| wpl_on rfl rfl <| wpl_q (q_tru (q_eqI rfl rfl) rfl) rfl <| wpl_q (q_pure rfl) rfl <| wpl_q (q_pure rfl) rfl <| wpl_on rfl rfl <| wpl_q (q_pure rfl) rfl <| wpl_on rfl rfl ?_
    refine wpl_q (q_pure rfl) rfl <| wpl_on rfl rfl ?_
    refine wpl_t (t_pur (v := .bool true) Try.hb23 rfl fun w h => by
      have q := sameB b40 (bdyB l) b45 (bdyB l) w zz39 zz39
      rwa [decide_eq_true rfl] at q) rfl (fun b69 => ?_)
    refine wpl_q (q_pure rfl) rfl <| wpl_q (q_pure rfl) rfl <| wpl_on rfl rfl <| wpl_q (q_pure rfl) rfl <| wpl_on rfl rfl <| wpl_q (q_pure rfl) rfl <| wpl_on rfl rfl <| wpl_q (q_tru (q_eqI rfl rfl) rfl) rfl <| wpl_q (q_pure rfl) rfl <| wpl_q (q_pure rfl) rfl <| wpl_on rfl rfl <| wpl_q (q_ldN Try.underlying30 rfl Try.ti30 rfl LenC.h) rfl ?_
    refine wpl_on rfl rfl <| wpl_q (q_ldN Try.underlying30 rfl Try.ti30 rfl LenC.h) rfl <| wpl_on rfl rfl ?_
    refine wpl_t (t_pur (v := .bool true) Try.hb15 rfl fun w h => by
      have q := refRvSame b50.1 b55.1 w (Mem.rvF h zz4) (Mem.rvF h zz4)
      rwa [decide_eq_true (hun.1)] at q) rfl (fun b79 => ?_)
    refine wpl_q (q_pure rfl) rfl <| wpl_q (q_pure rfl) rfl <| wpl_on rfl rfl <| wpl_q (q_pure rfl) rfl <| wpl_on rfl rfl <| wpl_q (q_pure rfl) rfl <| wpl_on rfl rfl <| wpl_q (q_tru (q_eqI rfl rfl) hun.2) rfl <| wpl_q (q_pure rfl) rfl <| wpl_q (q_pure rfl) rfl <| wpl_on rfl rfl <| wpl_q (q_pure rfl) rfl ?_
    refine wpl_on rfl rfl <| wpl_q (q_pure rfl) rfl <| wpl_on rfl rfl ?_
    refine wpl_t (t_pur (v := .bool true) Try.hb23 rfl fun w h => by
      have q := sameB bv (bs) b27 (bs) w zz39 zz39
      rwa [decide_eq_true rfl] at q) rfl (fun b89 => ?_)
    refine wpl_q (q_pure rfl) rfl <| wpl_q (q_pure rfl) rfl <| wpl_nil <| ex_then <| wpc_ret ?_
    refine ret1 (.inl rfl) rfl rfl ?_
    exact fun w h => ⟨by first | rfl | simp, h.below⟩
end Go.Proofs.Ytgnablliekgbgaa
namespace Go.Proofs.Ytgnablliekgbgaa
open Go Go.PL Go.RowKit
section
variable {H : Type} {enc : TypeId × Value → H} {w : World} {base : Nat} {sp : Nat → Bool} {held : Bool}
abbrev VL := Value × List (List UInt8)
theorem opensSig : Opens enc Try.prog w base sp held 28 (fun (a : Int × VL × VL) c _ => c = [.int .i64 a.1, a.2.1.1, a.2.2.1] ∧ (Seen w.cell? a.2.1.1 a.2.1.2.length 16 (v8s a.2.1.2.flatten) ∧ ∀ x ∈ a.2.1.2, x.length = 16) ∧ Seen w.cell? a.2.2.1 a.2.2.2.length 16 (v8s a.2.2.2.flatten) ∧ ∀ x ∈ a.2.2.2, x.length = 16) := by
  intro n c y h
  obtain ⟨⟨i, p, q, _⟩, x0, y0, d0, e0, h0, x1, y1, d1, e1, h1, x2, y2, d2, e2, h2, h3⟩ := opens_struct Try.underlying28 (fin := 3) zz6 (OpensFs.cons (s := 1) rfl zz6 (opens_i64 Try.underlying3) (OpensFs.cons (s := 1) rfl zz6 (opens_arrs Try.underlying26 Try.underlying62 Try.underlying5 zz6 zz6) (OpensFs.cons (s := 1) rfl zz6 (opens_arrs Try.underlying26 Try.underlying62 Try.underlying5 zz6 zz6) (OpensFs.nil _)))) n c y h
  dsimp only at h0 h1 h2 h3
  refine ⟨(i, p, q), ?_, ⟨h1.2.1, h1.2.2⟩, h2.2.1, h2.2.2⟩
  rw [e0, e1, e2, h0.1, h1.1, h2.1, h3]; rfl
theorem opensWin : Opens enc Try.prog w base sp held 24 (fun (a : Int × Int) c _ => c = [.int .i64 a.1, .int .i64 a.2]) := by
  intro n c y h
  obtain ⟨⟨a, b, _⟩, x0, y0, d0, e0, h0, x1, y1, d1, e1, h1, h2⟩ := opens_struct Try.underlying24 (fin := 2) zz6 (OpensFs.cons (s := 1) rfl zz6 (opens_i64 Try.underlying2) (OpensFs.cons (s := 1) rfl zz6 (opens_i64 Try.underlying2) (OpensFs.nil _))) n c y h
  dsimp only at h0 h1 h2
  refine ⟨(a, b), ?_⟩
  rw [e0, e1, h0.1, h1.1, h2]; rfl
theorem opensRv : Opens enc Try.prog w base sp held 30 (fun (a : Rv) c _ => c = a.c ∧ a.seen w.cell? ∧ a.nm.length ≤ maxLen) := by
  intro n c y h
  obtain ⟨⟨nm, no, ⟨f, t⟩, ⟨v, ss⟩, ⟨i, p, q⟩, _⟩, x0, y0, d0, e0, h0, x1, y1, d1, e1, h1, x2, y2, d2, e2, h2, x3, y3, d3, e3, h3, x4, y4, d4, e4, h4, h5⟩ := opens_struct Try.underlying30 (fin := 8) zz6 (OpensFs.cons (s := 1) rfl zz6 (opens_str Try.underlying9) (OpensFs.cons (s := 1) rfl zz6 (opens_u64 Try.underlying22) (OpensFs.cons (s := 2) rfl zz6 opensWin (OpensFs.cons (s := 1) rfl zz6 (opens_nums Try.underlying25 zz6 (opens_u64 Try.underlying22)) (OpensFs.cons (s := 3) rfl zz6 opensSig (OpensFs.nil _)))))) n c y h
  dsimp only at h0 h1 h2 h3 h4 h5
  refine ⟨⟨nm, no, f, t, v, ss, i, p.1, p.2, q.1, q.2⟩, ?_, ⟨h3.2.1, h4.2.1.1, h4.2.1.2, h4.2.2.1, h4.2.2.2⟩, h0.2.1⟩
  rw [e0, e1, e2, e3, e4, h0.1, h1, h2, h3.1, h4.1, h5]; rfl
end
end Go.Proofs.Ytgnablliekgbgaa
