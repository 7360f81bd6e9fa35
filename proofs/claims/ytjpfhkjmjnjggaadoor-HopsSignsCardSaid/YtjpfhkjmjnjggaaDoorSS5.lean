/- What the statement reaches, in order. -/
import Derived.Test.YtjpfhkjmjnjggaaDoorTI
import Derived.Test.YtjpfhkjmjnjggaaDoorPLI
import Derived.Test.YtjpfhkjmjnjggaaDoorPLZ
import Derived.Test.YtjpfhkjmjnjggaaDoorPLL
import Derived.Test.YtjpfhkjmjnjggaaDoorPLN
import Derived.Test.YtjpfhkjmjnjggaaDoorPLP
import Derived.WalkKit
import Derived.ProofKit
import Derived.OpenShut
import Derived.ChangeOld
import Derived.Below
import Derived.Carry
import Derived.LaidMore
import Derived.Deep.DeepHandedRow
import Derived.Deep.DeepWitnessRowRef
import Derived.Lib.LaidTab
import Derived.Stop.Joined
import Derived.Test.YtjpfhkjmjnjggaaDoorSS4
namespace Go.Proofs.YtjpfhkjmjnjggaaDoor
set_option linter.unusedSimpArgs false
set_option linter.unusedVariables false
open Go Go.PL Go.RowKit

instance lenC_pth2 {p : Pth} : LenC p.c 5 := ⟨rfl⟩
abbrev tw2 (p : Pth) (x : Value × List Hop) : Pth := ⟨p.pf, p.pa, p.pb, p.pl, x.1, x.2⟩
theorem sixteenB {l : List UInt8} (h : l.length = 16) : ∃ a0 a1 a2 a3 a4 a5 a6 a7 a8 a9 b0 b1 b2 b3 b4 b5, l = [a0, a1, a2, a3, a4, a5, a6, a7, a8, a9, b0, b1, b2, b3, b4, b5] := by
  match l, h with
  | [a0, a1, a2, a3, a4, a5, a6, a7, a8, a9, b0, b1, b2, b3, b4, b5], _ => exact ⟨_, _, _, _, _, _, _, _, _, _, _, _, _, _, _, _, rfl⟩
theorem built_hop0 (a : UInt32) (b c : UInt8) (d : UInt32) (l : List UInt8) (h : l.length = 16) (t : Int) : Tryd.prog.built 68 [(0, .int .u32 (a.toNat : Int)), (1, .int .u8 (b.toNat : Int)), (2, .int .u8 (c.toNat : Int)), (3, .int .u32 (d.toNat : Int)), (4, .agg (v8s l ++ [Value.int .i64 t]).toArray)] = some (Hop.mk a b c d ⟨l, h⟩ t 0 (.slice none 0 0) [] (.slice none 0 0) []).c.toArray := by
  obtain ⟨a0, a1, a2, a3, a4, a5, a6, a7, a8, a9, b0, b1, b2, b3, b4, b5, rfl⟩ := sixteenB h
  kernel_rfl
theorem built_hop (h : Hop) (s : S16) (ht : Int) : Tryd.prog.built 68 [(0, .int .u32 (h.sy.toNat : Int)), (1, .int .u8 (h.cnt.toNat : Int)), (2, .int .u8 (h.fl.toNat : Int)), (3, .int .u32 (h.to.toNat : Int)), (4, .agg (v8s (keyR s.1 ht) ++ [Value.int .i64 (keyH ht)]).toArray)] = some (newH h s ht).c.toArray := built_hop0 _ _ _ _ _ (keyR_l s ht) _
def sgK (h : Hop) (ht : Int) : Int := if 1 < h.fl.toNat then 2 else keyE ht
theorem sgK_no {h : Hop} {ht idx : Int} (hk : sgK h ht ≠ 0) : sgE h ht idx = sgK h ht := by
  unfold sgK at hk ⊢
  by_cases h1 : 1 < h.fl.toNat
  · rw [if_pos h1, sgE_fl h1]
  · rw [if_neg h1] at hk ⊢; exact sgE_key h1 hk
theorem sgK_ok {h : Hop} {ht idx : Int} (hk : sgK h ht = 0) : sgE h ht idx = sigE ht idx := by
  unfold sgK at hk
  by_cases h1 : 1 < h.fl.toNat
  · rw [if_pos h1] at hk; cases hk
  · rw [if_neg h1] at hk; exact sgE_sig h1 (by rw [hk]; decide)

set_option maxRecDepth 100000 in
theorem refSignP (p : Pth) (hp : Hop) (s : S16) (ht : Int) (idx : Int) (w : World) (hpp : p.seen w.cell?) (hsvh : hp.sv) (hlim : SmP p) (hn35 : p.hs.length ≤ 35) :
    Calls Tryd.prog 53 [.agg p.c.toArray, .agg hp.c.toArray, .agg (v8s s.1).toArray, .int .i64 ht, .int .i64 idx].toArray w (GivesP w (fun x : Value × List Hop => SV x.1 (sgP p hp s ht idx).hs.length ∧ HsEqv (sgP p hp s ht idx).hs x.2) (fun x => .tuple #[.agg (reP (sgP p hp s ht idx) x).c.toArray, .int .i64 (sgE hp ht idx)]) (fun x => [.row x.1 (sgP p hp s ht idx).hs.length 68 24 (hcs x.2)]) (fun x => [hopsF x.2])) := by
  obtain ⟨pf, pa, pb, pl, hv, hs⟩ := p
  have hh : Seen w.cell? hv hs.length 24 (hcs hs) := hpp.1
  have svh := hh.sv
  have lh := svh.le
  simp only [maxLen] at lh
  have hn35 : hs.length ≤ 35 := hn35
  haveI := hsvh.one
  refine enter (m := 72) (R := Mem w [] [] []) Tryd.func53 rfl rfl (Nat.le_of_ble_eq_true rfl) (Mem.start w) ?_
  refine wpc_seq ?_
  refine wpc_region ?_
  refine wpl_t (t_box rfl [.int .u8 (pf.toNat : Int), .int .u64 (pa.toNat : Int), .int .u64 (pb.toNat : Int), .int .i64 pl, hv] rfl) rfl (fun b5 => ?_)
  refine wpl_t (t_box rfl hp.c rfl) rfl (fun b6 => ?_)
  refine wpl_t (t_box rfl (v8s s.1) rfl) rfl (fun b7 => ?_)
  refine wpl_t (t_alloc Tryd.ti29 Pth.z.c rfl) rfl (fun b10 => ?_)
  refine wpl_q (q_pure rfl) rfl ?_
  refine wpl_nil ?_
  refine ex_then ?_
  refine wpc_seq ?_
  refine wpc_region ?_
  refine wpl_q (q_ldN Tryd.underlying61 rfl Tryd.ti61 rfl LenC.h) rfl ?_
  refine wpl_q (q_pure rfl) rfl ?_
  refine wpl_t (t_pur Tryd.hb81 rfl fun w h => refKey7 s.1 ht w s.2) rfl (fun b20 => ?_)
  refine wpl_q (q_pure rfl) rfl ?_
  refine wpl_q (q_pure rfl) rfl ?_
  refine wpl_q (q_pure rfl) rfl ?_
  refine wpl_t (t_alloc Tryd.ti63 (v8s (List.replicate 16 0) ++ [.int .i64 0]) rfl) rfl (fun b12 => ?_)
  refine wpl_t0 (t_stA Tryd.ti63 rfl rfl LenC.h (key_ro s ht) rfl) (fun _ => ?_)
  refine wpl_q (q_pure rfl) rfl ?_
  refine wpl_nil ?_
  refine ex_then ?_
  refine wpc_cutc ({ x : Int // (x = sgK hp ht) }) [(3, .int .i64 ht), (4, .int .i64 idx), (5, .pointer (some ⟨b5, 0, none⟩)), (6, .pointer (some ⟨b6, 0, none⟩)), (7, .pointer (some ⟨b7, 0, none⟩)), (10, .pointer (some ⟨b10, 0, none⟩)), (12, .pointer (some ⟨b12, 0, none⟩))] (fun x Lc => (13, .int .i64 x.1) :: Lc) (fun x => Mem w [] [.blk b12 63 (v8s (keyR s.1 ht) ++ [Value.int .i64 (keyH ht)]), .blk b10 29 Pth.z.c, .blk b7 61 (v8s s.1), .blk b6 68 hp.c, .blk b5 29 [.int .u8 (pf.toNat : Int), .int .u64 (pa.toNat : Int), .int .u64 (pb.toNat : Int), .int .i64 pl, hv]] []) ?_ ?_
  ·
   refine wpc_seq ?_
   refine wpc_region ?_
   refine wpl_q (q_field Tryd.underlying68 rfl Tryd.ti5 rfl rfl _ rfl) rfl ?_
   refine wpl_q (q_ld Tryd.underlying5 rfl rfl hp.c_fl) rfl ?_
   refine wpl_q (q_pure rfl) rfl ?_
   refine wpl_nil ?_
   refine ex_then ?_
   refine wpc_cond rfl (fun hc25 => ?_) (fun hc25 => ?_)
   ·
    have hfl : 1 < hp.fl.toNat := by simp only [decide_eq_true_eq] at hc25; omega
    have hX : 2 = sgK hp ht := (if_pos hfl).symm
    refine wpc_region ?_
    refine wpl_q (q_pure rfl) rfl ?_
    refine wpl_nil ?_
    refine ex_mid ⟨2, hX⟩ ?_ ?_
    ·
     exact (by subs_)
    ·
     exact fun w h => by first | exact h | exact h.sub SubC.h SubC.h | exact h.sub (by subT_) (by subT_)
   ·
    have hfl : ¬ 1 < hp.fl.toNat := by simp only [decide_eq_false_iff_not] at hc25; omega
    have hX : keyE ht = sgK hp ht := (if_neg hfl).symm
    refine wpc_skip ?_
    refine ex_mid ⟨keyE ht, hX⟩ ?_ ?_
    ·
     exact (by subs_)
    ·
     exact fun w h => by first | exact h | exact h.sub SubC.h SubC.h | exact h.sub (by subT_) (by subT_)
  ·
   rintro ⟨e, hi0⟩; try dsimp only
   have hi0 : e = sgK hp ht := hi0
   refine wpc_seq ?_
   refine wpc_seq ?_
   refine wpc_region ?_
   refine wpl_q (q_pure rfl) rfl ?_
   refine wpl_q (q_pure rfl) rfl ?_
   refine wpl_nil ?_
   refine ex_then ?_
   refine wpc_cond rfl (fun hc27 => ?_) (fun hc27 => ?_)
   ·
    have hke : e ≠ 0 := by simpa using hc27
    have hV : sgE hp ht idx = e := by rw [hi0]; exact sgK_no (hi0 ▸ hke)
    have hE0 : sgE hp ht idx ≠ 0 := by rw [hV]; exact hke
    refine wpc_seq ?_
    refine wpc_region ?_
    refine wpl_q (q_build (cs := Pth.z.c) rfl built_pz) rfl ?_
    refine wpl_q (q_pure rfl) rfl ?_
    refine wpl_t0 (t_stA Tryd.ti29 rfl rfl LenC.h OneC.h LenC.h) (fun _ => ?_)
    refine wpl_q (q_pure rfl) rfl ?_
    refine wpl_nil ?_
    refine ex_then ?_
    refine wpc_ret ?_
    refine ex_then_ret ?_
    refine retv2 (.inl rfl) rfl (rv_agg Tryd.underlying29 rfl Tryd.ti29 rfl (fun w h => h.atB) (by lens_)) (rv_tmp rfl) ?_
    exact fun w1 h => ⟨(.slice none 0 0, []), ⟨by rw [sgP_no hE0]; exact SV.nil, by rw [sgP_no hE0]; exact ⟨rfl, fun i hi => by cases hi⟩⟩, by rw [sgP_no hE0, hV]; rfl, h.below, sg_err h hE0⟩
   ·
    have hke : e = 0 := by simpa using hc27
    have hES : sgE hp ht idx = sigE ht idx := sgK_ok (hi0 ▸ hke)
    refine wpc_skip ?_
    refine ex_then ?_
    refine wpc_seq ?_
    refine wpc_region ?_
    refine wpl_q (q_ldN Tryd.underlying29 rfl Tryd.ti29 rfl LenC.h) rfl ?_
    refine wpl_tp (t_callPF Tryd.hb12 rfl fun w h => refTwin42 ⟨pf, pa, pb, pl, hv, hs⟩ w (hpp.old h) hlim hn35) rfl (fun b31 p31 => ?_)
    haveI : OneC (tw2 ⟨pf, pa, pb, pl, hv, hs⟩ b31).c := Pth.sv.one (p := tw2 ⟨pf, pa, pb, pl, hv, hs⟩ b31) (by show SV b31.1 b31.2.length; rw [← p31.2.1]; exact p31.1)
    have svt : SV b31.1 hs.length := p31.1
    have hql : b31.2.length = hs.length := p31.2.1.symm
    have hqe : ∀ j, j < hs.length → Hop.eqv (hs.getD j Hop.z) (b31.2.getD j Hop.z) := p31.2.2
    refine wpl_t (t_alloc Tryd.ti29 Pth.z.c rfl) rfl (fun b14 => ?_)
    refine wpl_t0 (t_stA Tryd.ti29 rfl rfl LenC.h OneC.h LenC.h) (fun _ => ?_)
    refine wpl_nil ?_
    refine ex_then ?_
    refine wpc_seq ?_
    refine wpc_region ?_
    refine wpl_q (q_field Tryd.underlying29 rfl Tryd.ti27 rfl rfl _ rfl) rfl ?_
    refine wpl_q (q_ld Tryd.underlying27 rfl rfl rfl) rfl ?_
    refine wpl_q (q_field Tryd.underlying68 rfl Tryd.ti49 rfl rfl _ rfl) rfl ?_
    refine wpl_q (q_ld Tryd.underlying49 rfl rfl hp.c_sy) rfl ?_
    refine wpl_q (q_field Tryd.underlying68 rfl Tryd.ti5 rfl rfl _ rfl) rfl ?_
    refine wpl_q (q_ld Tryd.underlying5 rfl rfl hp.c_cnt) rfl ?_
    refine wpl_q (q_field Tryd.underlying68 rfl Tryd.ti5 rfl rfl _ rfl) rfl ?_
    refine wpl_q (q_ld Tryd.underlying5 rfl rfl hp.c_fl) rfl ?_
    refine wpl_q (q_field Tryd.underlying68 rfl Tryd.ti49 rfl rfl _ rfl) rfl ?_
    refine wpl_q (q_ld Tryd.underlying49 rfl rfl hp.c_to) rfl ?_
    refine wpl_q (q_ldN Tryd.underlying63 rfl Tryd.ti63 rfl LenC.h) rfl ?_
    refine wpl_q (q_build (cs := (newH hp s ht).c) rfl (built_hop hp s ht)) rfl ?_
    refine wpl_tp (t_bsG [.agg (newH hp s ht).c.toArray] (newH hp s ht).c Tryd.underlying27 Tryd.ti68 rfl (by decide) rfl (by decide) (by decide) rfl (by intro v hv; rw [List.mem_singleton] at hv; subst hv; exact Hop.c_length _) (List.append_nil _)) rfl (fun b44 p44 => ?_)
    refine wpl_tp (t_apW Tryd.underlying27 Tryd.ti68 rfl (by decide) rfl rfl (fun w h => by seen_) OneC.h (by lin_) (by lin_) (hcs (b31.2 ++ [(newH hp s ht)])) (hcs_snoc _ _)) rfl (fun b45 p45 => ?_)
    refine wpl_q (q_field Tryd.underlying29 rfl Tryd.ti27 rfl rfl _ rfl) rfl ?_
    refine wpl_t0 (t_st1 Tryd.ti27 rfl rfl (SV.one (by svv_)) (show 4 < 5 by decide) [.int .u8 (pf.toNat : Int), .int .u64 (pa.toNat : Int), .int .u64 (pb.toNat : Int), .int .i64 pl, b45] rfl) (fun _ => ?_)
    refine wpl_nil ?_
    refine ex_then ?_
    refine wpc_seq ?_
    refine wpc_region ?_
    refine wpl_q (q_field Tryd.underlying29 rfl Tryd.ti27 rfl rfl _ rfl) rfl ?_
    refine wpl_q (q_ld Tryd.underlying27 rfl rfl rfl) rfl ?_
    refine wpl_q (q_lenW Tryd.underlying27 rfl (by svv_)) rfl ?_
    refine wpl_q (q_subN (b := 1) rfl rfl (by omega) (by lin_)) rfl ?_
    refine wpl_q (q_pure rfl) rfl ?_
    refine wpl_nil ?_
    refine ex_then ?_
    refine wpc_seq ?_
    have hqo := newO_eqv (p := ⟨pf, pa, pb, pl, hv, hs⟩) (h := hp) (s := s) (ht := ht) (v := b45) hql hqe
    have hme : msgB (Pth.mk pf pa pb pl b45 (b31.2 ++ [(newH hp s ht)])) hs.length = (sgM ⟨pf, pa, pb, pl, hv, hs⟩ hp s ht) := (msgB_eqv hqo (show hs.length < (hs ++ [(newH hp s ht)]).length by rw [List.length_append]; exact Nat.lt_succ_self _)).symm
    have hsm : SmP (Pth.mk pf pa pb pl b45 (b31.2 ++ [(newH hp s ht)])) := so_small hql hqe hlim
    have hjn : hs.length < (b31.2 ++ [(newH hp s ht)]).length := by rw [List.length_append, hql]; exact Nat.lt_succ_self _
    have hml : (sgM ⟨pf, pa, pb, pl, hv, hs⟩ hp s ht).length ≤ 59 := msgB_len _ _
    refine wpc_draw 11 (by kernel_rfl) (fun _ h => h.drew) ?_
    refine wpd_q 0 rfl (by kernel_rfl) trivial (q_ldN Tryd.underlying61 rfl Tryd.ti61 rfl LenC.h) rfl (fun _ h => h) ?_
    refine wpd_p 1 rfl (by kernel_rfl) trivial (q_pure rfl) rfl sk0 ?_
    refine wpd_p 2 rfl (by kernel_rfl) trivial (q_pure rfl) rfl sk0 ?_
    refine wpd_q 3 rfl (by kernel_rfl) trivial (q_ldN Tryd.underlying29 rfl Tryd.ti29 rfl LenC.h) rfl (fun _ h => h) ?_
    refine wpd_p 4 rfl (by kernel_rfl) trivial (q_pure rfl) rfl sk0 ?_
    refine wpd_two 5 10 (by kernel_rfl) ?_ ?_
    ·
     refine wpa_tp 5 rfl trivial (t_callP1 Tryd.hb39 rfl fun w h => by
       have q := refMessage (Pth.mk pf pa pb pl b45 (b31.2 ++ [(newH hp s ht)])) hsm hs.length w (so_seen hql (h.seen_row (by mem_)) (hopsF_at h (by mem_))) hjn
       rw [hme] at q
       exact q) rfl (fun _ => (fun w h => .inr (h.sub SubC.h SubC.h))) (fun b57 p57 => ?_)
     refine wpd_two 6 10 (by kernel_rfl) ?_ ?_
     ·
      refine wpa_tp 6 rfl trivial (t_callP2 Tryd.hb82 rfl fun w h => refSign7 s.1 ht idx b57 (sgM ⟨pf, pa, pb, pl, hv, hs⟩ hp s ht) w s.2 (h.seen_row (by mem_)) (by omega)) rfl (fun _ => (fun w h => .inr (h.sub SubC.h SubC.h))) (fun b58 p58 => ?_)
      refine wpd_p 7 rfl (by kernel_rfl) trivial (q_pure rfl) rfl (fun w h => .inr (h.sub SubC.h SubC.h)) ?_
      refine wpd_p 8 rfl (by kernel_rfl) trivial (q_pure rfl) rfl (fun w h => .inr (h.sub SubC.h SubC.h)) ?_
      refine wpd_p 9 rfl (by kernel_rfl) trivial (q_pure rfl) rfl (fun w h => .inr (h.sub SubC.h SubC.h)) ?_
      refine wpd_t 10 rfl (by kernel_rfl) trivial (t_alloc Tryd.ti66 [.int .i64 0, .slice none 0 0, .slice none 0 0] rfl) rfl (fun _ => (fun w h => .inr (h.sub SubC.h SubC.h))) (fun b16 => ?_)
      refine wpd_t0 11 rfl (by kernel_rfl) trivial (t_stA Tryd.ti66 rfl rfl rfl (OneC.cons rfl (OneC.cons (SV.one p58.1) (OneC.cons (SV.one p58.2) oneC_nil))).h rfl) (fun _ => skk rfl) (fun _ => ?_)
      refine wpd_p 12 rfl (by kernel_rfl) trivial (q_pure rfl) rfl (skk rfl) ?_
      refine wpd_done (by kernel_rfl) ?_
      refine ex_then ?_
      refine wpc_seq ?_
      refine wpc_seq ?_
      refine wpc_region ?_
      refine wpl_q (q_pure rfl) rfl ?_
      refine wpl_q (q_pure rfl) rfl ?_
      refine wpl_nil ?_
      refine ex_then ?_
      refine wpc_cond rfl (fun hc62 => ?_) (fun hc62 => ?_)
      ·
       have hse : sigE ht idx ≠ 0 := by simpa using hc62
       have hV := hES
       have hE0 : sgE hp ht idx ≠ 0 := by rw [hV]; exact hse
       refine wpc_seq ?_
       refine wpc_region ?_
       refine wpl_q (q_build (cs := Pth.z.c) rfl built_pz) rfl ?_
       refine wpl_q (q_pure rfl) rfl ?_
       refine wpl_t0 (t_stA Tryd.ti29 rfl rfl LenC.h OneC.h LenC.h) (fun _ => ?_)
       refine wpl_q (q_pure rfl) rfl ?_
       refine wpl_nil ?_
       refine ex_then ?_
       refine wpc_ret ?_
       refine ex_then_ret ?_
       refine retv2 (.inl rfl) rfl (rv_agg Tryd.underlying29 rfl Tryd.ti29 rfl (fun w h => h.atB) (by lens_)) (rv_tmp rfl) ?_
       exact fun w1 h => ⟨(.slice none 0 0, []), ⟨by rw [sgP_no hE0]; exact SV.nil, by rw [sgP_no hE0]; exact ⟨rfl, fun i hi => by cases hi⟩⟩, by rw [sgP_no hE0, hV]; rfl, h.below, sg_err h hE0⟩
      ·
       have hse : sigE ht idx = 0 := by simpa using hc62
       have hE0 : sgE hp ht idx = 0 := hES.trans hse
       refine wpc_skip ?_
       refine ex_then ?_
       refine wpc_seq ?_
       refine wpc_region ?_
       refine wpl_q (q_field Tryd.underlying29 rfl Tryd.ti27 rfl rfl _ rfl) rfl ?_
       refine wpl_q (q_ld Tryd.underlying27 rfl rfl rfl) rfl ?_
       refine wpl_q (q_pure rfl) rfl ?_
       refine wpl_q (q_ldN Tryd.underlying66 rfl Tryd.ti66 rfl LenC.h) rfl ?_
       refine wpl_q (q_idxW Tryd.underlying27 Tryd.ti68 rfl rfl (by svv_) (by lin_)) rfl ?_
       refine wpl_q (q_fieldPo 21 Tryd.underlying68 rfl Tryd.ti66 rfl rfl rfl) rfl ?_
       refine wpl_t0 (t_stWFN (j := hs.length * 24) (k := 21) (vs := [.int .i64 (sigI ht idx), b58.1, b58.2]) Tryd.ti66 rfl rfl rfl rfl (OneC.cons rfl (OneC.cons (SV.one p58.1) (OneC.cons (SV.one p58.2) oneC_nil))).h (by rw [hcs, cat_len Hop.c_length, List.length_append, hql]; show hs.length * 24 + 21 + 3 ≤ (hs.length + 1) * 24; omega) (by rw [hcs, cat_len Hop.c_length, List.length_append]; simp) (hcs (b31.2 ++ [(newS ⟨pf, pa, pb, pl, hv, hs⟩ hp s ht idx b58)])) (hcs_setsig hql _ _ _ _ _)) (fun _ => ?_)
       refine wpl_nil ?_
       refine ex_then ?_
       refine wpc_seq ?_
       haveI : OneC [.int .u8 (pf.toNat : Int), .int .u64 (pa.toNat : Int), .int .u64 (pb.toNat : Int), .int .i64 pl, b45] := Pth.sv.one (p := ⟨pf, pa, pb, pl, b45, b31.2 ++ [(newH hp s ht)]⟩) (by show SV b45 (b31.2 ++ [(newH hp s ht)]).length; rw [List.length_append, hql]; exact p45)
       refine wpc_region ?_
       refine wpl_q (q_ldN Tryd.underlying29 rfl Tryd.ti29 rfl LenC.h) rfl ?_
       refine wpl_t0 (t_stA Tryd.ti29 rfl rfl LenC.h OneC.h LenC.h) (fun _ => ?_)
       refine wpl_q (q_pure rfl) rfl ?_
       refine wpl_nil ?_
       refine ex_then ?_
       refine wpc_ret ?_
       refine retv2 (.inl rfl) rfl (rv_agg Tryd.underlying29 rfl Tryd.ti29 rfl (fun w h => h.atB) (by lens_)) (rv_tmp rfl) ?_
       exact fun w1 h => ⟨(b45, b31.2 ++ [(newS ⟨pf, pa, pb, pl, hv, hs⟩ hp s ht idx b58)]), ⟨by rw [sgP_ok hE0]; show SV b45 (hs ++ [_]).length; rw [List.length_append]; exact p45, by rw [sgP_ok hE0]; exact newS_eqv (p := ⟨pf, pa, pb, pl, hv, hs⟩) hql hqe⟩, by rw [sgP_ok hE0, hE0]; rfl, h.below, sg_made (M := []) (v := b45) (n := hs.length) (p := ⟨pf, pa, pb, pl, hv, hs⟩) rfl hE0 h.sel⟩
     ·
      refine wpa_t 10 rfl trivial (t_alloc Tryd.ti66 [.int .i64 0, .slice none 0 0, .slice none 0 0] rfl) rfl (fun _ => (fun w h => .inr (h.sub SubC.h SubC.h))) (fun b16 => ?_)
      refine wpd_tp 6 rfl (by kernel_rfl) trivial (t_callP2 Tryd.hb82 rfl fun w h => refSign7 s.1 ht idx b57 (sgM ⟨pf, pa, pb, pl, hv, hs⟩ hp s ht) w s.2 (h.seen_row (by mem_)) (by omega)) rfl (fun _ => (fun w h => .inr (h.sub SubC.h SubC.h))) (fun b58 p58 => ?_)
      refine wpd_p 7 rfl (by kernel_rfl) trivial (q_pure rfl) rfl (fun w h => .inr (h.sub SubC.h SubC.h)) ?_
      refine wpd_p 8 rfl (by kernel_rfl) trivial (q_pure rfl) rfl (fun w h => .inr (h.sub SubC.h SubC.h)) ?_
      refine wpd_p 9 rfl (by kernel_rfl) trivial (q_pure rfl) rfl (fun w h => .inr (h.sub SubC.h SubC.h)) ?_
      refine wpd_t0 11 rfl (by kernel_rfl) trivial (t_stA Tryd.ti66 rfl rfl rfl (OneC.cons rfl (OneC.cons (SV.one p58.1) (OneC.cons (SV.one p58.2) oneC_nil))).h rfl) (fun _ => skk rfl) (fun _ => ?_)
      refine wpd_p 12 rfl (by kernel_rfl) trivial (q_pure rfl) rfl (skk rfl) ?_
      refine wpd_done (by kernel_rfl) ?_
      refine ex_then ?_
      refine wpc_seq ?_
      refine wpc_seq ?_
      refine wpc_region ?_
      refine wpl_q (q_pure rfl) rfl ?_
      refine wpl_q (q_pure rfl) rfl ?_
      refine wpl_nil ?_
      refine ex_then ?_
      refine wpc_cond rfl (fun hc62 => ?_) (fun hc62 => ?_)
      ·
       have hse : sigE ht idx ≠ 0 := by simpa using hc62
       have hV := hES
       have hE0 : sgE hp ht idx ≠ 0 := by rw [hV]; exact hse
       refine wpc_seq ?_
       refine wpc_region ?_
       refine wpl_q (q_build (cs := Pth.z.c) rfl built_pz) rfl ?_
       refine wpl_q (q_pure rfl) rfl ?_
       refine wpl_t0 (t_stA Tryd.ti29 rfl rfl LenC.h OneC.h LenC.h) (fun _ => ?_)
       refine wpl_q (q_pure rfl) rfl ?_
       refine wpl_nil ?_
       refine ex_then ?_
       refine wpc_ret ?_
       refine ex_then_ret ?_
       refine retv2 (.inl rfl) rfl (rv_agg Tryd.underlying29 rfl Tryd.ti29 rfl (fun w h => h.atB) (by lens_)) (rv_tmp rfl) ?_
       exact fun w1 h => ⟨(.slice none 0 0, []), ⟨by rw [sgP_no hE0]; exact SV.nil, by rw [sgP_no hE0]; exact ⟨rfl, fun i hi => by cases hi⟩⟩, by rw [sgP_no hE0, hV]; rfl, h.below, sg_err h hE0⟩
      ·
       have hse : sigE ht idx = 0 := by simpa using hc62
       have hE0 : sgE hp ht idx = 0 := hES.trans hse
       refine wpc_skip ?_
       refine ex_then ?_
       refine wpc_seq ?_
       refine wpc_region ?_
       refine wpl_q (q_field Tryd.underlying29 rfl Tryd.ti27 rfl rfl _ rfl) rfl ?_
       refine wpl_q (q_ld Tryd.underlying27 rfl rfl rfl) rfl ?_
       refine wpl_q (q_pure rfl) rfl ?_
       refine wpl_q (q_ldN Tryd.underlying66 rfl Tryd.ti66 rfl LenC.h) rfl ?_
       refine wpl_q (q_idxW Tryd.underlying27 Tryd.ti68 rfl rfl (by svv_) (by lin_)) rfl ?_
       refine wpl_q (q_fieldPo 21 Tryd.underlying68 rfl Tryd.ti66 rfl rfl rfl) rfl ?_
       refine wpl_t0 (t_stWFN (j := hs.length * 24) (k := 21) (vs := [.int .i64 (sigI ht idx), b58.1, b58.2]) Tryd.ti66 rfl rfl rfl rfl (OneC.cons rfl (OneC.cons (SV.one p58.1) (OneC.cons (SV.one p58.2) oneC_nil))).h (by rw [hcs, cat_len Hop.c_length, List.length_append, hql]; show hs.length * 24 + 21 + 3 ≤ (hs.length + 1) * 24; omega) (by rw [hcs, cat_len Hop.c_length, List.length_append]; simp) (hcs (b31.2 ++ [(newS ⟨pf, pa, pb, pl, hv, hs⟩ hp s ht idx b58)])) (hcs_setsig hql _ _ _ _ _)) (fun _ => ?_)
       refine wpl_nil ?_
       refine ex_then ?_
       refine wpc_seq ?_
       haveI : OneC [.int .u8 (pf.toNat : Int), .int .u64 (pa.toNat : Int), .int .u64 (pb.toNat : Int), .int .i64 pl, b45] := Pth.sv.one (p := ⟨pf, pa, pb, pl, b45, b31.2 ++ [(newH hp s ht)]⟩) (by show SV b45 (b31.2 ++ [(newH hp s ht)]).length; rw [List.length_append, hql]; exact p45)
       refine wpc_region ?_
       refine wpl_q (q_ldN Tryd.underlying29 rfl Tryd.ti29 rfl LenC.h) rfl ?_
       refine wpl_t0 (t_stA Tryd.ti29 rfl rfl LenC.h OneC.h LenC.h) (fun _ => ?_)
       refine wpl_q (q_pure rfl) rfl ?_
       refine wpl_nil ?_
       refine ex_then ?_
       refine wpc_ret ?_
       refine retv2 (.inl rfl) rfl (rv_agg Tryd.underlying29 rfl Tryd.ti29 rfl (fun w h => h.atB) (by lens_)) (rv_tmp rfl) ?_
       exact fun w1 h => ⟨(b45, b31.2 ++ [(newS ⟨pf, pa, pb, pl, hv, hs⟩ hp s ht idx b58)]), ⟨by rw [sgP_ok hE0]; show SV b45 (hs ++ [_]).length; rw [List.length_append]; exact p45, by rw [sgP_ok hE0]; exact newS_eqv (p := ⟨pf, pa, pb, pl, hv, hs⟩) hql hqe⟩, by rw [sgP_ok hE0, hE0]; rfl, h.below, sg_made (M := []) (v := b45) (n := hs.length) (p := ⟨pf, pa, pb, pl, hv, hs⟩) rfl hE0 h.sel⟩
    ·
     refine wpa_t 10 rfl trivial (t_alloc Tryd.ti66 [.int .i64 0, .slice none 0 0, .slice none 0 0] rfl) rfl (fun _ => (fun w h => .inr (h.sub SubC.h SubC.h))) (fun b16 => ?_)
     refine wpd_tp 5 rfl (by kernel_rfl) trivial (t_callP1 Tryd.hb39 rfl fun w h => by
       have q := refMessage (Pth.mk pf pa pb pl b45 (b31.2 ++ [(newH hp s ht)])) hsm hs.length w (so_seen hql (h.seen_row (by mem_)) (hopsF_at h (by mem_))) hjn
       rw [hme] at q
       exact q) rfl (fun _ => (fun w h => .inr (h.sub SubC.h SubC.h))) (fun b57 p57 => ?_)
     refine wpd_tp 6 rfl (by kernel_rfl) trivial (t_callP2 Tryd.hb82 rfl fun w h => refSign7 s.1 ht idx b57 (sgM ⟨pf, pa, pb, pl, hv, hs⟩ hp s ht) w s.2 (h.seen_row (by mem_)) (by omega)) rfl (fun _ => (fun w h => .inr (h.sub SubC.h SubC.h))) (fun b58 p58 => ?_)
     refine wpd_p 7 rfl (by kernel_rfl) trivial (q_pure rfl) rfl (fun w h => .inr (h.sub SubC.h SubC.h)) ?_
     refine wpd_p 8 rfl (by kernel_rfl) trivial (q_pure rfl) rfl (fun w h => .inr (h.sub SubC.h SubC.h)) ?_
     refine wpd_p 9 rfl (by kernel_rfl) trivial (q_pure rfl) rfl (fun w h => .inr (h.sub SubC.h SubC.h)) ?_
     refine wpd_t0 11 rfl (by kernel_rfl) trivial (t_stA Tryd.ti66 rfl rfl rfl (OneC.cons rfl (OneC.cons (SV.one p58.1) (OneC.cons (SV.one p58.2) oneC_nil))).h rfl) (fun _ => skk rfl) (fun _ => ?_)
     refine wpd_p 12 rfl (by kernel_rfl) trivial (q_pure rfl) rfl (skk rfl) ?_
     refine wpd_done (by kernel_rfl) ?_
     refine ex_then ?_
     refine wpc_seq ?_
     refine wpc_seq ?_
     refine wpc_region ?_
     refine wpl_q (q_pure rfl) rfl ?_
     refine wpl_q (q_pure rfl) rfl ?_
     refine wpl_nil ?_
     refine ex_then ?_
     refine wpc_cond rfl (fun hc62 => ?_) (fun hc62 => ?_)
     ·
      have hse : sigE ht idx ≠ 0 := by simpa using hc62
      have hV := hES
      have hE0 : sgE hp ht idx ≠ 0 := by rw [hV]; exact hse
      refine wpc_seq ?_
      refine wpc_region ?_
      refine wpl_q (q_build (cs := Pth.z.c) rfl built_pz) rfl ?_
      refine wpl_q (q_pure rfl) rfl ?_
      refine wpl_t0 (t_stA Tryd.ti29 rfl rfl LenC.h OneC.h LenC.h) (fun _ => ?_)
      refine wpl_q (q_pure rfl) rfl ?_
      refine wpl_nil ?_
      refine ex_then ?_
      refine wpc_ret ?_
      refine ex_then_ret ?_
      refine retv2 (.inl rfl) rfl (rv_agg Tryd.underlying29 rfl Tryd.ti29 rfl (fun w h => h.atB) (by lens_)) (rv_tmp rfl) ?_
      exact fun w1 h => ⟨(.slice none 0 0, []), ⟨by rw [sgP_no hE0]; exact SV.nil, by rw [sgP_no hE0]; exact ⟨rfl, fun i hi => by cases hi⟩⟩, by rw [sgP_no hE0, hV]; rfl, h.below, sg_err h hE0⟩
     ·
      have hse : sigE ht idx = 0 := by simpa using hc62
      have hE0 : sgE hp ht idx = 0 := hES.trans hse
      refine wpc_skip ?_
      refine ex_then ?_
      refine wpc_seq ?_
      refine wpc_region ?_
      refine wpl_q (q_field Tryd.underlying29 rfl Tryd.ti27 rfl rfl _ rfl) rfl ?_
      refine wpl_q (q_ld Tryd.underlying27 rfl rfl rfl) rfl ?_
      refine wpl_q (q_pure rfl) rfl ?_
      refine wpl_q (q_ldN Tryd.underlying66 rfl Tryd.ti66 rfl LenC.h) rfl ?_
      refine wpl_q (q_idxW Tryd.underlying27 Tryd.ti68 rfl rfl (by svv_) (by lin_)) rfl ?_
      refine wpl_q (q_fieldPo 21 Tryd.underlying68 rfl Tryd.ti66 rfl rfl rfl) rfl ?_
      refine wpl_t0 (t_stWFN (j := hs.length * 24) (k := 21) (vs := [.int .i64 (sigI ht idx), b58.1, b58.2]) Tryd.ti66 rfl rfl rfl rfl (OneC.cons rfl (OneC.cons (SV.one p58.1) (OneC.cons (SV.one p58.2) oneC_nil))).h (by rw [hcs, cat_len Hop.c_length, List.length_append, hql]; show hs.length * 24 + 21 + 3 ≤ (hs.length + 1) * 24; omega) (by rw [hcs, cat_len Hop.c_length, List.length_append]; simp) (hcs (b31.2 ++ [(newS ⟨pf, pa, pb, pl, hv, hs⟩ hp s ht idx b58)])) (hcs_setsig hql _ _ _ _ _)) (fun _ => ?_)
      refine wpl_nil ?_
      refine ex_then ?_
      refine wpc_seq ?_
      haveI : OneC [.int .u8 (pf.toNat : Int), .int .u64 (pa.toNat : Int), .int .u64 (pb.toNat : Int), .int .i64 pl, b45] := Pth.sv.one (p := ⟨pf, pa, pb, pl, b45, b31.2 ++ [(newH hp s ht)]⟩) (by show SV b45 (b31.2 ++ [(newH hp s ht)]).length; rw [List.length_append, hql]; exact p45)
      refine wpc_region ?_
      refine wpl_q (q_ldN Tryd.underlying29 rfl Tryd.ti29 rfl LenC.h) rfl ?_
      refine wpl_t0 (t_stA Tryd.ti29 rfl rfl LenC.h OneC.h LenC.h) (fun _ => ?_)
      refine wpl_q (q_pure rfl) rfl ?_
      refine wpl_nil ?_
      refine ex_then ?_
      refine wpc_ret ?_
      refine retv2 (.inl rfl) rfl (rv_agg Tryd.underlying29 rfl Tryd.ti29 rfl (fun w h => h.atB) (by lens_)) (rv_tmp rfl) ?_
      exact fun w1 h => ⟨(b45, b31.2 ++ [(newS ⟨pf, pa, pb, pl, hv, hs⟩ hp s ht idx b58)]), ⟨by rw [sgP_ok hE0]; show SV b45 (hs ++ [_]).length; rw [List.length_append]; exact p45, by rw [sgP_ok hE0]; exact newS_eqv (p := ⟨pf, pa, pb, pl, hv, hs⟩) hql hqe⟩, by rw [sgP_ok hE0, hE0]; rfl, h.below, sg_made (M := []) (v := b45) (n := hs.length) (p := ⟨pf, pa, pb, pl, hv, hs⟩) rfl hE0 h.sel⟩

end Go.Proofs.YtjpfhkjmjnjggaaDoor

namespace Go.Proofs.YtjpfhkjmjnjggaaDoor
set_option linter.unusedSimpArgs false
set_option linter.unusedVariables false
open Go Go.PL Go.RowKit

instance lenC_pfL {f : UInt8} {a b : UInt64} {l : Int} : LenC (pfL f a b l) 4 := ⟨rfl⟩
theorem Hop.eqv.sm {a b : Hop} (h : a.eqv b) : b.eqv a := ⟨h.1.symm, h.2.1.symm, h.2.2.1.symm, h.2.2.2.1.symm, ⟨h.2.2.2.2.1.1.symm, h.2.2.2.2.1.2.symm⟩, h.2.2.2.2.2.1.symm, h.2.2.2.2.2.2.1.symm, h.2.2.2.2.2.2.2.symm⟩
theorem Hop.eqv.tr {a b c : Hop} (h : a.eqv b) (k : b.eqv c) : a.eqv c := ⟨h.1.trans k.1, h.2.1.trans k.2.1, h.2.2.1.trans k.2.2.1, h.2.2.2.1.trans k.2.2.2.1, ⟨h.2.2.2.2.1.1.trans k.2.2.2.2.1.1, h.2.2.2.2.1.2.trans k.2.2.2.2.1.2⟩, h.2.2.2.2.2.1.trans k.2.2.2.2.2.1, h.2.2.2.2.2.2.1.trans k.2.2.2.2.2.2.1, h.2.2.2.2.2.2.2.trans k.2.2.2.2.2.2.2⟩
theorem HsEqv.meet {l a b : List Hop} (h : HsEqv l a) (k : HsEqv l b) : HsEqv a b := ⟨h.1.symm.trans k.1, fun i hi => (h.2 i (by rw [h.1]; exact hi)).sm.tr (k.2 i (by rw [h.1]; exact hi))⟩
theorem reP_eqv {q : Pth} {x y : Value × List Hop} (h : HsEqv q.hs x.2) (k : HsEqv q.hs y.2) : (reP q x).eqv (reP q y) := ⟨⟨rfl, rfl, rfl, rfl⟩, h.meet k⟩
theorem reP_seen {q : Pth} {x : Value × List Hop} {r : Rd} (h : HsEqv q.hs x.2) (h1 : Seen r x.1 q.hs.length 24 (hcs x.2)) (h2 : ∀ y ∈ x.2, y.seen r) : (reP q x).seen r := ⟨by
  show Seen r x.1 x.2.length 24 (hcs x.2)
  rw [← h.1]; exact h1, h2⟩
theorem reP_one {q : Pth} {x : Value × List Hop} (h : SV x.1 q.hs.length) : OneC (reP q x).c := OneC.cons rfl (OneC.cons rfl (OneC.cons rfl (OneC.cons rfl (OneC.cons (SV.one h) oneC_nil))))
theorem er_made {w0 w : World} {M : List Ent} {S : List Fact} (hm : Mem w0 [] M S w) : New w0.heap.size [.row (.slice none 0 0) Pth.z.hs.length 68 24 (hcs [])] [hopsF []] w := by
  have h1 : Mem w0 [] (.row (.slice none 0 0) 0 68 24 [] :: M) [hopsF []] w := Mem.imp (hm.nilRow 68 24) (fun r _ t ht => by rw [List.mem_singleton] at ht; subst ht; exact fun q hq => by cases hq)
  exact h1.made (.keep .nil) (Sub.refl _)
abbrev P0 (f : UInt8) (a b : UInt64) (l : Int) : Pth := ⟨f, a, b, l, .slice none 0 0, []⟩
theorem p0_seen {f : UInt8} {a b : UInt64} {l : Int} (r : Rd) : (P0 f a b l).seen r := ⟨seen_nil _ _, fun h hh => by cases hh⟩
def stE (f : UInt8) (a b : UInt64) (l : Int) (h : Hop) (ht idx : Int) : Int := if pfxF f a b l ≠ 0 then pfxF f a b l else sgE h ht idx
def stP (f : UInt8) (a b : UInt64) (l : Int) (h : Hop) (s : S16) (ht idx : Int) : Pth := if pfxF f a b l ≠ 0 then Pth.z else sgP (P0 f a b l) h s ht idx
theorem stE_no {f : UInt8} {a b : UInt64} {l : Int} {h : Hop} {ht idx : Int} (k : pfxF f a b l ≠ 0) : stE f a b l h ht idx = pfxF f a b l := if_pos k
theorem stE_ok {f : UInt8} {a b : UInt64} {l : Int} {h : Hop} {ht idx : Int} (k : ¬ pfxF f a b l ≠ 0) : stE f a b l h ht idx = sgE h ht idx := if_neg k
theorem stP_no {f : UInt8} {a b : UInt64} {l : Int} {h : Hop} {s : S16} {ht idx : Int} (k : pfxF f a b l ≠ 0) : stP f a b l h s ht idx = Pth.z := if_pos k
theorem stP_ok {f : UInt8} {a b : UInt64} {l : Int} {h : Hop} {s : S16} {ht idx : Int} (k : ¬ pfxF f a b l ≠ 0) : stP f a b l h s ht idx = sgP (P0 f a b l) h s ht idx := if_neg k
def Hop.wa (h : Hop) (x : UInt32) : Hop := { h with sy := x }
def lastTo (p : Pth) : UInt32 := (p.hs.getD (p.hs.length - 1) Hop.z).to
def exK (p : Pth) : Int := if chkP p ≠ 0 then chkP p else if p.hs.length = 30 then 4 else 0
def exE (p : Pth) (h : Hop) (ht idx : Int) : Int := if exK p ≠ 0 then exK p else sgE (h.wa (lastTo p)) ht idx
def exP (p : Pth) (h : Hop) (s : S16) (ht idx : Int) : Pth := if exK p ≠ 0 then Pth.z else sgP p (h.wa (lastTo p)) s ht idx
theorem exE_no {p : Pth} {h : Hop} {ht idx : Int} (k : exK p ≠ 0) : exE p h ht idx = exK p := if_pos k
theorem exE_ok {p : Pth} {h : Hop} {ht idx : Int} (k : exK p = 0) : exE p h ht idx = sgE (h.wa (lastTo p)) ht idx := if_neg (by simp [k])
theorem exP_no {p : Pth} {h : Hop} {s : S16} {ht idx : Int} (k : exK p ≠ 0) : exP p h s ht idx = Pth.z := if_pos k
theorem exP_ok {p : Pth} {h : Hop} {s : S16} {ht idx : Int} (k : exK p = 0) : exP p h s ht idx = sgP p (h.wa (lastTo p)) s ht idx := if_neg (by simp [k])
theorem exK_chk {p : Pth} (h : chkP p ≠ 0) : exK p = chkP p := if_pos h
theorem exK_many {p : Pth} (h : chkP p = 0) (h2 : p.hs.length = 30) : exK p = 4 := (if_neg (by simp [h])).trans (if_pos h2)
theorem exK_ok {p : Pth} (h : chkP p = 0) (h2 : ¬ p.hs.length = 30) : exK p = 0 := (if_neg (by simp [h])).trans (if_neg h2)
theorem exK_inv {p : Pth} (h : exK p = 0) : chkP p = 0 := by
  unfold exK at h
  split at h
  · rename_i hk; exact absurd h hk
  · rename_i hk; exact Decidable.not_not.1 hk

end Go.Proofs.YtjpfhkjmjnjggaaDoor

namespace Go.Proofs.YtjpfhkjmjnjggaaDoor
set_option linter.unusedSimpArgs false
set_option linter.unusedVariables false
open Go Go.PL Go.RowKit
set_option maxRecDepth 100000 in
theorem start (f : UInt8) (a b : UInt64) (l : Int) (hp : Hop) (s : S16) (ht : Int) (idx : Int) (w : World) (hsvh : hp.sv) (hG : Glb w) :
    Calls Tryd.prog 26 [.agg (pfL f a b l).toArray, .agg hp.c.toArray, .agg (v8s s.1).toArray, .int .i64 ht, .int .i64 idx].toArray w (GivesP w (fun x : Value × List Hop => SV x.1 (stP f a b l hp s ht idx).hs.length ∧ HsEqv (stP f a b l hp s ht idx).hs x.2) (fun x => .tuple #[.agg (reP (stP f a b l hp s ht idx) x).c.toArray, .int .i64 (stE f a b l hp ht idx)]) (fun x => [.row x.1 (stP f a b l hp s ht idx).hs.length 68 24 (hcs x.2)]) (fun x => [hopsF x.2])) := by
  haveI := hsvh.one
  refine enter (m := 32) (R := Mem w [] [] []) Tryd.func26 rfl rfl (Nat.le_of_ble_eq_true rfl) (Mem.start w) ?_
  refine wpc_seq ?_
  refine wpc_region ?_
  refine wpl_t (t_box rfl (pfL f a b l) rfl) rfl (fun b5 => ?_)
  refine wpl_t (t_box rfl hp.c rfl) rfl (fun b6 => ?_)
  refine wpl_t (t_box rfl (v8s s.1) rfl) rfl (fun b7 => ?_)
  refine wpl_t (t_alloc Tryd.ti29 Pth.z.c rfl) rfl (fun b10 => ?_)
  refine wpl_q (q_pure rfl) rfl ?_
  refine wpl_nil ?_
  refine ex_then ?_
  refine wpc_seq ?_
  refine wpc_region ?_
  refine wpl_q (q_ldN Tryd.underlying26 rfl Tryd.ti26 rfl LenC.h) rfl ?_
  refine wpl_t (t_pur Tryd.hb42 rfl fun w h => numCheck f a b l w) rfl (fun b15 => ?_)
  refine wpl_q (q_pure rfl) rfl ?_
  refine wpl_nil ?_
  refine ex_then ?_
  refine wpc_seq ?_
  refine wpc_seq ?_
  refine wpc_region ?_
  refine wpl_q (q_pure rfl) rfl ?_
  refine wpl_q (q_pure rfl) rfl ?_
  refine wpl_nil ?_
  refine ex_then ?_
  refine wpc_cond rfl (fun hc17 => ?_) (fun hc17 => ?_)
  ·
   have hk : pfxF f a b l ≠ 0 := by simpa using hc17
   have hV : stE f a b l hp ht idx = pfxF f a b l := stE_no hk
   refine wpc_seq ?_
   refine wpc_region ?_
   refine wpl_q (q_build (cs := Pth.z.c) rfl built_pz) rfl ?_
   refine wpl_q (q_pure rfl) rfl ?_
   refine wpl_t0 (t_stA Tryd.ti29 rfl rfl LenC.h OneC.h LenC.h) (fun _ => ?_)
   refine wpl_q (q_pure rfl) rfl ?_
   refine wpl_nil ?_
   refine ex_then ?_
   refine wpc_ret ?_
   refine ex_then_ret ?_
   refine retv2 (.inl rfl) rfl (rv_agg Tryd.underlying29 rfl Tryd.ti29 rfl (fun w h => h.atB) (by lens_)) (rv_tmp rfl) ?_
   exact fun w1 h => ⟨(.slice none 0 0, []), ⟨by rw [stP_no hk]; exact SV.nil, by rw [stP_no hk]; exact ⟨rfl, fun i hi => by cases hi⟩⟩, by rw [stP_no hk, hV]; rfl, h.below, by rw [stP_no hk]; exact er_made h⟩
  ·
   have hk : ¬ pfxF f a b l ≠ 0 := by simpa using hc17
   refine wpc_skip ?_
   refine ex_then ?_
   refine wpc_seq ?_
   refine wpc_region ?_
   refine wpl_q (q_ldN Tryd.underlying26 rfl Tryd.ti26 rfl LenC.h) rfl ?_
   refine wpl_q (q_build (cs := (P0 f a b l).c) rfl (built_pre f a b l)) rfl ?_
   refine wpl_q (q_ldN Tryd.underlying68 rfl Tryd.ti68 rfl LenC.h) rfl ?_
   refine wpl_q (q_ldN Tryd.underlying61 rfl Tryd.ti61 rfl LenC.h) rfl ?_
   refine wpl_q (q_pure rfl) rfl ?_
   refine wpl_q (q_pure rfl) rfl ?_
   refine wpl_tp (t_callPF Tryd.hb52 rfl fun w h => signP (P0 f a b l) hp s ht idx w (p0_seen _) hsvh (fun x hx => by cases hx) (glob h hG) (Nat.zero_le _)) rfl (fun b27 p27 => ?_)
   haveI : OneC (reP (sgP (P0 f a b l) hp s ht idx) b27).c := reP_one p27.1
   refine wpl_q (q_pure rfl) rfl ?_
   refine wpl_q (q_pure rfl) rfl ?_
   refine wpl_q (q_pure rfl) rfl ?_
   refine wpl_t (t_alloc Tryd.ti29 Pth.z.c rfl) rfl (fun b13 => ?_)
   refine wpl_t0 (t_stA Tryd.ti29 rfl rfl LenC.h OneC.h LenC.h) (fun _ => ?_)
   refine wpl_q (q_pure rfl) rfl ?_
   refine wpl_nil ?_
   refine ex_then ?_
   refine wpc_seq ?_
   refine wpc_region ?_
   refine wpl_q (q_ldN Tryd.underlying29 rfl Tryd.ti29 rfl LenC.h) rfl ?_
   refine wpl_q (q_pure rfl) rfl ?_
   refine wpl_t0 (t_stA Tryd.ti29 rfl rfl LenC.h OneC.h LenC.h) (fun _ => ?_)
   refine wpl_q (q_pure rfl) rfl ?_
   refine wpl_nil ?_
   refine ex_then ?_
   refine wpc_ret ?_
   refine retv2 (.inl rfl) rfl (rv_agg Tryd.underlying29 rfl Tryd.ti29 rfl (fun w h => h.atB) (by lens_)) (rv_tmp rfl) ?_
   exact fun w1 h => ⟨b27, by rw [stP_ok hk]; exact p27, by rw [stP_ok hk, stE_ok hk]; rfl, h.below, by rw [stP_ok hk]; exact h.made (by subT_) (by subT_)⟩

set_option maxRecDepth 100000 in
theorem refStart (f : UInt8) (a b : UInt64) (l : Int) (hp : Hop) (s : S16) (ht : Int) (idx : Int) (w : World) (hsvh : hp.sv)  :
    Calls Tryd.prog 27 [.agg (pfL f a b l).toArray, .agg hp.c.toArray, .agg (v8s s.1).toArray, .int .i64 ht, .int .i64 idx].toArray w (GivesP w (fun x : Value × List Hop => SV x.1 (stP f a b l hp s ht idx).hs.length ∧ HsEqv (stP f a b l hp s ht idx).hs x.2) (fun x => .tuple #[.agg (reP (stP f a b l hp s ht idx) x).c.toArray, .int .i64 (stE f a b l hp ht idx)]) (fun x => [.row x.1 (stP f a b l hp s ht idx).hs.length 68 24 (hcs x.2)]) (fun x => [hopsF x.2])) := by
  haveI := hsvh.one
  refine enter (m := 28) (R := Mem w [] [] []) Tryd.func27 rfl rfl (Nat.le_of_ble_eq_true rfl) (Mem.start w) ?_
  refine wpc_seq ?_
  refine wpc_region ?_
  refine wpl_t (t_box rfl (pfL f a b l) rfl) rfl (fun b5 => ?_)
  refine wpl_t (t_box rfl hp.c rfl) rfl (fun b6 => ?_)
  refine wpl_t (t_box rfl (v8s s.1) rfl) rfl (fun b7 => ?_)
  refine wpl_t (t_alloc Tryd.ti29 Pth.z.c rfl) rfl (fun b10 => ?_)
  refine wpl_q (q_pure rfl) rfl ?_
  refine wpl_nil ?_
  refine ex_then ?_
  refine wpc_seq ?_
  refine wpc_region ?_
  refine wpl_q (q_ldN Tryd.underlying26 rfl Tryd.ti26 rfl LenC.h) rfl ?_
  refine wpl_t (t_pur Tryd.hb44 rfl fun w h => refCheck1 f a b l w) rfl (fun b14 => ?_)
  refine wpl_q (q_pure rfl) rfl ?_
  refine wpl_nil ?_
  refine ex_then ?_
  refine wpc_seq ?_
  refine wpc_seq ?_
  refine wpc_region ?_
  refine wpl_q (q_pure rfl) rfl ?_
  refine wpl_q (q_pure rfl) rfl ?_
  refine wpl_nil ?_
  refine ex_then ?_
  refine wpc_cond rfl (fun hc16 => ?_) (fun hc16 => ?_)
  ·
   have hk : pfxF f a b l ≠ 0 := by simpa using hc16
   have hV : stE f a b l hp ht idx = pfxF f a b l := stE_no hk
   refine wpc_seq ?_
   refine wpc_region ?_
   refine wpl_q (q_build (cs := Pth.z.c) rfl built_pz) rfl ?_
   refine wpl_q (q_pure rfl) rfl ?_
   refine wpl_t0 (t_stA Tryd.ti29 rfl rfl LenC.h OneC.h LenC.h) (fun _ => ?_)
   refine wpl_q (q_pure rfl) rfl ?_
   refine wpl_nil ?_
   refine ex_then ?_
   refine wpc_ret ?_
   refine ex_then_ret ?_
   refine retv2 (.inl rfl) rfl (rv_agg Tryd.underlying29 rfl Tryd.ti29 rfl (fun w h => h.atB) (by lens_)) (rv_tmp rfl) ?_
   exact fun w1 h => ⟨(.slice none 0 0, []), ⟨by rw [stP_no hk]; exact SV.nil, by rw [stP_no hk]; exact ⟨rfl, fun i hi => by cases hi⟩⟩, by rw [stP_no hk, hV]; rfl, h.below, by rw [stP_no hk]; exact er_made h⟩
  ·
   have hk : ¬ pfxF f a b l ≠ 0 := by simpa using hc16
   refine wpc_skip ?_
   refine ex_then ?_
   refine wpc_seq ?_
   refine wpc_region ?_
   refine wpl_q (q_ldN Tryd.underlying26 rfl Tryd.ti26 rfl LenC.h) rfl ?_
   refine wpl_q (q_build (cs := (P0 f a b l).c) rfl (built_pre f a b l)) rfl ?_
   refine wpl_q (q_ldN Tryd.underlying68 rfl Tryd.ti68 rfl LenC.h) rfl ?_
   refine wpl_q (q_ldN Tryd.underlying61 rfl Tryd.ti61 rfl LenC.h) rfl ?_
   refine wpl_q (q_pure rfl) rfl ?_
   refine wpl_q (q_pure rfl) rfl ?_
   refine wpl_tp (t_callPF Tryd.hb53 rfl fun w h => refSignP (P0 f a b l) hp s ht idx w (p0_seen _) hsvh (fun x hx => by cases hx) (Nat.zero_le _)) rfl (fun b25 p25 => ?_)
   haveI : OneC (reP (sgP (P0 f a b l) hp s ht idx) b25).c := reP_one p25.1
   refine wpl_q (q_pure rfl) rfl ?_
   refine wpl_q (q_pure rfl) rfl ?_
   refine wpl_t0 (t_stA Tryd.ti29 rfl rfl LenC.h OneC.h LenC.h) (fun _ => ?_)
   refine wpl_q (q_pure rfl) rfl ?_
   refine wpl_nil ?_
   refine ex_then ?_
   refine wpc_ret ?_
   refine retv2 (.inl rfl) rfl (rv_agg Tryd.underlying29 rfl Tryd.ti29 rfl (fun w h => h.atB) (by lens_)) (rv_tmp rfl) ?_
   exact fun w1 h => ⟨b25, by rw [stP_ok hk]; exact p25, by rw [stP_ok hk, stE_ok hk]; rfl, h.below, by rw [stP_ok hk]; exact h.made (by subT_) (by subT_)⟩

end Go.Proofs.YtjpfhkjmjnjggaaDoor

namespace Go.Proofs.YtjpfhkjmjnjggaaDoor
set_option linter.unusedSimpArgs false
set_option linter.unusedVariables false
open Go Go.PL Go.RowKit
set_option maxRecDepth 100000 in
theorem extend (p : Pth) (hp : Hop) (s : S16) (ht : Int) (idx : Int) (w : World) (hpp : p.seen w.cell?) (hsvh : hp.sv) (hlim : SmP p) (hG : Glb w) (hn35 : p.hs.length ≤ 35) :
    Calls Tryd.prog 28 [.agg p.c.toArray, .agg hp.c.toArray, .agg (v8s s.1).toArray, .int .i64 ht, .int .i64 idx].toArray w (GivesP w (fun x : Value × List Hop => SV x.1 (exP p hp s ht idx).hs.length ∧ HsEqv (exP p hp s ht idx).hs x.2) (fun x => .tuple #[.agg (reP (exP p hp s ht idx) x).c.toArray, .int .i64 (exE p hp ht idx)]) (fun x => [.row x.1 (exP p hp s ht idx).hs.length 68 24 (hcs x.2)]) (fun x => [hopsF x.2])) := by
  obtain ⟨pf, pa, pb, pl, hv, hs⟩ := p
  have hh : Seen w.cell? hv hs.length 24 (hcs hs) := hpp.1
  have svh := hh.sv
  have lh := svh.le
  simp only [maxLen] at lh
  have hn35 : hs.length ≤ 35 := hn35
  haveI := hsvh.one
  refine enter (m := 46) (R := Mem w [] [] []) Tryd.func28 rfl rfl (Nat.le_of_ble_eq_true rfl) (Mem.start w) ?_
  refine wpc_seq ?_
  refine wpc_region ?_
  refine wpl_t (t_box rfl [.int .u8 (pf.toNat : Int), .int .u64 (pa.toNat : Int), .int .u64 (pb.toNat : Int), .int .i64 pl, hv] rfl) rfl (fun b5 => ?_)
  refine wpl_t (t_box rfl hp.c rfl) rfl (fun b6 => ?_)
  refine wpl_t (t_box rfl (v8s s.1) rfl) rfl (fun b7 => ?_)
  refine wpl_t (t_alloc Tryd.ti29 Pth.z.c rfl) rfl (fun b10 => ?_)
  refine wpl_q (q_pure rfl) rfl ?_
  refine wpl_nil ?_
  refine ex_then ?_
  refine wpc_seq ?_
  refine wpc_region ?_
  refine wpl_q (q_ldN Tryd.underlying29 rfl Tryd.ti29 rfl LenC.h) rfl ?_
  refine wpl_t (t_pur Tryd.hb17 rfl fun w h => hopCheck ⟨pf, pa, pb, pl, hv, hs⟩ w (hpp.old h)) rfl (fun b15 => ?_)
  refine wpl_q (q_pure rfl) rfl ?_
  refine wpl_nil ?_
  refine ex_then ?_
  refine wpc_seq ?_
  refine wpc_seq ?_
  refine wpc_region ?_
  refine wpl_q (q_pure rfl) rfl ?_
  refine wpl_q (q_pure rfl) rfl ?_
  refine wpl_nil ?_
  refine ex_then ?_
  refine wpc_cond rfl (fun hc17 => ?_) (fun hc17 => ?_)
  ·
   have hk0 : chkP ⟨pf, pa, pb, pl, hv, hs⟩ ≠ 0 := by simpa using hc17
   have hK : exK ⟨pf, pa, pb, pl, hv, hs⟩ ≠ 0 := by rw [exK_chk hk0]; exact hk0
   have hV : exE ⟨pf, pa, pb, pl, hv, hs⟩ hp ht idx = chkP ⟨pf, pa, pb, pl, hv, hs⟩ := (exE_no hK).trans (exK_chk hk0)
   refine wpc_seq ?_
   refine wpc_region ?_
   refine wpl_q (q_build (cs := Pth.z.c) rfl built_pz) rfl ?_
   refine wpl_q (q_pure rfl) rfl ?_
   refine wpl_t0 (t_stA Tryd.ti29 rfl rfl LenC.h OneC.h LenC.h) (fun _ => ?_)
   refine wpl_q (q_pure rfl) rfl ?_
   refine wpl_nil ?_
   refine ex_then ?_
   refine wpc_ret ?_
   refine ex_then_ret ?_
   refine retv2 (.inl rfl) rfl (rv_agg Tryd.underlying29 rfl Tryd.ti29 rfl (fun w h => h.atB) (by lens_)) (rv_tmp rfl) ?_
   exact fun w1 h => ⟨(.slice none 0 0, []), ⟨by rw [exP_no hK]; exact SV.nil, by rw [exP_no hK]; exact ⟨rfl, fun i hi => by cases hi⟩⟩, by rw [exP_no hK, hV]; rfl, h.below, by rw [exP_no hK]; exact er_made h⟩
  ·
   have hk0 : chkP ⟨pf, pa, pb, pl, hv, hs⟩ = 0 := by simpa using hc17
   refine wpc_skip ?_
   refine ex_then ?_
   refine wpc_seq ?_
   refine wpc_seq ?_
   refine wpc_region ?_
   refine wpl_q (q_field Tryd.underlying29 rfl Tryd.ti27 rfl rfl _ rfl) rfl ?_
   refine wpl_q (q_ld Tryd.underlying27 rfl rfl rfl) rfl ?_
   refine wpl_q (q_lenW Tryd.underlying27 rfl (by svv_)) rfl ?_
   refine wpl_q (q_pure rfl) rfl ?_
   refine wpl_nil ?_
   refine ex_then ?_
   refine wpc_cond rfl (fun hc23 => ?_) (fun hc23 => ?_)
   ·
    have h30q : ((hs.length : Nat) : Int) = 30 := by simpa using hc23
    have h30 : hs.length = 30 := by omega
    have hK4 : exK ⟨pf, pa, pb, pl, hv, hs⟩ = 4 := exK_many hk0 h30
    have hK : exK ⟨pf, pa, pb, pl, hv, hs⟩ ≠ 0 := by rw [hK4]; decide
    have hV : exE ⟨pf, pa, pb, pl, hv, hs⟩ hp ht idx = 4 := (exE_no hK).trans hK4
    refine wpc_seq ?_
    refine wpc_region ?_
    refine wpl_q (q_build (cs := Pth.z.c) rfl built_pz) rfl ?_
    refine wpl_t0 (t_stA Tryd.ti29 rfl rfl LenC.h OneC.h LenC.h) (fun _ => ?_)
    refine wpl_q (q_pure rfl) rfl ?_
    refine wpl_nil ?_
    refine ex_then ?_
    refine wpc_ret ?_
    refine ex_then_ret ?_
    refine retv2 (.inl rfl) rfl (rv_agg Tryd.underlying29 rfl Tryd.ti29 rfl (fun w h => h.atB) (by lens_)) (rv_tmp rfl) ?_
    exact fun w1 h => ⟨(.slice none 0 0, []), ⟨by rw [exP_no hK]; exact SV.nil, by rw [exP_no hK]; exact ⟨rfl, fun i hi => by cases hi⟩⟩, by rw [exP_no hK, hV]; rfl, h.below, by rw [exP_no hK]; exact er_made h⟩
   ·
    have h30q : ¬ ((hs.length : Nat) : Int) = 30 := by simpa using hc23
    have h30 : ¬ hs.length = 30 := by omega
    have hK : exK ⟨pf, pa, pb, pl, hv, hs⟩ = 0 := exK_ok hk0 h30
    have hn0 : hs.length ≠ 0 := (chk_inv hk0).2.2.1
    refine wpc_skip ?_
    refine ex_then ?_
    refine wpc_seq ?_
    refine wpc_region ?_
    refine wpl_q (q_field Tryd.underlying29 rfl Tryd.ti27 rfl rfl _ rfl) rfl ?_
    refine wpl_q (q_ld Tryd.underlying27 rfl rfl rfl) rfl ?_
    refine wpl_q (q_field Tryd.underlying29 rfl Tryd.ti27 rfl rfl _ rfl) rfl ?_
    refine wpl_q (q_ld Tryd.underlying27 rfl rfl rfl) rfl ?_
    refine wpl_q (q_lenW Tryd.underlying27 rfl (by svv_)) rfl ?_
    refine wpl_q (q_subN (b := 1) rfl rfl (by omega) (by lin_)) rfl ?_
    refine wpl_q (q_idxW Tryd.underlying27 Tryd.ti68 rfl rfl (by svv_) (by lin_)) rfl ?_
    refine wpl_q (q_fieldPo 3 Tryd.underlying68 rfl Tryd.ti49 rfl rfl rfl) rfl ?_
    refine wpl_q (q_ldWF Tryd.underlying49 rfl rfl (fun w h => h.seen_old hh) (cat_get Hop.c_length Hop.z (show hs.length - 1 < hs.length from (by omega)) (Hop.c_to _))) rfl ?_
    refine wpl_q (q_field Tryd.underlying68 rfl Tryd.ti49 rfl rfl _ rfl) rfl ?_
    refine wpl_t0 (t_st1 Tryd.ti49 rfl rfl rfl (by rw [Hop.c_length]; decide) (hp.wa (lastTo ⟨pf, pa, pb, pl, hv, hs⟩)).c rfl) (fun _ => ?_)
    refine wpl_nil ?_
    refine ex_then ?_
    refine wpc_seq ?_
    haveI : OneC (hp.wa (lastTo ⟨pf, pa, pb, pl, hv, hs⟩)).c := Hop.sv.one (h := (hp.wa (lastTo ⟨pf, pa, pb, pl, hv, hs⟩))) hsvh
    refine wpc_region ?_
    refine wpl_q (q_ldN Tryd.underlying29 rfl Tryd.ti29 rfl LenC.h) rfl ?_
    refine wpl_q (q_ldN Tryd.underlying68 rfl Tryd.ti68 rfl LenC.h) rfl ?_
    refine wpl_q (q_ldN Tryd.underlying61 rfl Tryd.ti61 rfl LenC.h) rfl ?_
    refine wpl_q (q_pure rfl) rfl ?_
    refine wpl_q (q_pure rfl) rfl ?_
    refine wpl_tp (t_callPF Tryd.hb52 rfl fun w h => signP ⟨pf, pa, pb, pl, hv, hs⟩ (hp.wa (lastTo ⟨pf, pa, pb, pl, hv, hs⟩)) s ht idx w (hpp.old h) hsvh hlim (glob h hG) hn35) rfl (fun b41 p41 => ?_)
    haveI : OneC (reP (sgP ⟨pf, pa, pb, pl, hv, hs⟩ (hp.wa (lastTo ⟨pf, pa, pb, pl, hv, hs⟩)) s ht idx) b41).c := reP_one p41.1
    refine wpl_q (q_pure rfl) rfl ?_
    refine wpl_q (q_pure rfl) rfl ?_
    refine wpl_q (q_pure rfl) rfl ?_
    refine wpl_t (t_alloc Tryd.ti29 Pth.z.c rfl) rfl (fun b13 => ?_)
    refine wpl_t0 (t_stA Tryd.ti29 rfl rfl LenC.h OneC.h LenC.h) (fun _ => ?_)
    refine wpl_q (q_pure rfl) rfl ?_
    refine wpl_nil ?_
    refine ex_then ?_
    refine wpc_seq ?_
    refine wpc_region ?_
    refine wpl_q (q_ldN Tryd.underlying29 rfl Tryd.ti29 rfl LenC.h) rfl ?_
    refine wpl_q (q_pure rfl) rfl ?_
    refine wpl_t0 (t_stA Tryd.ti29 rfl rfl LenC.h OneC.h LenC.h) (fun _ => ?_)
    refine wpl_q (q_pure rfl) rfl ?_
    refine wpl_nil ?_
    refine ex_then ?_
    refine wpc_ret ?_
    refine retv2 (.inl rfl) rfl (rv_agg Tryd.underlying29 rfl Tryd.ti29 rfl (fun w h => h.atB) (by lens_)) (rv_tmp rfl) ?_
    exact fun w1 h => ⟨b41, by rw [exP_ok hK]; exact p41, by rw [exP_ok hK, exE_ok hK]; rfl, h.below, by rw [exP_ok hK]; exact h.made (by subT_) (by subT_)⟩

set_option maxRecDepth 100000 in
theorem refExtend (p : Pth) (hp : Hop) (s : S16) (ht : Int) (idx : Int) (w : World) (hpp : p.seen w.cell?) (hsvh : hp.sv) (hlim : SmP p) (hn35 : p.hs.length ≤ 35) :
    Calls Tryd.prog 29 [.agg p.c.toArray, .agg hp.c.toArray, .agg (v8s s.1).toArray, .int .i64 ht, .int .i64 idx].toArray w (GivesP w (fun x : Value × List Hop => SV x.1 (exP p hp s ht idx).hs.length ∧ HsEqv (exP p hp s ht idx).hs x.2) (fun x => .tuple #[.agg (reP (exP p hp s ht idx) x).c.toArray, .int .i64 (exE p hp ht idx)]) (fun x => [.row x.1 (exP p hp s ht idx).hs.length 68 24 (hcs x.2)]) (fun x => [hopsF x.2])) := by
  obtain ⟨pf, pa, pb, pl, hv, hs⟩ := p
  have hh : Seen w.cell? hv hs.length 24 (hcs hs) := hpp.1
  have svh := hh.sv
  have lh := svh.le
  simp only [maxLen] at lh
  have hn35 : hs.length ≤ 35 := hn35
  haveI := hsvh.one
  refine enter (m := 45) (R := Mem w [] [] []) Tryd.func29 rfl rfl (Nat.le_of_ble_eq_true rfl) (Mem.start w) ?_
  refine wpc_seq ?_
  refine wpc_region ?_
  refine wpl_t (t_box rfl [.int .u8 (pf.toNat : Int), .int .u64 (pa.toNat : Int), .int .u64 (pb.toNat : Int), .int .i64 pl, hv] rfl) rfl (fun b5 => ?_)
  refine wpl_t (t_box rfl hp.c rfl) rfl (fun b6 => ?_)
  refine wpl_t (t_box rfl (v8s s.1) rfl) rfl (fun b7 => ?_)
  refine wpl_t (t_alloc Tryd.ti29 Pth.z.c rfl) rfl (fun b10 => ?_)
  refine wpl_q (q_pure rfl) rfl ?_
  refine wpl_nil ?_
  refine ex_then ?_
  refine wpc_seq ?_
  refine wpc_region ?_
  refine wpl_q (q_ldN Tryd.underlying29 rfl Tryd.ti29 rfl LenC.h) rfl ?_
  refine wpl_t (t_pur Tryd.hb18 rfl fun w h => refCheck42 ⟨pf, pa, pb, pl, hv, hs⟩ w (hpp.old h)) rfl (fun b14 => ?_)
  refine wpl_q (q_pure rfl) rfl ?_
  refine wpl_nil ?_
  refine ex_then ?_
  refine wpc_cutc ({ x : Int // (x = exK ⟨pf, pa, pb, pl, hv, hs⟩) }) [(3, .int .i64 ht), (4, .int .i64 idx), (5, .pointer (some ⟨b5, 0, none⟩)), (6, .pointer (some ⟨b6, 0, none⟩)), (7, .pointer (some ⟨b7, 0, none⟩)), (10, .pointer (some ⟨b10, 0, none⟩))] (fun x Lc => (12, .int .i64 x.1) :: Lc) (fun x => Mem w [] [.blk b10 29 Pth.z.c, .blk b7 61 (v8s s.1), .blk b6 68 hp.c, .blk b5 29 [.int .u8 (pf.toNat : Int), .int .u64 (pa.toNat : Int), .int .u64 (pb.toNat : Int), .int .i64 pl, hv]] []) ?_ ?_
  ·
   refine wpc_seq ?_
   refine wpc_region ?_
   refine wpl_q (q_pure rfl) rfl ?_
   refine wpl_q (q_pure rfl) rfl ?_
   refine wpl_q (q_pure rfl) rfl ?_
   refine wpl_bool2 17 16 rfl rfl (fun hb17 => ?_) (fun hb17 => ?_)
   ·
    have hk0 : chkP ⟨pf, pa, pb, pl, hv, hs⟩ = 0 := by simpa using hb17
    refine wpl_on rfl rfl ?_
    refine wpl_q (q_field Tryd.underlying29 rfl Tryd.ti27 rfl rfl _ rfl) rfl ?_
    refine wpl_on rfl rfl ?_
    refine wpl_q (q_ld Tryd.underlying27 rfl rfl rfl) rfl ?_
    refine wpl_on rfl rfl ?_
    refine wpl_q (q_lenW Tryd.underlying27 rfl (by svv_)) rfl ?_
    refine wpl_on rfl rfl ?_
    refine wpl_q (q_pure rfl) rfl ?_
    refine wpl_q (q_pure rfl) rfl ?_
    refine wpl_nil ?_
    refine ex_then ?_
    refine wpc_cond rfl (fun hc22 => ?_) (fun hc22 => ?_)
    ·
     have h30q : ((hs.length : Nat) : Int) = 30 := by simpa using hc22
     have hX : 4 = exK ⟨pf, pa, pb, pl, hv, hs⟩ := (exK_many hk0 (by show hs.length = 30; omega)).symm
     refine wpc_region ?_
     refine wpl_q (q_pure rfl) rfl ?_
     refine wpl_nil ?_
     refine ex_mid ⟨4, hX⟩ ?_ ?_
     ·
      exact (by subs_)
     ·
      exact fun w h => by first | exact h | exact h.sub SubC.h SubC.h | exact h.sub (by subT_) (by subT_)
    ·
     have h30q : ¬ ((hs.length : Nat) : Int) = 30 := by simpa using hc22
     have hX : chkP ⟨pf, pa, pb, pl, hv, hs⟩ = exK ⟨pf, pa, pb, pl, hv, hs⟩ := hk0.trans (exK_ok hk0 (by show ¬ hs.length = 30; omega)).symm
     refine wpc_skip ?_
     refine ex_mid ⟨chkP ⟨pf, pa, pb, pl, hv, hs⟩, hX⟩ ?_ ?_
     ·
      exact (by subs_)
     ·
      exact fun w h => by first | exact h | exact h.sub SubC.h SubC.h | exact h.sub (by subT_) (by subT_)
   ·
    have hk : chkP ⟨pf, pa, pb, pl, hv, hs⟩ ≠ 0 := by simpa using hb17
    have hX : chkP ⟨pf, pa, pb, pl, hv, hs⟩ = exK ⟨pf, pa, pb, pl, hv, hs⟩ := (exK_chk hk).symm
    refine wpl_off rfl rfl rfl rfl ?_
    refine wpl_off rfl rfl rfl rfl ?_
    refine wpl_off rfl rfl rfl rfl ?_
    refine wpl_off rfl rfl rfl rfl ?_
    refine wpl_q (q_pure rfl) rfl ?_
    refine wpl_nil ?_
    refine ex_then ?_
    refine wpc_cond_f rfl ?_
    refine wpc_skip ?_
    refine ex_mid ⟨chkP ⟨pf, pa, pb, pl, hv, hs⟩, hX⟩ ?_ ?_
    ·
     exact (by subs_)
    ·
     exact fun w h => by first | exact h | exact h.sub SubC.h SubC.h | exact h.sub (by subT_) (by subT_)
  ·
   rintro ⟨e, hi0⟩; try dsimp only
   have hi0 : e = exK ⟨pf, pa, pb, pl, hv, hs⟩ := hi0
   refine wpc_seq ?_
   refine wpc_seq ?_
   refine wpc_region ?_
   refine wpl_q (q_pure rfl) rfl ?_
   refine wpl_q (q_pure rfl) rfl ?_
   refine wpl_nil ?_
   refine ex_then ?_
   refine wpc_cond rfl (fun hc24 => ?_) (fun hc24 => ?_)
   ·
    have hK : exK ⟨pf, pa, pb, pl, hv, hs⟩ ≠ 0 := by rw [← hi0]; simpa using hc24
    have hV : exE ⟨pf, pa, pb, pl, hv, hs⟩ hp ht idx = e := by rw [hi0]; exact exE_no hK
    refine wpc_seq ?_
    refine wpc_region ?_
    refine wpl_q (q_build (cs := Pth.z.c) rfl built_pz) rfl ?_
    refine wpl_q (q_pure rfl) rfl ?_
    refine wpl_t0 (t_stA Tryd.ti29 rfl rfl LenC.h OneC.h LenC.h) (fun _ => ?_)
    refine wpl_q (q_pure rfl) rfl ?_
    refine wpl_nil ?_
    refine ex_then ?_
    refine wpc_ret ?_
    refine ex_then_ret ?_
    refine retv2 (.inl rfl) rfl (rv_agg Tryd.underlying29 rfl Tryd.ti29 rfl (fun w h => h.atB) (by lens_)) (rv_tmp rfl) ?_
    exact fun w1 h => ⟨(.slice none 0 0, []), ⟨by rw [exP_no hK]; exact SV.nil, by rw [exP_no hK]; exact ⟨rfl, fun i hi => by cases hi⟩⟩, by rw [exP_no hK, hV]; rfl, h.below, by rw [exP_no hK]; exact er_made h⟩
   ·
    have hK : exK ⟨pf, pa, pb, pl, hv, hs⟩ = 0 := by rw [← hi0]; simpa using hc24
    have hk0 : chkP ⟨pf, pa, pb, pl, hv, hs⟩ = 0 := exK_inv hK
    have hn0 : hs.length ≠ 0 := (chk_inv hk0).2.2.1
    refine wpc_skip ?_
    refine ex_then ?_
    refine wpc_seq ?_
    refine wpc_region ?_
    refine wpl_q (q_field Tryd.underlying29 rfl Tryd.ti27 rfl rfl _ rfl) rfl ?_
    refine wpl_q (q_ld Tryd.underlying27 rfl rfl rfl) rfl ?_
    refine wpl_q (q_field Tryd.underlying29 rfl Tryd.ti27 rfl rfl _ rfl) rfl ?_
    refine wpl_q (q_ld Tryd.underlying27 rfl rfl rfl) rfl ?_
    refine wpl_q (q_lenW Tryd.underlying27 rfl (by svv_)) rfl ?_
    refine wpl_q (q_subN (b := 1) rfl rfl (by omega) (by lin_)) rfl ?_
    refine wpl_q (q_idxW Tryd.underlying27 Tryd.ti68 rfl rfl (by svv_) (by lin_)) rfl ?_
    refine wpl_q (q_fieldPo 3 Tryd.underlying68 rfl Tryd.ti49 rfl rfl rfl) rfl ?_
    refine wpl_q (q_ldWF Tryd.underlying49 rfl rfl (fun w h => h.seen_old hh) (cat_get Hop.c_length Hop.z (show hs.length - 1 < hs.length from (by omega)) (Hop.c_to _))) rfl ?_
    refine wpl_q (q_field Tryd.underlying68 rfl Tryd.ti49 rfl rfl _ rfl) rfl ?_
    refine wpl_t0 (t_st1 Tryd.ti49 rfl rfl rfl (by rw [Hop.c_length]; decide) (hp.wa (lastTo ⟨pf, pa, pb, pl, hv, hs⟩)).c rfl) (fun _ => ?_)
    refine wpl_nil ?_
    refine ex_then ?_
    refine wpc_seq ?_
    haveI : OneC (hp.wa (lastTo ⟨pf, pa, pb, pl, hv, hs⟩)).c := Hop.sv.one (h := (hp.wa (lastTo ⟨pf, pa, pb, pl, hv, hs⟩))) hsvh
    refine wpc_region ?_
    refine wpl_q (q_ldN Tryd.underlying29 rfl Tryd.ti29 rfl LenC.h) rfl ?_
    refine wpl_q (q_ldN Tryd.underlying68 rfl Tryd.ti68 rfl LenC.h) rfl ?_
    refine wpl_q (q_ldN Tryd.underlying61 rfl Tryd.ti61 rfl LenC.h) rfl ?_
    refine wpl_q (q_pure rfl) rfl ?_
    refine wpl_q (q_pure rfl) rfl ?_
    refine wpl_tp (t_callPF Tryd.hb53 rfl fun w h => refSignP ⟨pf, pa, pb, pl, hv, hs⟩ (hp.wa (lastTo ⟨pf, pa, pb, pl, hv, hs⟩)) s ht idx w (hpp.old h) hsvh hlim hn35) rfl (fun b42 p42 => ?_)
    haveI : OneC (reP (sgP ⟨pf, pa, pb, pl, hv, hs⟩ (hp.wa (lastTo ⟨pf, pa, pb, pl, hv, hs⟩)) s ht idx) b42).c := reP_one p42.1
    refine wpl_q (q_pure rfl) rfl ?_
    refine wpl_q (q_pure rfl) rfl ?_
    refine wpl_t0 (t_stA Tryd.ti29 rfl rfl LenC.h OneC.h LenC.h) (fun _ => ?_)
    refine wpl_q (q_pure rfl) rfl ?_
    refine wpl_nil ?_
    refine ex_then ?_
    refine wpc_ret ?_
    refine retv2 (.inl rfl) rfl (rv_agg Tryd.underlying29 rfl Tryd.ti29 rfl (fun w h => h.atB) (by lens_)) (rv_tmp rfl) ?_
    exact fun w1 h => ⟨b42, by rw [exP_ok hK]; exact p42, by rw [exP_ok hK, exE_ok hK]; rfl, h.below, by rw [exP_ok hK]; exact h.made (by subT_) (by subT_)⟩

end Go.Proofs.YtjpfhkjmjnjggaaDoor

namespace Go.Proofs.YtjpfhkjmjnjggaaDoor
set_option linter.unusedSimpArgs false
set_option linter.unusedVariables false
open Go Go.PL Go.RowKit

theorem tw2_eqv {p : Pth} {x : Value × List Hop} (h : HsEqv p.hs x.2) : p.eqv (tw2 p x) := ⟨⟨rfl, rfl, rfl, rfl⟩, h⟩
theorem tw2_seen {p : Pth} {x : Value × List Hop} {r : Rd} (h : HsEqv p.hs x.2) (h1 : Seen r x.1 p.hs.length 24 (hcs x.2)) (h2 : ∀ q ∈ x.2, q.seen r) : (tw2 p x).seen r := ⟨by
  show Seen r x.1 x.2.length 24 (hcs x.2)
  rw [← h.1]; exact h1, h2⟩

set_option maxRecDepth 100000 in
theorem lawSigns (f : UInt8) (a b : UInt64) (l : Int) (p : Pth) (hp : Hop) (s : S16) (ht : Int) (idx : Int) (w : World) (hpp : p.seen w.cell?) (hsvh : hp.sv) (hG : Glb w) :
    Calls Tryd.prog 5 [.agg (pfL f a b l).toArray, .agg p.c.toArray, .agg hp.c.toArray, .agg (v8s s.1).toArray, .int .i64 ht, .int .i64 idx].toArray w (Pur w (.bool true)) := by
  obtain ⟨pf, pa, pb, pl, hv, hs⟩ := p
  have hh : Seen w.cell? hv hs.length 24 (hcs hs) := hpp.1
  have svh := hh.sv
  have lh := svh.le
  simp only [maxLen] at lh
  haveI := hsvh.one
  refine enter (m := 93) (R := Mem w [] [] []) Tryd.func5 rfl rfl (Nat.le_of_ble_eq_true rfl) (Mem.start w) ?_
  refine wpc_seq ?_
  refine wpc_region ?_
  refine wpl_t (t_box rfl (pfL f a b l) rfl) rfl (fun b6 => ?_)
  refine wpl_t (t_box rfl [.int .u8 (pf.toNat : Int), .int .u64 (pa.toNat : Int), .int .u64 (pb.toNat : Int), .int .i64 pl, hv] rfl) rfl (fun b7 => ?_)
  refine wpl_t (t_box rfl hp.c rfl) rfl (fun b8 => ?_)
  refine wpl_t (t_box rfl (v8s s.1) rfl) rfl (fun b9 => ?_)
  refine wpl_q (q_pure rfl) rfl ?_
  refine wpl_nil ?_
  refine ex_then ?_
  refine wpc_seq ?_
  refine wpc_seq ?_
  refine wpc_region ?_
  refine wpl_q (q_ldN Tryd.underlying29 rfl Tryd.ti29 rfl LenC.h) rfl ?_
  refine wpl_t (t_pur Tryd.hb11 rfl fun w h => refGreat42 ⟨pf, pa, pb, pl, hv, hs⟩ w (hpp.old h)) rfl (fun b23 => ?_)
  refine wpl_q (q_pure rfl) rfl ?_
  refine wpl_bool2 24 23 rfl rfl (fun hb24 => ?_) (fun hb24 => ?_)
  ·
   refine wpl_off rfl rfl rfl rfl ?_
   refine wpl_off rfl rfl rfl rfl ?_
   refine wpl_off rfl rfl rfl rfl ?_
   refine wpl_off rfl rfl rfl rfl ?_
   refine wpl_off rfl rfl rfl rfl ?_
   refine wpl_off rfl rfl rfl rfl ?_
   refine wpl_q (q_pure rfl) rfl ?_
   refine wpl_nil ?_
   refine ex_then ?_
   refine wpc_cond_t rfl ?_
   refine wpc_seq ?_
   refine wpc_region ?_
   refine wpl_q (q_pure rfl) rfl ?_
   refine wpl_nil ?_
   refine ex_then ?_
   refine wpc_ret ?_
   refine ex_then_ret ?_
   refine ret1 (.inl rfl) rfl rfl ?_
   exact fun w h => ⟨rfl, h.below⟩
  ·
   have hng : ¬ GreatP ⟨pf, pa, pb, pl, hv, hs⟩ := of_decide_eq_false hb24
   obtain ⟨hsm, hn35⟩ := great_no hng
   refine wpl_on rfl rfl ?_
   refine wpl_q (q_pure rfl) rfl ?_
   refine wpl_on rfl rfl ?_
   refine wpl_q (q_pure rfl) rfl ?_
   refine wpl_on rfl rfl ?_
   refine wpl_q (q_pure rfl) rfl ?_
   refine wpl_bool2 27 26 rfl rfl (fun hb27 => ?_) (fun hb27 => ?_)
   ·
    refine wpl_on rfl rfl ?_
    refine wpl_q (q_pure rfl) rfl ?_
    refine wpl_on rfl rfl ?_
    refine wpl_q (q_pure rfl) rfl ?_
    refine wpl_on rfl rfl ?_
    refine wpl_q (q_pure rfl) rfl ?_
    refine wpl_q (q_pure rfl) rfl ?_
    refine wpl_nil ?_
    refine ex_then ?_
    refine wpc_cond rfl (fun hc31 => ?_) (fun hc31 => ?_)
    ·
     refine wpc_seq ?_
     refine wpc_region ?_
     refine wpl_q (q_pure rfl) rfl ?_
     refine wpl_nil ?_
     refine ex_then ?_
     refine wpc_ret ?_
     refine ex_then_ret ?_
     refine ret1 (.inl rfl) rfl rfl ?_
     exact fun w h => ⟨rfl, h.below⟩
    ·
     refine wpc_skip ?_
     refine ex_then ?_
     refine wpc_seq ?_
     refine wpc_region ?_
     refine wpl_q (q_ldN Tryd.underlying29 rfl Tryd.ti29 rfl LenC.h) rfl ?_
     refine wpl_tp (t_callPF Tryd.hb12 rfl fun w h => refTwin42 ⟨pf, pa, pb, pl, hv, hs⟩ w (hpp.old h) hsm hn35) rfl (fun b33 p33 => ?_)
     haveI : OneC (tw2 ⟨pf, pa, pb, pl, hv, hs⟩ b33).c := Pth.sv.one (p := tw2 ⟨pf, pa, pb, pl, hv, hs⟩ b33) (by show SV b33.1 b33.2.length; rw [← p33.2.1]; exact p33.1)
     refine wpl_t (t_alloc Tryd.ti29 Pth.z.c rfl) rfl (fun b13 => ?_)
     refine wpl_t0 (t_stA Tryd.ti29 rfl rfl LenC.h OneC.h LenC.h) (fun _ => ?_)
     refine wpl_nil ?_
     refine ex_then ?_
     refine wpc_seq ?_
     refine wpc_region ?_
     refine wpl_q (q_ldN Tryd.underlying26 rfl Tryd.ti26 rfl LenC.h) rfl ?_
     refine wpl_q (q_ldN Tryd.underlying68 rfl Tryd.ti68 rfl LenC.h) rfl ?_
     refine wpl_q (q_ldN Tryd.underlying61 rfl Tryd.ti61 rfl LenC.h) rfl ?_
     refine wpl_q (q_pure rfl) rfl ?_
     refine wpl_q (q_pure rfl) rfl ?_
     refine wpl_tp (t_callPF Tryd.hb26 rfl fun w h => start f a b l hp s ht idx w hsvh (glob h hG)) rfl (fun b40 p40 => ?_)
     haveI : OneC (reP (stP f a b l hp s ht idx) b40).c := reP_one p40.1
     refine wpl_q (q_pure rfl) rfl ?_
     refine wpl_q (q_pure rfl) rfl ?_
     refine wpl_q (q_pure rfl) rfl ?_
     refine wpl_t (t_alloc Tryd.ti29 Pth.z.c rfl) rfl (fun b14 => ?_)
     refine wpl_t0 (t_stA Tryd.ti29 rfl rfl LenC.h OneC.h LenC.h) (fun _ => ?_)
     refine wpl_q (q_pure rfl) rfl ?_
     refine wpl_nil ?_
     refine ex_then ?_
     refine wpc_seq ?_
     refine wpc_region ?_
     refine wpl_q (q_ldN Tryd.underlying26 rfl Tryd.ti26 rfl LenC.h) rfl ?_
     refine wpl_q (q_ldN Tryd.underlying68 rfl Tryd.ti68 rfl LenC.h) rfl ?_
     refine wpl_q (q_ldN Tryd.underlying61 rfl Tryd.ti61 rfl LenC.h) rfl ?_
     refine wpl_q (q_pure rfl) rfl ?_
     refine wpl_q (q_pure rfl) rfl ?_
     refine wpl_tp (t_callPF Tryd.hb27 rfl fun w h => refStart f a b l hp s ht idx w hsvh) rfl (fun b49 p49 => ?_)
     haveI : OneC (reP (stP f a b l hp s ht idx) b49).c := reP_one p49.1
     refine wpl_q (q_pure rfl) rfl ?_
     refine wpl_q (q_pure rfl) rfl ?_
     refine wpl_q (q_pure rfl) rfl ?_
     refine wpl_t (t_alloc Tryd.ti29 Pth.z.c rfl) rfl (fun b16 => ?_)
     refine wpl_t0 (t_stA Tryd.ti29 rfl rfl LenC.h OneC.h LenC.h) (fun _ => ?_)
     refine wpl_q (q_pure rfl) rfl ?_
     refine wpl_nil ?_
     refine ex_then ?_
     refine wpc_seq ?_
     refine wpc_region ?_
     refine wpl_q (q_ldN Tryd.underlying29 rfl Tryd.ti29 rfl LenC.h) rfl ?_
     refine wpl_q (q_ldN Tryd.underlying68 rfl Tryd.ti68 rfl LenC.h) rfl ?_
     refine wpl_q (q_ldN Tryd.underlying61 rfl Tryd.ti61 rfl LenC.h) rfl ?_
     refine wpl_q (q_pure rfl) rfl ?_
     refine wpl_q (q_pure rfl) rfl ?_
     refine wpl_tp (t_callPF Tryd.hb28 rfl fun w h => extend ⟨pf, pa, pb, pl, hv, hs⟩ hp s ht idx w (hpp.old h) hsvh hsm (glob h hG) hn35) rfl (fun b58 p58 => ?_)
     haveI : OneC (reP (exP ⟨pf, pa, pb, pl, hv, hs⟩ hp s ht idx) b58).c := reP_one p58.1
     refine wpl_q (q_pure rfl) rfl ?_
     refine wpl_q (q_pure rfl) rfl ?_
     refine wpl_q (q_pure rfl) rfl ?_
     refine wpl_t (t_alloc Tryd.ti29 Pth.z.c rfl) rfl (fun b18 => ?_)
     refine wpl_t0 (t_stA Tryd.ti29 rfl rfl LenC.h OneC.h LenC.h) (fun _ => ?_)
     refine wpl_q (q_pure rfl) rfl ?_
     refine wpl_nil ?_
     refine ex_then ?_
     refine wpc_seq ?_
     refine wpc_region ?_
     refine wpl_q (q_ldN Tryd.underlying29 rfl Tryd.ti29 rfl LenC.h) rfl ?_
     refine wpl_q (q_ldN Tryd.underlying68 rfl Tryd.ti68 rfl LenC.h) rfl ?_
     refine wpl_q (q_ldN Tryd.underlying61 rfl Tryd.ti61 rfl LenC.h) rfl ?_
     refine wpl_q (q_pure rfl) rfl ?_
     refine wpl_q (q_pure rfl) rfl ?_
     refine wpl_tp (t_callPF Tryd.hb29 rfl fun w h => refExtend ⟨pf, pa, pb, pl, hv, hs⟩ hp s ht idx w (hpp.old h) hsvh hsm hn35) rfl (fun b67 p67 => ?_)
     haveI : OneC (reP (exP ⟨pf, pa, pb, pl, hv, hs⟩ hp s ht idx) b67).c := reP_one p67.1
     refine wpl_q (q_pure rfl) rfl ?_
     refine wpl_q (q_pure rfl) rfl ?_
     refine wpl_q (q_pure rfl) rfl ?_
     refine wpl_t (t_alloc Tryd.ti29 Pth.z.c rfl) rfl (fun b20 => ?_)
     refine wpl_t0 (t_stA Tryd.ti29 rfl rfl LenC.h OneC.h LenC.h) (fun _ => ?_)
     refine wpl_q (q_pure rfl) rfl ?_
     refine wpl_nil ?_
     refine ex_then ?_
     refine wpc_seq ?_
     refine wpc_region ?_
     refine wpl_q (q_ldN Tryd.underlying29 rfl Tryd.ti29 rfl LenC.h) rfl ?_
     refine wpl_q (q_ldN Tryd.underlying29 rfl Tryd.ti29 rfl LenC.h) rfl ?_
     refine wpl_t (t_pur (v := .bool true) Tryd.hb21 rfl fun w h => by
       have q := refSame42 (reP (stP f a b l hp s ht idx) b40) (reP (stP f a b l hp s ht idx) b49) w (reP_seen p40.2 (h.seen_row (by mem_)) (hopsF_at h (by mem_))) (reP_seen p49.2 (h.seen_row (by mem_)) (hopsF_at h (by mem_)))
       rwa [decide_eq_true (reP_eqv p40.2 p49.2)] at q) rfl (fun b72 => ?_)
     refine wpl_q (q_pure rfl) rfl ?_
     refine wpl_on rfl rfl ?_
     refine wpl_q (q_pure rfl) rfl ?_
     refine wpl_on rfl rfl ?_
     refine wpl_q (q_pure rfl) rfl ?_
     refine wpl_on rfl rfl ?_
     refine wpl_q (q_tru (q_eqI rfl rfl) rfl) rfl ?_
     refine wpl_q (q_pure rfl) rfl ?_
     refine wpl_q (q_pure rfl) rfl ?_
     refine wpl_on rfl rfl ?_
     refine wpl_q (q_ldN Tryd.underlying29 rfl Tryd.ti29 rfl LenC.h) rfl ?_
     refine wpl_on rfl rfl ?_
     refine wpl_q (q_ldN Tryd.underlying29 rfl Tryd.ti29 rfl LenC.h) rfl ?_
     refine wpl_on rfl rfl ?_
     refine wpl_t (t_pur (v := .bool true) Tryd.hb21 rfl fun w h => by
       have q := refSame42 (reP (exP ⟨pf, pa, pb, pl, hv, hs⟩ hp s ht idx) b58) (reP (exP ⟨pf, pa, pb, pl, hv, hs⟩ hp s ht idx) b67) w (reP_seen p58.2 (h.seen_row (by mem_)) (hopsF_at h (by mem_))) (reP_seen p67.2 (h.seen_row (by mem_)) (hopsF_at h (by mem_)))
       rwa [decide_eq_true (reP_eqv p58.2 p67.2)] at q) rfl (fun b81 => ?_)
     refine wpl_q (q_pure rfl) rfl ?_
     refine wpl_q (q_pure rfl) rfl ?_
     refine wpl_on rfl rfl ?_
     refine wpl_q (q_pure rfl) rfl ?_
     refine wpl_on rfl rfl ?_
     refine wpl_q (q_pure rfl) rfl ?_
     refine wpl_on rfl rfl ?_
     refine wpl_q (q_tru (q_eqI rfl rfl) rfl) rfl ?_
     refine wpl_q (q_pure rfl) rfl ?_
     refine wpl_q (q_pure rfl) rfl ?_
     refine wpl_on rfl rfl ?_
     refine wpl_q (q_ldN Tryd.underlying29 rfl Tryd.ti29 rfl LenC.h) rfl ?_
     refine wpl_on rfl rfl ?_
     refine wpl_q (q_ldN Tryd.underlying29 rfl Tryd.ti29 rfl LenC.h) rfl ?_
     refine wpl_on rfl rfl ?_
     refine wpl_t (t_pur (v := .bool true) Tryd.hb21 rfl fun w h => by
       have q := refSame42 ⟨pf, pa, pb, pl, hv, hs⟩ (tw2 ⟨pf, pa, pb, pl, hv, hs⟩ b33) w (hpp.old h) (tw2_seen p33.2 (h.seen_row (by mem_)) (hopsF_at h (by mem_)))
       rwa [decide_eq_true (tw2_eqv p33.2)] at q) rfl (fun b91 => ?_)
     refine wpl_q (q_pure rfl) rfl ?_
     refine wpl_q (q_pure rfl) rfl ?_
     refine wpl_nil ?_
     refine ex_then ?_
     refine wpc_ret ?_
     refine ret1 (.inl rfl) rfl rfl ?_
     exact fun w h => ⟨rfl, h.below⟩
   ·
    refine wpl_off rfl rfl rfl rfl ?_
    refine wpl_off rfl rfl rfl rfl ?_
    refine wpl_on rfl rfl ?_
    refine wpl_q (q_pure rfl) rfl ?_
    refine wpl_q (q_pure rfl) rfl ?_
    refine wpl_nil ?_
    refine ex_then ?_
    refine wpc_cond_f rfl ?_
    refine wpc_skip ?_
    refine ex_then ?_
    refine wpc_seq ?_
    refine wpc_region ?_
    refine wpl_q (q_ldN Tryd.underlying29 rfl Tryd.ti29 rfl LenC.h) rfl ?_
    refine wpl_tp (t_callPF Tryd.hb12 rfl fun w h => refTwin42 ⟨pf, pa, pb, pl, hv, hs⟩ w (hpp.old h) hsm hn35) rfl (fun b33 p33 => ?_)
    haveI : OneC (tw2 ⟨pf, pa, pb, pl, hv, hs⟩ b33).c := Pth.sv.one (p := tw2 ⟨pf, pa, pb, pl, hv, hs⟩ b33) (by show SV b33.1 b33.2.length; rw [← p33.2.1]; exact p33.1)
    refine wpl_t (t_alloc Tryd.ti29 Pth.z.c rfl) rfl (fun b13 => ?_)
    refine wpl_t0 (t_stA Tryd.ti29 rfl rfl LenC.h OneC.h LenC.h) (fun _ => ?_)
    refine wpl_nil ?_
    refine ex_then ?_
    refine wpc_seq ?_
    refine wpc_region ?_
    refine wpl_q (q_ldN Tryd.underlying26 rfl Tryd.ti26 rfl LenC.h) rfl ?_
    refine wpl_q (q_ldN Tryd.underlying68 rfl Tryd.ti68 rfl LenC.h) rfl ?_
    refine wpl_q (q_ldN Tryd.underlying61 rfl Tryd.ti61 rfl LenC.h) rfl ?_
    refine wpl_q (q_pure rfl) rfl ?_
    refine wpl_q (q_pure rfl) rfl ?_
    refine wpl_tp (t_callPF Tryd.hb26 rfl fun w h => start f a b l hp s ht idx w hsvh (glob h hG)) rfl (fun b40 p40 => ?_)
    haveI : OneC (reP (stP f a b l hp s ht idx) b40).c := reP_one p40.1
    refine wpl_q (q_pure rfl) rfl ?_
    refine wpl_q (q_pure rfl) rfl ?_
    refine wpl_q (q_pure rfl) rfl ?_
    refine wpl_t (t_alloc Tryd.ti29 Pth.z.c rfl) rfl (fun b14 => ?_)
    refine wpl_t0 (t_stA Tryd.ti29 rfl rfl LenC.h OneC.h LenC.h) (fun _ => ?_)
    refine wpl_q (q_pure rfl) rfl ?_
    refine wpl_nil ?_
    refine ex_then ?_
    refine wpc_seq ?_
    refine wpc_region ?_
    refine wpl_q (q_ldN Tryd.underlying26 rfl Tryd.ti26 rfl LenC.h) rfl ?_
    refine wpl_q (q_ldN Tryd.underlying68 rfl Tryd.ti68 rfl LenC.h) rfl ?_
    refine wpl_q (q_ldN Tryd.underlying61 rfl Tryd.ti61 rfl LenC.h) rfl ?_
    refine wpl_q (q_pure rfl) rfl ?_
    refine wpl_q (q_pure rfl) rfl ?_
    refine wpl_tp (t_callPF Tryd.hb27 rfl fun w h => refStart f a b l hp s ht idx w hsvh) rfl (fun b49 p49 => ?_)
    haveI : OneC (reP (stP f a b l hp s ht idx) b49).c := reP_one p49.1
    refine wpl_q (q_pure rfl) rfl ?_
    refine wpl_q (q_pure rfl) rfl ?_
    refine wpl_q (q_pure rfl) rfl ?_
    refine wpl_t (t_alloc Tryd.ti29 Pth.z.c rfl) rfl (fun b16 => ?_)
    refine wpl_t0 (t_stA Tryd.ti29 rfl rfl LenC.h OneC.h LenC.h) (fun _ => ?_)
    refine wpl_q (q_pure rfl) rfl ?_
    refine wpl_nil ?_
    refine ex_then ?_
    refine wpc_seq ?_
    refine wpc_region ?_
    refine wpl_q (q_ldN Tryd.underlying29 rfl Tryd.ti29 rfl LenC.h) rfl ?_
    refine wpl_q (q_ldN Tryd.underlying68 rfl Tryd.ti68 rfl LenC.h) rfl ?_
    refine wpl_q (q_ldN Tryd.underlying61 rfl Tryd.ti61 rfl LenC.h) rfl ?_
    refine wpl_q (q_pure rfl) rfl ?_
    refine wpl_q (q_pure rfl) rfl ?_
    refine wpl_tp (t_callPF Tryd.hb28 rfl fun w h => extend ⟨pf, pa, pb, pl, hv, hs⟩ hp s ht idx w (hpp.old h) hsvh hsm (glob h hG) hn35) rfl (fun b58 p58 => ?_)
    haveI : OneC (reP (exP ⟨pf, pa, pb, pl, hv, hs⟩ hp s ht idx) b58).c := reP_one p58.1
    refine wpl_q (q_pure rfl) rfl ?_
    refine wpl_q (q_pure rfl) rfl ?_
    refine wpl_q (q_pure rfl) rfl ?_
    refine wpl_t (t_alloc Tryd.ti29 Pth.z.c rfl) rfl (fun b18 => ?_)
    refine wpl_t0 (t_stA Tryd.ti29 rfl rfl LenC.h OneC.h LenC.h) (fun _ => ?_)
    refine wpl_q (q_pure rfl) rfl ?_
    refine wpl_nil ?_
    refine ex_then ?_
    refine wpc_seq ?_
    refine wpc_region ?_
    refine wpl_q (q_ldN Tryd.underlying29 rfl Tryd.ti29 rfl LenC.h) rfl ?_
    refine wpl_q (q_ldN Tryd.underlying68 rfl Tryd.ti68 rfl LenC.h) rfl ?_
    refine wpl_q (q_ldN Tryd.underlying61 rfl Tryd.ti61 rfl LenC.h) rfl ?_
    refine wpl_q (q_pure rfl) rfl ?_
    refine wpl_q (q_pure rfl) rfl ?_
    refine wpl_tp (t_callPF Tryd.hb29 rfl fun w h => refExtend ⟨pf, pa, pb, pl, hv, hs⟩ hp s ht idx w (hpp.old h) hsvh hsm hn35) rfl (fun b67 p67 => ?_)
    haveI : OneC (reP (exP ⟨pf, pa, pb, pl, hv, hs⟩ hp s ht idx) b67).c := reP_one p67.1
    refine wpl_q (q_pure rfl) rfl ?_
    refine wpl_q (q_pure rfl) rfl ?_
    refine wpl_q (q_pure rfl) rfl ?_
    refine wpl_t (t_alloc Tryd.ti29 Pth.z.c rfl) rfl (fun b20 => ?_)
    refine wpl_t0 (t_stA Tryd.ti29 rfl rfl LenC.h OneC.h LenC.h) (fun _ => ?_)
    refine wpl_q (q_pure rfl) rfl ?_
    refine wpl_nil ?_
    refine ex_then ?_
    refine wpc_seq ?_
    refine wpc_region ?_
    refine wpl_q (q_ldN Tryd.underlying29 rfl Tryd.ti29 rfl LenC.h) rfl ?_
    refine wpl_q (q_ldN Tryd.underlying29 rfl Tryd.ti29 rfl LenC.h) rfl ?_
    refine wpl_t (t_pur (v := .bool true) Tryd.hb21 rfl fun w h => by
      have q := refSame42 (reP (stP f a b l hp s ht idx) b40) (reP (stP f a b l hp s ht idx) b49) w (reP_seen p40.2 (h.seen_row (by mem_)) (hopsF_at h (by mem_))) (reP_seen p49.2 (h.seen_row (by mem_)) (hopsF_at h (by mem_)))
      rwa [decide_eq_true (reP_eqv p40.2 p49.2)] at q) rfl (fun b72 => ?_)
    refine wpl_q (q_pure rfl) rfl ?_
    refine wpl_on rfl rfl ?_
    refine wpl_q (q_pure rfl) rfl ?_
    refine wpl_on rfl rfl ?_
    refine wpl_q (q_pure rfl) rfl ?_
    refine wpl_on rfl rfl ?_
    refine wpl_q (q_tru (q_eqI rfl rfl) rfl) rfl ?_
    refine wpl_q (q_pure rfl) rfl ?_
    refine wpl_q (q_pure rfl) rfl ?_
    refine wpl_on rfl rfl ?_
    refine wpl_q (q_ldN Tryd.underlying29 rfl Tryd.ti29 rfl LenC.h) rfl ?_
    refine wpl_on rfl rfl ?_
    refine wpl_q (q_ldN Tryd.underlying29 rfl Tryd.ti29 rfl LenC.h) rfl ?_
    refine wpl_on rfl rfl ?_
    refine wpl_t (t_pur (v := .bool true) Tryd.hb21 rfl fun w h => by
      have q := refSame42 (reP (exP ⟨pf, pa, pb, pl, hv, hs⟩ hp s ht idx) b58) (reP (exP ⟨pf, pa, pb, pl, hv, hs⟩ hp s ht idx) b67) w (reP_seen p58.2 (h.seen_row (by mem_)) (hopsF_at h (by mem_))) (reP_seen p67.2 (h.seen_row (by mem_)) (hopsF_at h (by mem_)))
      rwa [decide_eq_true (reP_eqv p58.2 p67.2)] at q) rfl (fun b81 => ?_)
    refine wpl_q (q_pure rfl) rfl ?_
    refine wpl_q (q_pure rfl) rfl ?_
    refine wpl_on rfl rfl ?_
    refine wpl_q (q_pure rfl) rfl ?_
    refine wpl_on rfl rfl ?_
    refine wpl_q (q_pure rfl) rfl ?_
    refine wpl_on rfl rfl ?_
    refine wpl_q (q_tru (q_eqI rfl rfl) rfl) rfl ?_
    refine wpl_q (q_pure rfl) rfl ?_
    refine wpl_q (q_pure rfl) rfl ?_
    refine wpl_on rfl rfl ?_
    refine wpl_q (q_ldN Tryd.underlying29 rfl Tryd.ti29 rfl LenC.h) rfl ?_
    refine wpl_on rfl rfl ?_
    refine wpl_q (q_ldN Tryd.underlying29 rfl Tryd.ti29 rfl LenC.h) rfl ?_
    refine wpl_on rfl rfl ?_
    refine wpl_t (t_pur (v := .bool true) Tryd.hb21 rfl fun w h => by
      have q := refSame42 ⟨pf, pa, pb, pl, hv, hs⟩ (tw2 ⟨pf, pa, pb, pl, hv, hs⟩ b33) w (hpp.old h) (tw2_seen p33.2 (h.seen_row (by mem_)) (hopsF_at h (by mem_)))
      rwa [decide_eq_true (tw2_eqv p33.2)] at q) rfl (fun b91 => ?_)
    refine wpl_q (q_pure rfl) rfl ?_
    refine wpl_q (q_pure rfl) rfl ?_
    refine wpl_nil ?_
    refine ex_then ?_
    refine wpc_ret ?_
    refine ret1 (.inl rfl) rfl rfl ?_
    exact fun w h => ⟨rfl, h.below⟩

end Go.Proofs.YtjpfhkjmjnjggaaDoor

