/- What the statement reaches, in order. -/
import Derived.Test.YtjpfhkjmjnjggaaDoorMUTI
import Derived.Test.YtjpfhkjmjnjggaaDoorMUPLI
import Derived.Test.YtjpfhkjmjnjggaaDoorMUPLZ
import Derived.Test.YtjpfhkjmjnjggaaDoorMUPLL
import Derived.Test.YtjpfhkjmjnjggaaDoorMUPLN
import Derived.Test.YtjpfhkjmjnjggaaDoorMUPLP
import Derived.WalkKit
import Derived.ProofKit
import Derived.OpenShut
import Derived.ChangeOld
import Derived.Below
import Derived.Carry
import Derived.LaidMore
import Derived.Deep.DeepHandedRow
import Derived.Deep.DeepWitnessRowRef
import Derived.Lib.LaidTab
import Derived.Stop.Joined
import Derived.Test.YtjpfhkjmjnjggaaDoorMU4
set_option linter.unusedSimpArgs false
set_option linter.unusedVariables false
set_option maxRecDepth 100000
namespace Go.Proofs.YtjpfhkjmjnjggaaDoor
open Go Go.PL Go.RowKit
theorem signP (p : Pth) (hp : Hop) (s : S16) (ht : Int) (idx : Int) (w : World) (hpp : p.seen w.cell?) (hsvh : hp.sv) (hlim : SmP p) (hG : Glb w) (hn35 : p.hs.length ≤ 35) :
    Calls Tryd.prog 52 [.agg p.c.toArray, .agg hp.c.toArray, .agg (v8s s.1).toArray, .int .i64 ht, .int .i64 idx].toArray w (GivesP w (fun x : Value × List Hop => SV x.1 (sgP p hp s ht idx).hs.length ∧ HsEqv (sgP p hp s ht idx).hs x.2) (fun x => .tuple #[.agg (reP (sgP p hp s ht idx) x).c.toArray, .int .i64 (sgE hp ht idx)]) (fun x => [.row x.1 (sgP p hp s ht idx).hs.length 68 24 (hcs x.2)]) (fun x => [hopsF x.2])) := by
  obtain ⟨pf, pa, pb, pl, hv, hs⟩ := p
  have hh : Seen w.cell? hv hs.length 24 (hcs hs) := hpp.1
  have svh := hh.sv
  have lh := svh.le
  simp only [maxLen] at lh
  have hn35 : hs.length ≤ 35 := hn35
  haveI := hsvh.one
  refine enter (m := 86) (R := Mem w [] [] []) Tryd.func52 rfl rfl (Nat.le_of_ble_eq_true rfl) (Mem.start w) ?_
  refine wpc_seq <| wpc_region ?_
  refine wpl_t (t_box rfl [.int .u8 (pf.toNat : Int), .int .u64 (pa.toNat : Int), .int .u64 (pb.toNat : Int), .int .i64 pl, hv] rfl) rfl (fun b5 => ?_)
  refine wpl_t (t_box rfl hp.c rfl) rfl (fun b6 => ?_)
  refine wpl_t (t_box rfl (v8s s.1) rfl) rfl (fun b7 => ?_)
  refine wpl_t (t_alloc Tryd.ti29 Pth.z.c rfl) rfl (fun b10 => ?_)
  refine wpl_q (q_pure rfl) rfl <| wpl_nil <| ex_then <| wpc_seq <| wpc_seq <| wpc_region <| wpl_q (q_field Tryd.underlying68 rfl Tryd.ti5 rfl rfl _ rfl) rfl <| wpl_q (q_ld Tryd.underlying5 rfl rfl hp.c_fl) rfl <| wpl_q (q_pure rfl) rfl <| wpl_nil <| ex_then ?_
  refine wpc_cond rfl (fun hc21 => ?_) (fun hc21 => ?_)
  ·
   have hfl : 1 < hp.fl.toNat := by simp only [decide_eq_true_eq] at hc21; omega
   have hV : sgE hp ht idx = 2 := sgE_fl hfl
   have hE0 : sgE hp ht idx ≠ 0 := by rw [hV]; decide
   refine wpc_seq <| wpc_region ?_
   refine wpl_q (q_build (cs := Pth.z.c) rfl built_pz) rfl ?_
   refine wpl_t0 (t_stA Tryd.ti29 rfl rfl LenC.h OneC.h LenC.h) (fun _ => ?_)
   refine wpl_q (q_pure rfl) rfl <| wpl_nil <| ex_then <| wpc_ret ?_
   refine ex_then_ret ?_
   refine retv2 (.inl rfl) rfl (rv_agg Tryd.underlying29 rfl Tryd.ti29 rfl (fun w h => h.atB) zz0) (rv_tmp rfl) ?_
   exact fun w1 h => ⟨(.slice none 0 0, []), ⟨by rw [sgP_no hE0]; exact SV.nil, zz47⟩, by rw [sgP_no hE0, hV]; rfl, h.below, sg_err h hE0⟩
  ·
   have hfl : ¬ 1 < hp.fl.toNat := by simp only [decide_eq_false_iff_not] at hc21; omega
   refine wpc_skip <| ex_then <| wpc_seq <| wpc_region <| wpl_q (q_ldN Tryd.underlying61 rfl Tryd.ti61 rfl LenC.h) rfl <| wpl_q (q_pure rfl) rfl ?_
   refine wpl_t (t_pur Tryd.hb54 rfl fun w h => key7 s.1 ht w s.2 (glob h hG)) rfl (fun b26 => ?_)
   refine wpl_q (q_pure rfl) rfl <| wpl_q (q_pure rfl) rfl <| wpl_q (q_pure rfl) rfl ?_
   refine wpl_t (t_alloc Tryd.ti63 (v8s (List.replicate 16 0) ++ [.int .i64 0]) rfl) rfl (fun b12 => ?_)
   refine wpl_t0 (t_stA Tryd.ti63 rfl rfl LenC.h (key_ro s ht) rfl) (fun _ => ?_)
   refine wpl_q (q_pure rfl) rfl <| wpl_nil <| ex_then <| wpc_seq <| wpc_seq <| wpc_region <| wpl_q (q_pure rfl) rfl <| wpl_q (q_pure rfl) rfl <| wpl_nil <| ex_then ?_
   refine wpc_cond rfl (fun hc30 => ?_) (fun hc30 => ?_)
   ·
    have hke : keyE ht ≠ 0 := by simpa using hc30
    have hV : sgE hp ht idx = keyE ht := sgE_key hfl hke
    have hE0 : sgE hp ht idx ≠ 0 := by rw [hV]; exact hke
    refine wpc_seq <| wpc_region ?_
    refine wpl_q (q_build (cs := Pth.z.c) rfl built_pz) rfl ?_
    refine wpl_q (q_pure rfl) rfl ?_
    refine wpl_t0 (t_stA Tryd.ti29 rfl rfl LenC.h OneC.h LenC.h) (fun _ => ?_)
    refine wpl_q (q_pure rfl) rfl <| wpl_nil <| ex_then <| wpc_ret ?_
    refine ex_then_ret ?_
    refine retv2 (.inl rfl) rfl (rv_agg Tryd.underlying29 rfl Tryd.ti29 rfl (fun w h => h.atB) zz0) (rv_tmp rfl) ?_
    exact fun w1 h => ⟨(.slice none 0 0, []), ⟨by rw [sgP_no hE0]; exact SV.nil, zz47⟩, by rw [sgP_no hE0, hV]; rfl, h.below, sg_err h hE0⟩
   ·
    have hke : ¬ keyE ht ≠ 0 := by simpa using hc30
    have hES : sgE hp ht idx = sigE ht idx := sgE_sig hfl hke
    refine wpc_skip <| ex_then <| wpc_seq <| wpc_region <| wpl_q (q_field Tryd.underlying29 rfl Tryd.ti26 rfl rfl _ rfl) rfl ?_
    refine wpl_q (q_ldP Tryd.underlying26 rfl Tryd.ti26 rfl (pfL pf pa pb pl) rfl zz0) rfl ?_
    refine wpl_q (q_build (cs := [.int .u8 (pf.toNat : Int), .int .u64 (pa.toNat : Int), .int .u64 (pb.toNat : Int), .int .i64 pl, .slice none 0 0]) rfl (built_pre pf pa pb pl)) rfl ?_
    refine wpl_t (t_alloc Tryd.ti29 Pth.z.c rfl) rfl (fun b14 => ?_)
    refine wpl_t0 (t_stA Tryd.ti29 rfl rfl LenC.h OneC.h LenC.h) (fun _ => ?_)
    refine wpl_nil <| ex_then <| wpc_seq <| wpc_seq <| wpc_region <| wpl_q (q_field Tryd.underlying29 rfl Tryd.ti27 rfl rfl _ rfl) rfl <| wpl_q (q_ld Tryd.underlying27 rfl rfl rfl) rfl ?_
    refine wpl_q (q_lenW Tryd.underlying27 rfl zz4) rfl ?_
    refine wpl_q (q_pure rfl) rfl <| wpl_nil <| ex_then <| wpc_block ?_
    refine wpc_loopc (ι := { x : Nat × Value × List Hop // (x.1 ≤ hs.length) ∧ (SV x.2.1 x.1) ∧ (x.2.2.length = x.1) ∧ (∀ j, j < x.1 → Hop.eqv (hs.getD j Hop.z) (x.2.2.getD j Hop.z)) }) [(3, _), (4, _), (6, _), (7, _), (10, _), (12, _), (14, _), (37, _), (38, _)] (fun x Lc => (39, .int .i64 ((x.1.1 : Nat) : Int)) :: Lc) (fun x => Mem w [] [.row x.1.2.1 x.1.1 68 24 (hcs x.1.2.2), .blk b14 29 [.int .u8 (pf.toNat : Int), .int .u64 (pa.toNat : Int), .int .u64 (pb.toNat : Int), .int .i64 pl, x.1.2.1], .blk b12 63 (v8s (keyR s.1 ht) ++ [Value.int .i64 (keyH ht)]), .blk b10 29 Pth.z.c, .blk b7 61 (v8s s.1), .blk b6 68 hp.c, .blk b5 29 [.int .u8 (pf.toNat : Int), .int .u64 (pa.toNat : Int), .int .u64 (pb.toNat : Int), .int .i64 pl, hv]] [hopsF x.1.2.2]) (fun x => hs.length - x.1.1) ⟨(0, .slice none 0 0, []), ⟨Nat.zero_le _, SV.nil, rfl, fun j hj => zz13⟩⟩ zz10 ?_ ?_
    ·
     exact fun w h => Mem.imp (h.nilRow 68 24) (fun r _ t ht => by rw [List.mem_singleton] at ht; subst ht; exact fun q hq => by cases hq)
    ·
     rintro ⟨⟨i, v, qs⟩, ⟨hi0, hi1, hi2, hi3⟩⟩; try dsimp only
     have hi0 : i ≤ hs.length := hi0; have hi1 : SV v i := hi1; have hi2 : qs.length = i := hi2; have hi3 : ∀ j, j < i → Hop.eqv (hs.getD j Hop.z) (qs.getD j Hop.z) := hi3
     refine wpc_seq <| wpc_region <| wpl_q (q_pure rfl) rfl <| wpl_nil <| ex_then <| wpc_seq ?_
     refine wpc_cond rfl (fun hc40 => ?_) (fun hc40 => ?_)
     ·
      simp only [decide_eq_true_eq] at hc40
      have hil : i < hs.length := by omega
      have hsi : ((hs.getD i Hop.z)).seen w.cell? := hpp.2 _ (getD_memO hil)
      haveI := hsi.sv.one
      have hlm : (hs.getD i Hop.z).chs.length ≤ 100 ∧ (hs.getD i Hop.z).ps.length ≤ 100 := hlim _ (getD_memO hil)
      refine wpc_skip <| ex_then <| wpc_seq <| wpc_block <| wpc_seq <| wpc_region ?_
      refine wpl_q (q_idxW Tryd.underlying27 Tryd.ti68 rfl rfl zz4 zz2) rfl ?_
      refine wpl_q (q_ldWN Tryd.underlying68 rfl Tryd.ti68 rfl (fun w h => h.seen_old hh) (hs.getD i Hop.z).c (cat_part Hop.c_length Hop.z hil) (Hop.c_length _)) rfl ?_
      refine wpl_t (t_alloc Tryd.ti68 Hop.z.c rfl) rfl (fun b16 => ?_)
      refine wpl_t0 (t_stA Tryd.ti68 rfl rfl LenC.h OneC.h LenC.h) (fun _ => ?_)
      refine wpl_nil <| ex_then ?_
      refine wpc_draw 5 zz5 (fun _ h => h.drew) ?_
      refine wpd_p 0 rfl zz5 trivial (q_field Tryd.underlying29 rfl Tryd.ti27 rfl rfl _ rfl) rfl sk0 ?_
      refine wpd_q 1 rfl zz5 trivial (q_ld Tryd.underlying27 rfl rfl rfl) rfl (fun _ h => h) ?_
      refine wpd_qB 2 [3, 4, 5] rfl zz5 trivial (q_ldN Tryd.underlying68 rfl Tryd.ti68 rfl LenC.h) rfl (fun _ h => h) ?_
      refine wpd_tp 3 rfl zz5 trivial (t_callP2 Tryd.hb79 rfl fun w h => twin (hs.getD i Hop.z) w (hsi.old h) zz13 zz13) rfl (fun _ => (fun w h => .inr (h.sub SubC.h SubC.h))) (fun b46 p46 => ?_)
      haveI : OneC (((hs.getD i Hop.z).re b46)).c := Hop.sv.one ⟨p46.1, p46.2⟩
      refine wpd_tp 4 rfl zz5 trivial (t_bsG [.agg ((hs.getD i Hop.z).re b46).c.toArray] ((hs.getD i Hop.z).re b46).c Tryd.underlying27 Tryd.ti68 rfl zz17 rfl zz17 zz17 rfl (by intro v hv; rw [List.mem_singleton] at hv; subst hv; exact Hop.c_length _) (List.append_nil _)) rfl (fun _ => (fun w h => .inr (h.sub SubC.h SubC.h))) (fun b47 p47 => ?_)
      refine wpd_tp 5 rfl zz5 trivial (t_apW Tryd.underlying27 Tryd.ti68 rfl zz17 rfl rfl (fun w h => zz9) OneC.h zz2 zz2 (hcs (qs ++ [((hs.getD i Hop.z).re b46)])) (hcs_snoc _ _)) rfl (fun _ => skk rfl) (fun b48 p48 => ?_)
      refine wpd_p 6 rfl zz5 trivial (q_field Tryd.underlying29 rfl Tryd.ti27 rfl rfl _ rfl) rfl (skk rfl) ?_
      refine wpd_t0 7 rfl zz5 trivial (t_st1 Tryd.ti27 rfl rfl (SV.one zz4) zz7 [.int .u8 (pf.toNat : Int), .int .u64 (pa.toNat : Int), .int .u64 (pb.toNat : Int), .int .i64 pl, b48] rfl) (fun _ => skk rfl) (fun _ => ?_)
      refine wpd_done zz5 ?_
      refine ex_block <| ex_then <| wpc_region ?_
      refine wpl_q (q_addN (b := 1) rfl rfl zz2) rfl ?_
      refine wpl_q (q_pure rfl) rfl <| wpl_nil ?_
      refine ex_again ⟨(i + 1, b48, qs ++ [((hs.getD i Hop.z).re b46)]), ⟨zz41, p48, by show (qs ++ [((hs.getD i Hop.z).re b46)]).length = i + 1; rw [List.length_append, hi2]; rfl, fun j hj => by
        dsimp only
        rcases Nat.lt_or_ge j i with h | h
        · rw [getD_left hi2 h]; exact hi3 j h
        · obtain rfl : j = i := (by have hj : j < i + 1 := hj; omega)
          rw [getD_app hi2]; exact eqv_re _ _⟩⟩ ?_ ?_ ?_
      ·
       exact zz10
      ·
       exact fun w h => by
         have h1 := h.sel (M' := .row b46.1 (hs.getD i Hop.z).chs.length 61 16 (v8s (hs.getD i Hop.z).chs.flatten) :: .row b46.2 (hs.getD i Hop.z).ps.length 61 16 (v8s (hs.getD i Hop.z).ps.flatten) :: [.row b48 (i + 1) 68 24 (hcs (qs ++ [((hs.getD i Hop.z).re b46)])), .blk b14 29 [.int .u8 (pf.toNat : Int), .int .u64 (pa.toNat : Int), .int .u64 (pb.toNat : Int), .int .i64 pl, b48], .blk b12 63 (v8s (keyR s.1 ht) ++ [Value.int .i64 (keyH ht)]), .blk b10 29 Pth.z.c, .blk b7 61 (v8s s.1), .blk b6 68 hp.c, .blk b5 29 [.int .u8 (pf.toNat : Int), .int .u64 (pa.toNat : Int), .int .u64 (pb.toNat : Int), .int .i64 pl, hv]])
         have h2 := (h1.freezeRow .here).freezeRow .here
         exact h2.imp fun r hr t ht => by
           rw [List.mem_singleton] at ht
           subst ht
           exact twin_fact (hr (hopsF qs) zz40) (hr (Go.PL.seen b46.1 (hs.getD i Hop.z).chs.length 16 (v8s (hs.getD i Hop.z).chs.flatten)) zz40) (hr (Go.PL.seen b46.2 (hs.getD i Hop.z).ps.length 16 (v8s (hs.getD i Hop.z).ps.flatten)) zz40) hsi.2.1 hsi.2.2.2
      ·
       (show hs.length - (i + 1) < hs.length - i); omega
     ·
      simp only [decide_eq_false_iff_not] at hc40
      obtain rfl : i = hs.length := by omega
      have svv := hi1
      refine wpc_exit ?_
      refine ex_then_exit ?_
      refine ex_then_exit ?_
      refine ex_block_hit ?_
      refine ex_then <| wpc_seq <| wpc_region <| wpl_q (q_ldN Tryd.underlying63 rfl Tryd.ti63 rfl LenC.h) rfl ?_
      refine wpl_q (q_build (cs := [.int .i64 0, .slice none 0 0, .slice none 0 0]) rfl built_sz) rfl ?_
      refine wpl_q (q_field Tryd.underlying68 rfl Tryd.ti63 rfl rfl _ rfl) rfl ?_
      refine wpl_t0 (t_stP Tryd.ti63 rfl rfl zz0 (key_ro s ht) (by rw [key_rl, Hop.c_length]; decide) _ Hop.setkey) (fun _ => ?_)
      refine wpl_q (q_field Tryd.underlying68 rfl Tryd.ti66 rfl rfl _ rfl) rfl ?_
      refine wpl_t0 (t_stP Tryd.ti66 rfl rfl zz0 zz3 (by rw [Hop.c_length]; exact Nat.le_refl _) (newH hp s ht).c (Hop.c_setsig _ _ _ _ _ _)) (fun _ => ?_)
      refine wpl_nil <| ex_then <| wpc_seq <| wpc_region <| wpl_q (q_field Tryd.underlying29 rfl Tryd.ti27 rfl rfl _ rfl) rfl <| wpl_q (q_ld Tryd.underlying27 rfl rfl rfl) rfl <| wpl_q (q_ldN Tryd.underlying68 rfl Tryd.ti68 rfl LenC.h) rfl ?_
      refine wpl_tp (t_bsG [.agg (newH hp s ht).c.toArray] (newH hp s ht).c Tryd.underlying27 Tryd.ti68 rfl zz17 rfl zz17 zz17 rfl (by intro v hv; rw [List.mem_singleton] at hv; subst hv; exact Hop.c_length _) (List.append_nil _)) rfl (fun b58 p58 => ?_)
      refine wpl_tp (t_apW Tryd.underlying27 Tryd.ti68 rfl zz17 rfl rfl (fun w h => zz9) OneC.h zz2 zz2 (hcs (qs ++ [(newH hp s ht)])) (hcs_snoc _ _)) rfl (fun b59 p59 => ?_)
      refine wpl_q (q_field Tryd.underlying29 rfl Tryd.ti27 rfl rfl _ rfl) rfl ?_
      refine wpl_t0 (t_st1 Tryd.ti27 rfl rfl (SV.one zz4) zz7 [.int .u8 (pf.toNat : Int), .int .u64 (pa.toNat : Int), .int .u64 (pb.toNat : Int), .int .i64 pl, b59] rfl) (fun _ => ?_)
      refine wpl_nil <| ex_then <| wpc_seq <| wpc_region <| wpl_q (q_field Tryd.underlying29 rfl Tryd.ti27 rfl rfl _ rfl) rfl <| wpl_q (q_ld Tryd.underlying27 rfl rfl rfl) rfl ?_
      refine wpl_q (q_lenW Tryd.underlying27 rfl zz4) rfl ?_
      refine wpl_q (q_subN (b := 1) rfl rfl zz13 zz2) rfl ?_
      refine wpl_q (q_pure rfl) rfl <| wpl_nil <| ex_then <| wpc_seq ?_
      have hqe := newO_eqv (p := ⟨pf, pa, pb, pl, hv, hs⟩) (h := hp) (s := s) (ht := ht) (v := b59) hi2 hi3
      have hme : msgB (Pth.mk pf pa pb pl b59 (qs ++ [(newH hp s ht)])) hs.length = (sgM ⟨pf, pa, pb, pl, hv, hs⟩ hp s ht) := (msgB_eqv hqe (show hs.length < (hs ++ [(newH hp s ht)]).length by rw [List.length_append]; exact Nat.lt_succ_self _)).symm
      have hsm : SmP (Pth.mk pf pa pb pl b59 (qs ++ [(newH hp s ht)])) := so_small hi2 hi3 hlim
      have hjn : hs.length < (qs ++ [(newH hp s ht)]).length := by rw [List.length_append, hi2]; exact Nat.lt_succ_self _
      refine wpc_draw 11 zz5 (fun _ h => h.drew) ?_
      refine wpd_q 0 rfl zz5 trivial (q_ldN Tryd.underlying61 rfl Tryd.ti61 rfl LenC.h) rfl (fun _ h => h) ?_
      refine wpd_p 1 rfl zz5 trivial (q_pure rfl) rfl sk0 ?_
      refine wpd_p 2 rfl zz5 trivial (q_pure rfl) rfl sk0 ?_
      refine wpd_q 3 rfl zz5 trivial (q_ldN Tryd.underlying29 rfl Tryd.ti29 rfl LenC.h) rfl (fun _ h => h) ?_
      refine wpd_p 4 rfl zz5 trivial (q_pure rfl) rfl sk0 ?_
      refine wpd_two 5 10 zz5 ?_ ?_
      ·
       refine wpa_tp 5 rfl trivial (t_callP1 Tryd.hb38 rfl fun w h => by
         have q := message_ (Pth.mk pf pa pb pl b59 (qs ++ [(newH hp s ht)])) hs.length w (so_seen hi2 (h.seen_row zz6) (hopsF_at h zz6)) hjn hsm (glob h hG)
         rw [hme] at q
         exact q) rfl (fun _ => (fun w h => .inr (h.sub SubC.h SubC.h))) (fun b71 p71 => ?_)
       refine wpd_two 6 10 zz5 ?_ ?_
       ·
        refine wpa_tp 6 rfl trivial (t_callP2 Tryd.hb80 rfl fun w h => sign7 s.1 ht idx b71 (sgM ⟨pf, pa, pb, pl, hv, hs⟩ hp s ht) w s.2 (h.seen_row zz6) (glob h hG)) rfl (fun _ => (fun w h => .inr (h.sub SubC.h SubC.h))) (fun b72 p72 => ?_)
        refine wpd_p 7 rfl zz5 trivial (q_pure rfl) rfl (fun w h => .inr (h.sub SubC.h SubC.h)) ?_
        refine wpd_p 8 rfl zz5 trivial (q_pure rfl) rfl (fun w h => .inr (h.sub SubC.h SubC.h)) ?_
        refine wpd_p 9 rfl zz5 trivial (q_pure rfl) rfl (fun w h => .inr (h.sub SubC.h SubC.h)) ?_
        refine wpd_t 10 rfl zz5 trivial (t_alloc Tryd.ti66 [.int .i64 0, .slice none 0 0, .slice none 0 0] rfl) rfl (fun _ => (fun w h => .inr (h.sub SubC.h SubC.h))) (fun b18 => ?_)
        refine wpd_t0 11 rfl zz5 trivial (t_stA Tryd.ti66 rfl rfl rfl (OneC.cons rfl (OneC.cons (SV.one p72.1) (OneC.cons (SV.one p72.2) oneC_nil))).h rfl) (fun _ => skk rfl) (fun _ => ?_)
        refine wpd_p 12 rfl zz5 trivial (q_pure rfl) rfl (skk rfl) ?_
        refine wpd_done zz5 ?_
        refine ex_then <| wpc_seq <| wpc_seq <| wpc_region <| wpl_q (q_pure rfl) rfl <| wpl_q (q_pure rfl) rfl <| wpl_nil <| ex_then ?_
        refine wpc_cond rfl (fun hc76 => ?_) (fun hc76 => ?_)
        ·
         have hse : sigE ht idx ≠ 0 := by simpa using hc76
         have hV := hES
         have hE0 : sgE hp ht idx ≠ 0 := by rw [hV]; exact hse
         refine wpc_seq <| wpc_region ?_
         refine wpl_q (q_build (cs := Pth.z.c) rfl built_pz) rfl ?_
         refine wpl_q (q_pure rfl) rfl ?_
         refine wpl_t0 (t_stA Tryd.ti29 rfl rfl LenC.h OneC.h LenC.h) (fun _ => ?_)
         refine wpl_q (q_pure rfl) rfl <| wpl_nil <| ex_then <| wpc_ret ?_
         refine ex_then_ret ?_
         refine retv2 (.inl rfl) rfl (rv_agg Tryd.underlying29 rfl Tryd.ti29 rfl (fun w h => h.atB) zz0) (rv_tmp rfl) ?_
         exact fun w1 h => ⟨(.slice none 0 0, []), ⟨by rw [sgP_no hE0]; exact SV.nil, zz47⟩, by rw [sgP_no hE0, hV]; rfl, h.below, sg_err h hE0⟩
        ·
         have hse : sigE ht idx = 0 := by simpa using hc76
         have hE0 : sgE hp ht idx = 0 := hES.trans hse
         refine wpc_skip <| ex_then <| wpc_seq <| wpc_region <| wpl_q (q_field Tryd.underlying29 rfl Tryd.ti27 rfl rfl _ rfl) rfl <| wpl_q (q_ld Tryd.underlying27 rfl rfl rfl) rfl <| wpl_q (q_pure rfl) rfl <| wpl_q (q_ldN Tryd.underlying66 rfl Tryd.ti66 rfl LenC.h) rfl ?_
         refine wpl_q (q_idxW Tryd.underlying27 Tryd.ti68 rfl rfl zz4 zz2) rfl ?_
         refine wpl_q (q_fieldPo 21 Tryd.underlying68 rfl Tryd.ti66 rfl rfl rfl) rfl ?_
         refine wpl_t0 (t_stWFN (j := hs.length * 24) (k := 21) (vs := [.int .i64 (sigI ht idx), b72.1, b72.2]) Tryd.ti66 rfl rfl rfl rfl (OneC.cons rfl (OneC.cons (SV.one p72.1) (OneC.cons (SV.one p72.2) oneC_nil))).h zz45 (by rw [hcs, cat_len Hop.c_length, List.length_append]; simp) (hcs (qs ++ [(newS ⟨pf, pa, pb, pl, hv, hs⟩ hp s ht idx b72)])) (hcs_setsig hi2 _ _ _ _ _)) (fun _ => ?_)
         refine wpl_nil <| ex_then <| wpc_seq ?_
         haveI : OneC [.int .u8 (pf.toNat : Int), .int .u64 (pa.toNat : Int), .int .u64 (pb.toNat : Int), .int .i64 pl, b59] := Pth.sv.one (p := ⟨pf, pa, pb, pl, b59, qs ++ [(newH hp s ht)]⟩) (by show SV b59 (qs ++ [(newH hp s ht)]).length; rw [List.length_append, hi2]; exact p59)
         refine wpc_region <| wpl_q (q_ldN Tryd.underlying29 rfl Tryd.ti29 rfl LenC.h) rfl ?_
         refine wpl_t0 (t_stA Tryd.ti29 rfl rfl LenC.h OneC.h LenC.h) (fun _ => ?_)
         refine wpl_q (q_pure rfl) rfl <| wpl_nil <| ex_then <| wpc_ret ?_
         refine retv2 (.inl rfl) rfl (rv_agg Tryd.underlying29 rfl Tryd.ti29 rfl (fun w h => h.atB) zz0) (rv_tmp rfl) ?_
         exact fun w1 h => ⟨(b59, qs ++ [(newS ⟨pf, pa, pb, pl, hv, hs⟩ hp s ht idx b72)]), ⟨by rw [sgP_ok hE0]; show SV b59 (hs ++ [_]).length; rw [List.length_append]; exact p59, by rw [sgP_ok hE0]; exact newS_eqv (p := ⟨pf, pa, pb, pl, hv, hs⟩) hi2 hi3⟩, by rw [sgP_ok hE0, hE0]; rfl, h.below, sg_made (M := []) (v := b59) (n := hs.length) (p := ⟨pf, pa, pb, pl, hv, hs⟩) rfl hE0 h.sel⟩
       ·
        refine wpa_t 10 rfl trivial (t_alloc Tryd.ti66 [.int .i64 0, .slice none 0 0, .slice none 0 0] rfl) rfl (fun _ => (fun w h => .inr (h.sub SubC.h SubC.h))) (fun b18 => ?_)
        refine wpd_tp 6 rfl zz5 trivial (t_callP2 Tryd.hb80 rfl fun w h => sign7 s.1 ht idx b71 (sgM ⟨pf, pa, pb, pl, hv, hs⟩ hp s ht) w s.2 (h.seen_row zz6) (glob h hG)) rfl (fun _ => (fun w h => .inr (h.sub SubC.h SubC.h))) (fun b72 p72 => ?_)
        refine wpd_p 7 rfl zz5 trivial (q_pure rfl) rfl (fun w h => .inr (h.sub SubC.h SubC.h)) ?_
        refine wpd_p 8 rfl zz5 trivial (q_pure rfl) rfl (fun w h => .inr (h.sub SubC.h SubC.h)) ?_
        refine wpd_p 9 rfl zz5 trivial (q_pure rfl) rfl (fun w h => .inr (h.sub SubC.h SubC.h)) ?_
        refine wpd_t0 11 rfl zz5 trivial (t_stA Tryd.ti66 rfl rfl rfl (OneC.cons rfl (OneC.cons (SV.one p72.1) (OneC.cons (SV.one p72.2) oneC_nil))).h rfl) (fun _ => skk rfl) (fun _ => ?_)
        refine wpd_p 12 rfl zz5 trivial (q_pure rfl) rfl (skk rfl) ?_
        refine wpd_done zz5 ?_
        refine ex_then <| wpc_seq <| wpc_seq <| wpc_region <| wpl_q (q_pure rfl) rfl <| wpl_q (q_pure rfl) rfl <| wpl_nil <| ex_then ?_
        refine wpc_cond rfl (fun hc76 => ?_) (fun hc76 => ?_)
        ·
         have hse : sigE ht idx ≠ 0 := by simpa using hc76
         have hV := hES
         have hE0 : sgE hp ht idx ≠ 0 := by rw [hV]; exact hse
         refine wpc_seq <| wpc_region ?_
         refine wpl_q (q_build (cs := Pth.z.c) rfl built_pz) rfl ?_
         refine wpl_q (q_pure rfl) rfl ?_
         refine wpl_t0 (t_stA Tryd.ti29 rfl rfl LenC.h OneC.h LenC.h) (fun _ => ?_)
         refine wpl_q (q_pure rfl) rfl <| wpl_nil <| ex_then <| wpc_ret ?_
         refine ex_then_ret ?_
         refine retv2 (.inl rfl) rfl (rv_agg Tryd.underlying29 rfl Tryd.ti29 rfl (fun w h => h.atB) zz0) (rv_tmp rfl) ?_
         exact fun w1 h => ⟨(.slice none 0 0, []), ⟨by rw [sgP_no hE0]; exact SV.nil, zz47⟩, by rw [sgP_no hE0, hV]; rfl, h.below, sg_err h hE0⟩
        ·
         have hse : sigE ht idx = 0 := by simpa using hc76
         have hE0 : sgE hp ht idx = 0 := hES.trans hse
         refine wpc_skip <| ex_then <| wpc_seq <| wpc_region <| wpl_q (q_field Tryd.underlying29 rfl Tryd.ti27 rfl rfl _ rfl) rfl <| wpl_q (q_ld Tryd.underlying27 rfl rfl rfl) rfl <| wpl_q (q_pure rfl) rfl <| wpl_q (q_ldN Tryd.underlying66 rfl Tryd.ti66 rfl LenC.h) rfl ?_
         refine wpl_q (q_idxW Tryd.underlying27 Tryd.ti68 rfl rfl zz4 zz2) rfl ?_
         refine wpl_q (q_fieldPo 21 Tryd.underlying68 rfl Tryd.ti66 rfl rfl rfl) rfl ?_
         refine wpl_t0 (t_stWFN (j := hs.length * 24) (k := 21) (vs := [.int .i64 (sigI ht idx), b72.1, b72.2]) Tryd.ti66 rfl rfl rfl rfl (OneC.cons rfl (OneC.cons (SV.one p72.1) (OneC.cons (SV.one p72.2) oneC_nil))).h zz45 (by rw [hcs, cat_len Hop.c_length, List.length_append]; simp) (hcs (qs ++ [(newS ⟨pf, pa, pb, pl, hv, hs⟩ hp s ht idx b72)])) (hcs_setsig hi2 _ _ _ _ _)) (fun _ => ?_)
         refine wpl_nil <| ex_then <| wpc_seq ?_
         haveI : OneC [.int .u8 (pf.toNat : Int), .int .u64 (pa.toNat : Int), .int .u64 (pb.toNat : Int), .int .i64 pl, b59] := Pth.sv.one (p := ⟨pf, pa, pb, pl, b59, qs ++ [(newH hp s ht)]⟩) (by show SV b59 (qs ++ [(newH hp s ht)]).length; rw [List.length_append, hi2]; exact p59)
         refine wpc_region <| wpl_q (q_ldN Tryd.underlying29 rfl Tryd.ti29 rfl LenC.h) rfl ?_
         refine wpl_t0 (t_stA Tryd.ti29 rfl rfl LenC.h OneC.h LenC.h) (fun _ => ?_)
         refine wpl_q (q_pure rfl) rfl <| wpl_nil <| ex_then <| wpc_ret ?_
         refine retv2 (.inl rfl) rfl (rv_agg Tryd.underlying29 rfl Tryd.ti29 rfl (fun w h => h.atB) zz0) (rv_tmp rfl) ?_
         exact fun w1 h => ⟨(b59, qs ++ [(newS ⟨pf, pa, pb, pl, hv, hs⟩ hp s ht idx b72)]), ⟨by rw [sgP_ok hE0]; show SV b59 (hs ++ [_]).length; rw [List.length_append]; exact p59, by rw [sgP_ok hE0]; exact newS_eqv (p := ⟨pf, pa, pb, pl, hv, hs⟩) hi2 hi3⟩, by rw [sgP_ok hE0, hE0]; rfl, h.below, sg_made (M := []) (v := b59) (n := hs.length) (p := ⟨pf, pa, pb, pl, hv, hs⟩) rfl hE0 h.sel⟩
      ·
       refine wpa_t 10 rfl trivial (t_alloc Tryd.ti66 [.int .i64 0, .slice none 0 0, .slice none 0 0] rfl) rfl (fun _ => (fun w h => .inr (h.sub SubC.h SubC.h))) (fun b18 => ?_)
       refine wpd_tp 5 rfl zz5 trivial (t_callP1 Tryd.hb38 rfl fun w h => by
         have q := message_ (Pth.mk pf pa pb pl b59 (qs ++ [(newH hp s ht)])) hs.length w (so_seen hi2 (h.seen_row zz6) (hopsF_at h zz6)) hjn hsm (glob h hG)
         rw [hme] at q
         exact q) rfl (fun _ => (fun w h => .inr (h.sub SubC.h SubC.h))) (fun b71 p71 => ?_)
       refine wpd_tp 6 rfl zz5 trivial (t_callP2 Tryd.hb80 rfl fun w h => sign7 s.1 ht idx b71 (sgM ⟨pf, pa, pb, pl, hv, hs⟩ hp s ht) w s.2 (h.seen_row zz6) (glob h hG)) rfl (fun _ => (fun w h => .inr (h.sub SubC.h SubC.h))) (fun b72 p72 => ?_)
       refine wpd_p 7 rfl zz5 trivial (q_pure rfl) rfl (fun w h => .inr (h.sub SubC.h SubC.h)) ?_
       refine wpd_p 8 rfl zz5 trivial (q_pure rfl) rfl (fun w h => .inr (h.sub SubC.h SubC.h)) ?_
       refine wpd_p 9 rfl zz5 trivial (q_pure rfl) rfl (fun w h => .inr (h.sub SubC.h SubC.h)) ?_
       refine wpd_t0 11 rfl zz5 trivial (t_stA Tryd.ti66 rfl rfl rfl (OneC.cons rfl (OneC.cons (SV.one p72.1) (OneC.cons (SV.one p72.2) oneC_nil))).h rfl) (fun _ => skk rfl) (fun _ => ?_)
       refine wpd_p 12 rfl zz5 trivial (q_pure rfl) rfl (skk rfl) ?_
       refine wpd_done zz5 ?_
       refine ex_then <| wpc_seq <| wpc_seq <| wpc_region <| wpl_q (q_pure rfl) rfl <| wpl_q (q_pure rfl) rfl <| wpl_nil <| ex_then ?_
       refine wpc_cond rfl (fun hc76 => ?_) (fun hc76 => ?_)
       ·
        have hse : sigE ht idx ≠ 0 := by simpa using hc76
        have hV := hES
        have hE0 : sgE hp ht idx ≠ 0 := by rw [hV]; exact hse
        refine wpc_seq <| wpc_region ?_
        refine wpl_q (q_build (cs := Pth.z.c) rfl built_pz) rfl ?_
        refine wpl_q (q_pure rfl) rfl ?_
        refine wpl_t0 (t_stA Tryd.ti29 rfl rfl LenC.h OneC.h LenC.h) (fun _ => ?_)
        refine wpl_q (q_pure rfl) rfl <| wpl_nil <| ex_then <| wpc_ret ?_
        refine ex_then_ret ?_
        refine retv2 (.inl rfl) rfl (rv_agg Tryd.underlying29 rfl Tryd.ti29 rfl (fun w h => h.atB) zz0) (rv_tmp rfl) ?_
        exact fun w1 h => ⟨(.slice none 0 0, []), ⟨by rw [sgP_no hE0]; exact SV.nil, zz47⟩, by rw [sgP_no hE0, hV]; rfl, h.below, sg_err h hE0⟩
       ·
        have hse : sigE ht idx = 0 := by simpa using hc76
        have hE0 : sgE hp ht idx = 0 := hES.trans hse
        refine wpc_skip <| ex_then <| wpc_seq <| wpc_region <| wpl_q (q_field Tryd.underlying29 rfl Tryd.ti27 rfl rfl _ rfl) rfl <| wpl_q (q_ld Tryd.underlying27 rfl rfl rfl) rfl <| wpl_q (q_pure rfl) rfl <| wpl_q (q_ldN Tryd.underlying66 rfl Tryd.ti66 rfl LenC.h) rfl ?_
        refine wpl_q (q_idxW Tryd.underlying27 Tryd.ti68 rfl rfl zz4 zz2) rfl ?_
        refine wpl_q (q_fieldPo 21 Tryd.underlying68 rfl Tryd.ti66 rfl rfl rfl) rfl ?_
        refine wpl_t0 (t_stWFN (j := hs.length * 24) (k := 21) (vs := [.int .i64 (sigI ht idx), b72.1, b72.2]) Tryd.ti66 rfl rfl rfl rfl (OneC.cons rfl (OneC.cons (SV.one p72.1) (OneC.cons (SV.one p72.2) oneC_nil))).h zz45 (by rw [hcs, cat_len Hop.c_length, List.length_append]; simp) (hcs (qs ++ [(newS ⟨pf, pa, pb, pl, hv, hs⟩ hp s ht idx b72)])) (hcs_setsig hi2 _ _ _ _ _)) (fun _ => ?_)
        refine wpl_nil <| ex_then <| wpc_seq ?_
        haveI : OneC [.int .u8 (pf.toNat : Int), .int .u64 (pa.toNat : Int), .int .u64 (pb.toNat : Int), .int .i64 pl, b59] := Pth.sv.one (p := ⟨pf, pa, pb, pl, b59, qs ++ [(newH hp s ht)]⟩) (by show SV b59 (qs ++ [(newH hp s ht)]).length; rw [List.length_append, hi2]; exact p59)
        refine wpc_region <| wpl_q (q_ldN Tryd.underlying29 rfl Tryd.ti29 rfl LenC.h) rfl ?_
        refine wpl_t0 (t_stA Tryd.ti29 rfl rfl LenC.h OneC.h LenC.h) (fun _ => ?_)
        refine wpl_q (q_pure rfl) rfl <| wpl_nil <| ex_then <| wpc_ret ?_
        refine retv2 (.inl rfl) rfl (rv_agg Tryd.underlying29 rfl Tryd.ti29 rfl (fun w h => h.atB) zz0) (rv_tmp rfl) ?_
        exact fun w1 h => ⟨(b59, qs ++ [(newS ⟨pf, pa, pb, pl, hv, hs⟩ hp s ht idx b72)]), ⟨by rw [sgP_ok hE0]; show SV b59 (hs ++ [_]).length; rw [List.length_append]; exact p59, by rw [sgP_ok hE0]; exact newS_eqv (p := ⟨pf, pa, pb, pl, hv, hs⟩) hi2 hi3⟩, by rw [sgP_ok hE0, hE0]; rfl, h.below, sg_made (M := []) (v := b59) (n := hs.length) (p := ⟨pf, pa, pb, pl, hv, hs⟩) rfl hE0 h.sel⟩
end Go.Proofs.YtjpfhkjmjnjggaaDoor
namespace Go.Proofs.YtjpfhkjmjnjggaaDoor
open Go Go.PL Go.RowKit
instance lenC_pth2 {p : Pth} : LenC p.c 5 := ⟨rfl⟩
end Go.Proofs.YtjpfhkjmjnjggaaDoor
namespace Go.Proofs.YtjpfhkjmjnjggaaDoor
open Go Go.PL Go.RowKit
instance lenC_pfL {f : UInt8} {a b : UInt64} {l : Int} : LenC (pfL f a b l) 4 := ⟨rfl⟩
instance oneC_pfL {f : UInt8} {a b : UInt64} {l : Int} : OneC (pfL f a b l) := OneC.cons rfl (OneC.cons rfl (OneC.cons rfl (OneC.cons rfl oneC_nil)))
theorem reP_seen {q : Pth} {x : Value × List Hop} {r : Rd} (h : HsEqv q.hs x.2) (h1 : Seen r x.1 q.hs.length 24 (hcs x.2)) (h2 : ∀ y ∈ x.2, y.seen r) : (reP q x).seen r := ⟨by
  show Seen r x.1 x.2.length 24 (hcs x.2)
  rw [← h.1]; exact h1, h2⟩
theorem reP_one {q : Pth} {x : Value × List Hop} (h : SV x.1 q.hs.length) : OneC (reP q x).c := OneC.cons rfl (OneC.cons rfl (OneC.cons rfl (OneC.cons rfl (OneC.cons (SV.one h) oneC_nil))))
theorem er_made {w0 w : World} {M : List Ent} {S : List Fact} (hm : Mem w0 [] M S w) : New w0.heap.size [.row (.slice none 0 0) Pth.z.hs.length 68 24 (hcs [])] [hopsF []] w := by
  have h1 : Mem w0 [] (.row (.slice none 0 0) 0 68 24 [] :: M) [hopsF []] w := Mem.imp (hm.nilRow 68 24) (fun r _ t ht => by rw [List.mem_singleton] at ht; subst ht; exact fun q hq => by cases hq)
  exact h1.made (.keep .nil) (Sub.refl _)
abbrev P0 (f : UInt8) (a b : UInt64) (l : Int) : Pth := ⟨f, a, b, l, .slice none 0 0, []⟩
theorem p0_seen {f : UInt8} {a b : UInt64} {l : Int} (r : Rd) : (P0 f a b l).seen r := ⟨seen_nil _ _, fun h hh => by cases hh⟩
def stE (f : UInt8) (a b : UInt64) (l : Int) (h : Hop) (ht idx : Int) : Int := if pfxF f a b l ≠ 0 then pfxF f a b l else sgE h ht idx
def stP (f : UInt8) (a b : UInt64) (l : Int) (h : Hop) (s : S16) (ht idx : Int) : Pth := if pfxF f a b l ≠ 0 then Pth.z else sgP (P0 f a b l) h s ht idx
theorem stE_no {f : UInt8} {a b : UInt64} {l : Int} {h : Hop} {ht idx : Int} (k : pfxF f a b l ≠ 0) : stE f a b l h ht idx = pfxF f a b l := if_pos k
theorem stE_ok {f : UInt8} {a b : UInt64} {l : Int} {h : Hop} {ht idx : Int} (k : ¬ pfxF f a b l ≠ 0) : stE f a b l h ht idx = sgE h ht idx := if_neg k
theorem stP_no {f : UInt8} {a b : UInt64} {l : Int} {h : Hop} {s : S16} {ht idx : Int} (k : pfxF f a b l ≠ 0) : stP f a b l h s ht idx = Pth.z := if_pos k
theorem stP_ok {f : UInt8} {a b : UInt64} {l : Int} {h : Hop} {s : S16} {ht idx : Int} (k : ¬ pfxF f a b l ≠ 0) : stP f a b l h s ht idx = sgP (P0 f a b l) h s ht idx := if_neg k
def Hop.wa (h : Hop) (x : UInt32) : Hop := { h with sy := x }
def lastTo (p : Pth) : UInt32 := (p.hs.getD (p.hs.length - 1) Hop.z).to
def exK (p : Pth) : Int := if chkP p ≠ 0 then chkP p else if p.hs.length = 30 then 4 else 0
def exE (p : Pth) (h : Hop) (ht idx : Int) : Int := if exK p ≠ 0 then exK p else sgE (h.wa (lastTo p)) ht idx
def exP (p : Pth) (h : Hop) (s : S16) (ht idx : Int) : Pth := if exK p ≠ 0 then Pth.z else sgP p (h.wa (lastTo p)) s ht idx
theorem exE_no {p : Pth} {h : Hop} {ht idx : Int} (k : exK p ≠ 0) : exE p h ht idx = exK p := if_pos k
theorem exE_ok {p : Pth} {h : Hop} {ht idx : Int} (k : exK p = 0) : exE p h ht idx = sgE (h.wa (lastTo p)) ht idx := if_neg (by simp [k])
theorem exP_no {p : Pth} {h : Hop} {s : S16} {ht idx : Int} (k : exK p ≠ 0) : exP p h s ht idx = Pth.z := if_pos k
theorem exP_ok {p : Pth} {h : Hop} {s : S16} {ht idx : Int} (k : exK p = 0) : exP p h s ht idx = sgP p (h.wa (lastTo p)) s ht idx := if_neg (by simp [k])
theorem exK_chk {p : Pth} (h : chkP p ≠ 0) : exK p = chkP p := if_pos h
theorem exK_many {p : Pth} (h : chkP p = 0) (h2 : p.hs.length = 30) : exK p = 4 := (if_neg (by simp [h])).trans (if_pos h2)
theorem exK_ok {p : Pth} (h : chkP p = 0) (h2 : ¬ p.hs.length = 30) : exK p = 0 := (if_neg (by simp [h])).trans (if_neg h2)
end Go.Proofs.YtjpfhkjmjnjggaaDoor
namespace Go.Proofs.YtjpfhkjmjnjggaaDoor
open Go Go.PL Go.RowKit
theorem climb_add (x : List UInt8) (i f n : Nat) : ∀ m, climbF (climbF x i f n) i (f + n) m = climbF x i f (n + m)
  | 0 => rfl
  | m + 1 => by rw [climbF, climb_add x i f n m, ← Nat.add_assoc, climbF, Nat.add_assoc]
theorem chain_up (s : List UInt8) (i a b : Nat) (h : a ≤ b) : climbF (chainF s i a) i a (b - a) = chainF s i b := by
  have := climb_add (beginF s i) i 0 a (b - a)
  rw [Nat.zero_add, show a + (b - a) = b from zz13] at this
  exact this
theorem sg_get (s m : List UInt8) (n i : Nat) (h : i < n) : (sg s m n).getD i [] = chainF s i (dig m i) := by
  rw [sg, List.getD_eq_getElem?_getD, List.getElem?_map, List.getElem?_eq_getElem (by simpa using h)]; simp
theorem rec_signE (s m : List UInt8) (n : Nat) (i : Nat) (hi : i < n) (q : Nat) (hq : dig m i ≤ q) : climbF ((sg s m n).getD i []) i (dig m i) (q - dig m i) = chainF s i q := by
  rw [sg_get s m n i hi, chain_up s i _ _ hq]
theorem rec_acc (s m : List UInt8) (n q : Nat) (hq : ∀ i, dig m i ≤ q) : accF (fun i => climbF ((sg s m n).getD i []) i (dig m i) (q - dig m i)) n = accF (fun i => chainF s i q) n :=
  accF_congr _ _ n (fun i hi => rec_signE s m n i hi q (hq i)) n (Nat.le_refl _)
theorem recE_eq (m : List UInt8) (chs : List (List UInt8)) : recE m chs = fun i => climbF (chs.getD i []) i (dig m i) (15 - dig m i) := rfl
theorem rec_sign (s m : List UInt8) : recF m (signF s m) = publicF s := by
  have h1 : recF m (signF s m) = shortF (accF (recE m (signF s m)) 35) := if_pos (signF_length s m)
  rw [h1, recE_eq]
  exact congrArg shortF (rec_acc s m 35 15 (dig_le m))
theorem upF_path (s : List UInt8) (q m : Nat) : ∀ i, i ≤ m → upF (nodeF s 0 q) q (pathF s q m) i = nodeF s i (q / 2 ^ i)
  | 0, _ => by rw [upF, Nat.pow_zero, Nat.div_one]
  | i + 1, h => by
    have hg : (pathF s q m).getD i [] = nodeF s i ((q / 2 ^ i) ^^^ 1) := by
      rw [pathF, List.getD_eq_getElem?_getD, List.getElem?_map, List.getElem?_eq_getElem (by rw [List.length_range]; exact h)]; simp
    rw [upF, upF_path s q m i zz13, hg, show q / 2 ^ (i + 1) = q / 2 ^ i / 2 by rw [Nat.pow_succ, Nat.div_div_eq_div_mul]]
    generalize q / 2 ^ i = j
    rw [sib_eq, nodeF, stepU]
    by_cases hj : j % 2 = 1
    · rw [if_neg zz13, if_pos hj, show 2 * (j / 2) + 1 = j from zz13, show 2 * (j / 2) = j - 1 from zz13]
    · rw [if_pos zz13, if_neg hj, show 2 * (j / 2) = j from zz13]
theorem root_path (s : List UInt8) (q m : Nat) (bs : List UInt8) (hq : q < 2 ^ m) : upF (recF bs (signF (leafF s q) bs)) q (pathF s q m) m = nodeF s m 0 := by
  rw [rec_sign]
  have := upF_path s q m m (Nat.le_refl _)
  rw [Nat.div_eq_of_lt hq] at this
  exact this
theorem check_sign {s : List UInt8} {m q : Nat} {bs : List UInt8} (hm : m ≤ 4) (hq : q < 2 ^ m) : checkF m q (signF (leafF s q) bs).length (pathF s q m).length = 0 := by
  rw [signF_length, pathF_length]; exact check_0 zz13 ⟨zz13, zz13, rfl, rfl⟩
theorem root_sign {s : List UInt8} {m q : Nat} {bs : List UInt8} (hm : m ≤ 4) (hq : q < 2 ^ m) : rootF m q bs (signF (leafF s q) bs) (pathF s q m) = nodeF s m 0 := by
  have h : rootF m q bs (signF (leafF s q) bs) (pathF s q m) = upF (recF bs (signF (leafF s q) bs)) q (pathF s q m) (pathF s q m).length := if_pos (check_sign hm hq)
  rw [h, pathF_length]; exact root_path s q m bs hq
theorem keyR_in {s : List UInt8} {m : Nat} (hm : m ≤ 4) : keyR s m = nodeF s m 0 := if_pos ⟨zz13, zz13⟩
theorem sig_ver (s : List UInt8) {ht idx : Int} (bs : List UInt8) (h : okS ht idx) : checkF (keyH ht) (sigI ht idx) (sigC s ht idx bs).length (sigP s ht idx).length = 0 ∧ rootF (keyH ht) (sigI ht idx) bs (sigC s ht idx bs) (sigP s ht idx) = keyR s ht := by
  obtain ⟨m, rfl⟩ : ∃ m : Nat, ht = (m : Int) := ⟨ht.toNat, by have := h.1; omega⟩
  obtain ⟨q, rfl⟩ : ∃ q : Nat, idx = (q : Int) := ⟨idx.toNat, by have := h.2; omega⟩
  have hm : m ≤ 4 := by have := h.1; omega
  have hq : q < 2 ^ m := by have h2 := h.2.2; rw [Int.toNat_natCast] at h2; exact Int.ofNat_lt.1 h2
  have e1 : sigC s m q bs = signF (leafF s q) bs := by unfold sigC; rw [if_pos h, Int.toNat_natCast]
  have e2 : sigP s m q = pathF s q m := by unfold sigP; rw [if_pos h, Int.toNat_natCast, Int.toNat_natCast]
  have e3 : keyH m = m := if_pos h.1
  have e4 : sigI m q = q := if_pos h
  rw [e1, e2, e3, e4, keyR_in hm]
  exact ⟨check_sign hm hq, root_sign hm hq⟩
theorem sgE_inv {h : Hop} {ht idx : Int} (k : sgE h ht idx = 0) : ¬ 1 < h.fl.toNat ∧ okS ht idx := by
  unfold sgE at k
  split at k
  · cases k
  · rename_i h1
    refine ⟨h1, ?_⟩
    split at k
    · rename_i h2; exact absurd k h2
    · unfold sigE at k
      split at k
      · assumption
      · cases k
theorem restF_pre {p q : Pth} (h : p.pf = q.pf ∧ p.pa = q.pa ∧ p.pb = q.pb ∧ p.pl = q.pl) (n : Nat) (hj : ∀ j, j < n → Hop.eqv (p.hs.getD j Hop.z) (q.hs.getD j Hop.z)) : ∀ i, i ≤ n → restF p i = restF q i
  | 0, _ => by
    obtain ⟨h1, h2, h3, h4⟩ := h
    show rest0 p = rest0 q
    unfold rest0
    rw [h1, h2, h3, h4]
  | i + 1, hi => by
    have e := hj i zz13
    show sumF ((headB (p.hs.getD i Hop.z) ++ restF p i) ++ tailH (p.hs.getD i Hop.z)) = sumF ((headB (q.hs.getD i Hop.z) ++ restF q i) ++ tailH (q.hs.getD i Hop.z))
    rw [headB_eqv e, tailH_eqv e, restF_pre h n hj i zz13]
def Gd (p : Pth) : Prop := chkP p = 0 ∧ ∀ i, i < p.hs.length → verH (p.hs.getD i Hop.z) (msgB p i)
theorem badH_eqv {l k : List Hop} (h : HsEqv l k) {i : Nat} (hi : i < l.length) (hb : ¬ badH l i) : ¬ badH k i := by
  have e := h.2 i hi
  have e' := h.2 (i - 1) zz13
  obtain ⟨a1, a2, a3, a4, ⟨a5, a6⟩, a7, a8, a9⟩ := e
  unfold badH at hb ⊢
  rw [← a3, ← a6, ← a7, ← a8, ← a9, ← a1, ← e'.2.2.2.1]
  exact hb
theorem chk_mk {p : Pth} (h1 : p.hs.length ≤ 30) (h2 : pfxF p.pf p.pa p.pb p.pl = 0) (h3 : p.hs.length ≠ 0) (h4 : ∀ i, i < p.hs.length → ¬ badH p.hs i) : chkP p = 0 := by
  unfold chkP
  rw [if_neg zz13, if_neg (by simp [h2]), if_neg (by rintro (q | q); exact h3 q; exact q h4)]
theorem chk_eqv {p q : Pth} (h : p.eqv q) (k : chkP p = 0) : chkP q = 0 := by
  obtain ⟨c1, c2, c3, c4⟩ := chk_inv k
  obtain ⟨⟨a, b, c, d⟩, e⟩ := h
  exact chk_mk (by rw [← e.1]; omega) (by rw [← a, ← b, ← c, ← d]; exact c2) (by rw [← e.1]; exact c3) (fun i hi => badH_eqv e (by rw [e.1]; exact hi) (c4 i (by rw [e.1]; exact hi)))
theorem verH_eqv {a b : Hop} (h : a.eqv b) {bs : List UInt8} (k : verH a bs) : verH b bs := by
  obtain ⟨a1, a2, a3, a4, ⟨a5, a6⟩, a7, a8, a9⟩ := h
  unfold verH at k ⊢
  rw [← a6, ← a7, ← a8, ← a9, ← a5]
  exact k
theorem gd_eqv {p q : Pth} (h : p.eqv q) (k : Gd p) : Gd q := ⟨chk_eqv h k.1, fun i hi => by
  have hi' : i < p.hs.length := by rw [h.2.1]; exact hi
  rw [← msgB_eqv h hi']
  exact verH_eqv (h.2.2 i hi') (k.2 i hi')⟩
theorem Hop.eqv.rf (a : Hop) : a.eqv a := ⟨rfl, rfl, rfl, rfl, ⟨rfl, rfl⟩, rfl, rfl, rfl⟩
theorem sgP_get {p : Pth} {h : Hop} {s : S16} {ht idx : Int} (k : sgE h ht idx = 0) (j : Nat) (hj : j < p.hs.length) : (sgP p h s ht idx).hs.getD j Hop.z = p.hs.getD j Hop.z := by
  rw [sgP_ok k]
  exact getD_left rfl hj
theorem sgP_last {p : Pth} {h : Hop} {s : S16} {ht idx : Int} (k : sgE h ht idx = 0) : (sgP p h s ht idx).hs.getD p.hs.length Hop.z = newS p h s ht idx nl2 := by
  rw [sgP_ok k]
  exact getD_app rfl
theorem sgP_len {p : Pth} {h : Hop} {s : S16} {ht idx : Int} (k : sgE h ht idx = 0) : (sgP p h s ht idx).hs.length = p.hs.length + 1 := by
  rw [sgP_ok k]
  exact List.length_append
theorem sgP_pf {p : Pth} {h : Hop} {s : S16} {ht idx : Int} (k : sgE h ht idx = 0) : p.pf = (sgP p h s ht idx).pf ∧ p.pa = (sgP p h s ht idx).pa ∧ p.pb = (sgP p h s ht idx).pb ∧ p.pl = (sgP p h s ht idx).pl := by
  rw [sgP_ok k]
  exact ⟨rfl, rfl, rfl, rfl⟩
theorem sgP_msg {p : Pth} {h : Hop} {s : S16} {ht idx : Int} (k : sgE h ht idx = 0) {i : Nat} (hi : i < p.hs.length) : msgB p i = msgB (sgP p h s ht idx) i := by
  unfold msgB
  rw [sgP_get k i hi, restF_pre (sgP_pf (s := s) k) i (fun j hj => by rw [sgP_get k j zz13]; exact .rf _) i (Nat.le_refl _)]
theorem sgP_msgL {p : Pth} {h : Hop} {s : S16} {ht idx : Int} (k : sgE h ht idx = 0) : sgM p h s ht = msgB (sgP p h s ht idx) p.hs.length := by
  unfold sgM msgB
  rw [sgP_last k, show (newO p h s ht).hs.getD p.hs.length Hop.z = newH h s ht from getD_app rfl]
  rw [restF_pre (p := newO p h s ht) (q := sgP p h s ht idx) (by rw [sgP_ok k]; exact ⟨rfl, rfl, rfl, rfl⟩) p.hs.length (fun j hj => by rw [sgP_get k j hj, show (newO p h s ht).hs.getD j Hop.z = p.hs.getD j Hop.z from getD_left rfl hj]; exact .rf _) p.hs.length (Nat.le_refl _)]
  rfl
theorem newS_ver {p : Pth} {h : Hop} {s : S16} {ht idx : Int} (k : sgE h ht idx = 0) : verH (newS p h s ht idx nl2) (sgM p h s ht) := sig_ver s.1 _ (sgE_inv k).2
theorem gd_sg {p : Pth} {h : Hop} {s : S16} {ht idx : Int} (k : sgE h ht idx = 0) (h1 : pfxF p.pf p.pa p.pb p.pl = 0) (h2 : p.hs.length < 30) (h3 : p.hs.length ≠ 0 → Gd p ∧ h.sy = (p.hs.getD (p.hs.length - 1) Hop.z).to) : Gd (sgP p h s ht idx) := by
  have hl := sgP_len (p := p) (s := s) k
  obtain ⟨e1, e2, e3, e4⟩ := sgP_pf (p := p) (s := s) k
  refine ⟨chk_mk zz13 (by rw [← e1, ← e2, ← e3, ← e4]; exact h1) zz13 (fun i hi => ?_), fun i hi => ?_⟩
  · rcases Nat.lt_or_ge i p.hs.length with hi2 | hi2
    · have hb := (chk_inv (h3 zz13).1.1).2.2.2 i hi2
      unfold badH at hb ⊢
      rw [sgP_get k i hi2, sgP_get k (i - 1) zz13]
      exact hb
    · obtain rfl : i = p.hs.length := by omega
      unfold badH
      rw [sgP_last k]
      rintro (q | q | ⟨q, q2⟩)
      · exact (sgE_inv k).1 q
      · exact q (newS_ver (p := p) (s := s) k).1
      · rw [sgP_get k _ zz13] at q2
        exact q2 (h3 zz13).2
  · rcases Nat.lt_or_ge i p.hs.length with hi2 | hi2
    · rw [← sgP_msg k hi2, sgP_get k i hi2]
      exact (h3 zz13).1.2 i hi2
    · obtain rfl : i = p.hs.length := by omega
      rw [sgP_last k, ← sgP_msgL k]
      exact newS_ver k
theorem gd_one {p : Pth} (h : Gd p) {to : UInt32} {ks : List RK} (hk : ks.length ≤ 100) (ht : (p.hs.getD (p.hs.length - 1) Hop.z).to = to) (hm : ∀ i, i < p.hs.length → (p.hs.getD i Hop.z).rk ∈ ks) : vrV p to ks = 1 :=
  (vrV_one hk (chk_inv h.1).2.2.1).2 ⟨h.1, ht, fun i hi hw => by
    rcases hw with q | q
    · exact q (hm i hi)
    · exact q (h.2 i hi)⟩
theorem vr_two {p : Pth} {to : UInt32} {ks : List RK} (hk : ks.length ≤ 100) (hn : p.hs.length ≠ 0) (h : ¬ vrV p to ks = 1) : vrV p to ks = 2 := by
  have hk' : ¬ 100 < ks.length := by omega
  by_cases hb : wrE p ks ≠ 0 ∨ 0 ≤ wrI p ks ∨ ¬ (p.hs.getD (p.hs.length - 1) Hop.z).to = to
  · exact vrV_bad hk' hn hb
  · exact absurd (vrV_ok hk' hn hb) h
end Go.Proofs.YtjpfhkjmjnjggaaDoor
namespace Go.Proofs.YtjpfhkjmjnjggaaDoor
open Go Go.PL Go.RowKit
def sB (x : UInt8) : S16 := ⟨x :: List.replicate 15 0, rfl⟩
def hpA : Hop := ⟨10, 1, 0, 20, ⟨List.replicate 16 0, rfl⟩, 0, 0, .slice none 0 0, [], .slice none 0 0, []⟩
def hpB : Hop := ⟨0, 2, 0, 30, ⟨List.replicate 16 0, rfl⟩, 0, 0, .slice none 0 0, [], .slice none 0 0, []⟩
theorem hpA_sv : hpA.sv := ⟨SV.nil, SV.nil⟩
theorem hpB_sv : hpB.sv := ⟨SV.nil, SV.nil⟩
theorem built_hpA : Tryd.prog.built 68 [(0, .int .u32 10), (1, .int .u8 1), (3, .int .u32 20)] = some hpA.c.toArray := by kernel_rfl
theorem built_hpB : Tryd.prog.built 68 [(1, .int .u8 2), (3, .int .u32 30)] = some hpB.c.toArray := by kernel_rfl
theorem stE_inv {f : UInt8} {a b : UInt64} {l : Int} {h : Hop} {ht idx : Int} (k : stE f a b l h ht idx = 0) : pfxF f a b l = 0 ∧ sgE h ht idx = 0 := by
  unfold stE at k
  split at k
  · rename_i h1; exact absurd k h1
  · rename_i h1; exact ⟨Decidable.not_not.1 h1, k⟩
theorem st_gd {f : UInt8} {a b : UInt64} {l : Int} {h : Hop} {s : S16} {ht idx : Int} (k : stE f a b l h ht idx = 0) {x : Value × List Hop} (e : HsEqv (stP f a b l h s ht idx).hs x.2) : Gd (reP (stP f a b l h s ht idx) x) ∧ x.2.length = 1 ∧ (newS (P0 f a b l) h s ht idx nl2).eqv (x.2.getD 0 Hop.z) := by
  obtain ⟨k1, k2⟩ := stE_inv k
  have e1 : stP f a b l h s ht idx = sgP (P0 f a b l) h s ht idx := stP_ok (by rw [k1]; decide)
  have hl : (stP f a b l h s ht idx).hs.length = 1 := by rw [e1]; exact sgP_len k2
  refine ⟨gd_eqv (p := stP f a b l h s ht idx) ⟨⟨rfl, rfl, rfl, rfl⟩, e⟩ (by rw [e1]; exact gd_sg k2 k1 (Nat.zero_lt_succ _) (fun q => absurd rfl q)), by rw [← e.1]; exact hl, ?_⟩
  have := e.2 0 zz13
  rw [e1] at this
  rwa [show (sgP (P0 f a b l) h s ht idx).hs.getD 0 Hop.z = newS (P0 f a b l) h s ht idx nl2 from sgP_last (p := P0 f a b l) k2] at this
theorem exE_inv {p : Pth} (g : Gd p) (hn : p.hs.length < 30) {h : Hop} {ht idx : Int} : exE p h ht idx = sgE (h.wa (lastTo p)) ht idx := exE_ok (exK_ok g.1 zz13)
theorem ex_gd {p : Pth} (g : Gd p) (hn : p.hs.length < 30) {h : Hop} {s : S16} {ht idx : Int} (k : exE p h ht idx = 0) {x : Value × List Hop} (e : HsEqv (exP p h s ht idx).hs x.2) : Gd (reP (exP p h s ht idx) x) ∧ x.2.length = p.hs.length + 1 ∧ (∀ j, j < p.hs.length → (p.hs.getD j Hop.z).eqv (x.2.getD j Hop.z)) ∧ (newS p (h.wa (lastTo p)) s ht idx nl2).eqv (x.2.getD p.hs.length Hop.z) := by
  have hk : exK p = 0 := exK_ok g.1 zz13
  have k2 : sgE (h.wa (lastTo p)) ht idx = 0 := (exE_ok hk).symm.trans k
  have e1 : exP p h s ht idx = sgP p (h.wa (lastTo p)) s ht idx := exP_ok hk
  have hl : (exP p h s ht idx).hs.length = p.hs.length + 1 := by rw [e1]; exact sgP_len k2
  obtain ⟨c1, c2, c3, c4⟩ := chk_inv g.1
  refine ⟨gd_eqv (p := exP p h s ht idx) ⟨⟨rfl, rfl, rfl, rfl⟩, e⟩ (by rw [e1]; exact gd_sg k2 c2 hn (fun _ => ⟨g, rfl⟩)), by rw [← e.1]; exact hl, fun j hj => ?_, ?_⟩
  · have := e.2 j zz13
    rw [e1, sgP_get k2 j hj] at this
    exact this
  · have := e.2 p.hs.length zz13
    rw [e1, sgP_last k2] at this
    exact this
theorem chk_small {p : Pth} (h : chkP p = 0) : SmP p := fun x hx => by
  obtain ⟨i, hi, rfl⟩ := List.mem_iff_getElem.1 hx
  have hb := (chk_inv h).2.2.2 i hi
  unfold badH at hb
  rw [not_or, not_or, Decidable.not_not] at hb
  have hc := hb.2.1
  rw [show p.hs.getD i Hop.z = p.hs[i] by rw [List.getD_eq_getElem?_getD, List.getElem?_eq_getElem hi]; rfl] at hc
  unfold checkF at hc
  split at hc
  · rename_i h1
    split at hc
    · rename_i h2; obtain ⟨h3, h4, h5⟩ := h2; omega
    · cases hc
  · cases hc
structure SaysH (h : Hop) (a : UInt32) (c : UInt8) (t : UInt32) (s : S16) (ht : Int) : Prop where
  sy : h.sy = a
  cnt : h.cnt = c
  to : h.to = t
  root : h.root = ⟨keyR s.1 ht, keyR_l s ht⟩
  ht : h.ht = keyH ht
theorem says_new {p : Pth} {h g : Hop} {s : S16} {ht idx : Int} (e : (newS p h s ht idx nl2).eqv g) : SaysH g h.sy h.cnt h.to s ht := by
  obtain ⟨a1, a2, a3, a4, ⟨a5, a6⟩, a7, a8, a9⟩ := e
  exact ⟨a1.symm, a2.symm, a4.symm, Subtype.ext a5.symm, a6.symm⟩
theorem says_eqv {h g : Hop} {a : UInt32} {c : UInt8} {t : UInt32} {s : S16} {ht : Int} (e : h.eqv g) (k : SaysH h a c t s ht) : SaysH g a c t s ht := by
  obtain ⟨a1, a2, a3, a4, ⟨a5, a6⟩, a7, a8, a9⟩ := e
  exact ⟨a1.symm.trans k.sy, a2.symm.trans k.cnt, a4.symm.trans k.to, (Subtype.ext a5.symm).trans k.root, a6.symm.trans k.ht⟩
def rkS (a : UInt32) (s : S16) (ht : Int) : RK := (a, ⟨keyR s.1 ht, keyR_l s ht⟩, keyH ht)
theorem SaysH.rk {h : Hop} {a : UInt32} {c : UInt8} {t : UInt32} {s : S16} {ht : Int} (k : SaysH h a c t s ht) : h.rk = rkS a s ht := by
  unfold Hop.rk rkS
  rw [k.sy, k.root, k.ht]
structure TwoP (p : Pth) : Prop where
  gd : Gd p
  len : p.hs.length = 2
  a : SaysH (p.hs.getD 0 Hop.z) 10 1 20 (sB 1) 0
  b : SaysH (p.hs.getD 1 Hop.z) 20 2 30 (sB 2) 0
  pre : p.pf = 4 ∧ p.pa = 0 ∧ p.pb = 167772160 ∧ p.pl = 8
theorem sgE_00 {h : Hop} (e : h.fl = 0) : sgE h 0 0 = 0 := by
  have : ¬ 1 < h.fl.toNat := by rw [e]; decide
  rw [sgE_sig this zz17]
  decide
theorem ten_ok : pfxF 4 0 167772160 8 = 0 := by kernel_rfl
theorem st_ok : stE 4 0 167772160 8 hpA 0 0 = 0 := by rw [stE_ok (by rw [ten_ok]; decide)]; exact sgE_00 rfl
theorem ex_ok {p : Pth} (g : Gd p) (hn : p.hs.length = 1) : exE p hpB 0 0 = 0 := by rw [exE_inv g zz13]; exact sgE_00 rfl
theorem two_ok {x y : Value × List Hop} (e : HsEqv (stP 4 0 167772160 8 hpA (sB 1) 0 0).hs x.2) (e2 : HsEqv (exP (reP (stP 4 0 167772160 8 hpA (sB 1) 0 0) x) hpB (sB 2) 0 0).hs y.2) : TwoP (reP (exP (reP (stP 4 0 167772160 8 hpA (sB 1) 0 0) x) hpB (sB 2) 0 0) y) := by
  obtain ⟨g1, l1, q1⟩ := st_gd st_ok e
  have l1' : (reP (stP 4 0 167772160 8 hpA (sB 1) 0 0) x).hs.length = 1 := l1
  have k := ex_ok g1 l1
  obtain ⟨g2, l2, q2, q3⟩ := ex_gd g1 zz13 k e2
  rw [l1'] at l2 q2 q3
  have s1 := says_new q1
  have hto : lastTo (reP (stP 4 0 167772160 8 hpA (sB 1) 0 0) x) = 20 := by
    show (x.2.getD (x.2.length - 1) Hop.z).to = 20
    rw [l1]; exact s1.to
  have s3 := says_new q3
  rw [hto] at s3
  refine ⟨g2, l2, says_eqv (q2 0 zz17) s1, s3, ?_⟩
  have e3 : exP (reP (stP 4 0 167772160 8 hpA (sB 1) 0 0) x) hpB (sB 2) 0 0 = sgP _ _ _ _ _ := exP_ok (exK_ok g1.1 zz13)
  have k2 : sgE (hpB.wa (lastTo (reP (stP 4 0 167772160 8 hpA (sB 1) 0 0) x))) 0 0 = 0 := sgE_00 rfl
  have e4 : stP 4 0 167772160 8 hpA (sB 1) 0 0 = sgP _ _ _ _ _ := stP_ok (by rw [ten_ok]; decide)
  have k4 : sgE hpA 0 0 = 0 := sgE_00 rfl
  show (exP (reP (stP 4 0 167772160 8 hpA (sB 1) 0 0) x) hpB (sB 2) 0 0).pf = 4 ∧ (exP (reP (stP 4 0 167772160 8 hpA (sB 1) 0 0) x) hpB (sB 2) 0 0).pa = 0 ∧ (exP (reP (stP 4 0 167772160 8 hpA (sB 1) 0 0) x) hpB (sB 2) 0 0).pb = 167772160 ∧ (exP (reP (stP 4 0 167772160 8 hpA (sB 1) 0 0) x) hpB (sB 2) 0 0).pl = 8
  rw [e3, sgP_ok k2]
  show (stP 4 0 167772160 8 hpA (sB 1) 0 0).pf = 4 ∧ (stP 4 0 167772160 8 hpA (sB 1) 0 0).pa = 0 ∧ (stP 4 0 167772160 8 hpA (sB 1) 0 0).pb = 167772160 ∧ (stP 4 0 167772160 8 hpA (sB 1) 0 0).pl = 8
  rw [e4, sgP_ok k4]
  exact ⟨rfl, rfl, rfl, rfl⟩
theorem TwoP.sm {p : Pth} (t : TwoP p) : SmP p := chk_small t.gd.1
theorem TwoP.sys {p : Pth} (t : TwoP p) : sysE p = 0 ∧ sysV p = [20, 20, 10] := by
  have e : sysR p.hs = [20, 20, 10] := by
    unfold sysR
    rw [t.len]
    unfold sysG sysG sysG
    rw [t.len]
    show ([] ++ List.replicate (p.hs.getD 1 Hop.z).cnt.toNat (p.hs.getD 1 Hop.z).sy) ++ List.replicate (p.hs.getD 0 Hop.z).cnt.toNat (p.hs.getD 0 Hop.z).sy = _
    rw [t.a.cnt, t.a.sy, t.b.cnt, t.b.sy]
    rfl
  have h : sysE p = 0 := by
    unfold sysE
    rw [if_neg (by simp [t.gd.1]), e, if_neg zz17]
  exact ⟨h, by unfold sysV; rw [if_pos h, e]⟩
theorem headB_27 (h : Hop) : (headB h).length = 27 := headB_len h
theorem TwoP.m0 {p : Pth} (t : TwoP p) : (msgB p 0).length = 45 := by
  show (headB _ ++ rest0 p).length = 45
  rw [List.length_append, headB_27]
  unfold rest0
  rw [List.length_append, List.length_append, numK_len, numK_len]; rfl
theorem TwoP.m1 {p : Pth} (t : TwoP p) : (msgB p 1).length = 59 := by
  show (headB _ ++ sumF _).length = 59
  rw [List.length_append, headB_27, sumF_length]
theorem TwoP.msg {p : Pth} (t : TwoP p) (i : Nat) (hi : i < 2) : msgE p (i : Int) = 0 ∧ msgV p (i : Int) = msgB p i := by
  have h1 := t.gd.1
  have h2 := t.len
  unfold msgE msgV msgE
  simp [h1, h2]
  omega
theorem gd_two {p : Pth} (g : Gd p) (l : p.hs.length = 2) {a : UInt32} {c c' : UInt8} {t t' : UInt32} {s s' : S16} {h h' : Int} (h0 : SaysH (p.hs.getD 0 Hop.z) a c t s h) (h1 : SaysH (p.hs.getD 1 Hop.z) t c' t' s' h') {ks : List RK} (hk : ks.length ≤ 100) (to : UInt32) : (vrV p to ks = 1 ↔ t' = to ∧ rkS a s h ∈ ks ∧ rkS t s' h' ∈ ks) := by
  rw [vrV_one hk zz13, l]
  constructor
  · rintro ⟨-, k2, k3⟩
    have k4 := k3 0 zz17
    have k5 := k3 1 zz17
    unfold wrongH at k4 k5
    rw [not_or, Decidable.not_not] at k4 k5
    exact ⟨h1.to.symm.trans k2, by rw [← h0.rk]; exact k4.1, by rw [← h1.rk]; exact k5.1⟩
  · rintro ⟨k1, k2, k3⟩
    refine ⟨g.1, h1.to.trans k1, fun i hi hw => ?_⟩
    unfold wrongH at hw
    rcases hw with hw | hw
    · match i, hi with
      | 0, _ => exact hw (by rw [h0.rk]; exact k2)
      | 1, _ => exact hw (by rw [h1.rk]; exact k3)
    · exact hw (g.2 i zz13)
theorem TwoP.vr {p : Pth} (t : TwoP p) {ks : List RK} (hk : ks.length ≤ 100) (to : UInt32) : (vrV p to ks = 1 ↔ 30 = to ∧ rkS 10 (sB 1) 0 ∈ ks ∧ rkS 20 (sB 2) 0 ∈ ks) := gd_two t.gd t.len t.a t.b hk to
theorem TwoP.no {p : Pth} (t : TwoP p) {ks : List RK} (hk : ks.length ≤ 100) {to : UInt32} (h : ¬ (30 = to ∧ rkS 10 (sB 1) 0 ∈ ks ∧ rkS 20 (sB 2) 0 ∈ ks)) : vrV p to ks = 2 := vr_two hk (by rw [t.len]; decide) fun q => h ((t.vr hk to).1 q)
end Go.Proofs.YtjpfhkjmjnjggaaDoor
namespace Go.Proofs.YtjpfhkjmjnjggaaDoor
open Go Go.PL Go.RowKit
theorem start (f : UInt8) (a b : UInt64) (l : Int) (hp : Hop) (s : S16) (ht : Int) (idx : Int) (w : World) (hsvh : hp.sv) (hG : Glb w) :
    Calls Tryd.prog 26 [.agg (pfL f a b l).toArray, .agg hp.c.toArray, .agg (v8s s.1).toArray, .int .i64 ht, .int .i64 idx].toArray w (GivesP w (fun x : Value × List Hop => SV x.1 (stP f a b l hp s ht idx).hs.length ∧ HsEqv (stP f a b l hp s ht idx).hs x.2) (fun x => .tuple #[.agg (reP (stP f a b l hp s ht idx) x).c.toArray, .int .i64 (stE f a b l hp ht idx)]) (fun x => [.row x.1 (stP f a b l hp s ht idx).hs.length 68 24 (hcs x.2)]) (fun x => [hopsF x.2])) := by
  haveI := hsvh.one
  refine enter (m := 32) (R := Mem w [] [] []) Tryd.func26 rfl rfl (Nat.le_of_ble_eq_true rfl) (Mem.start w) ?_
  refine wpc_seq <| wpc_region ?_
  refine wpl_t (t_box rfl (pfL f a b l) rfl) rfl (fun b5 => ?_)
  refine wpl_t (t_box rfl hp.c rfl) rfl (fun b6 => ?_)
  refine wpl_t (t_box rfl (v8s s.1) rfl) rfl (fun b7 => ?_)
  refine wpl_t (t_alloc Tryd.ti29 Pth.z.c rfl) rfl (fun b10 => ?_)
  refine wpl_q (q_pure rfl) rfl <| wpl_nil <| ex_then <| wpc_seq <| wpc_region <| wpl_q (q_ldN Tryd.underlying26 rfl Tryd.ti26 rfl LenC.h) rfl ?_
  refine wpl_t (t_pur Tryd.hb42 rfl fun w h => numCheck f a b l w) rfl (fun b15 => ?_)
  refine wpl_q (q_pure rfl) rfl <| wpl_nil <| ex_then <| wpc_seq <| wpc_seq <| wpc_region <| wpl_q (q_pure rfl) rfl <| wpl_q (q_pure rfl) rfl <| wpl_nil <| ex_then ?_
  refine wpc_cond rfl (fun hc17 => ?_) (fun hc17 => ?_)
  ·
   have hk : pfxF f a b l ≠ 0 := by simpa using hc17
   have hV : stE f a b l hp ht idx = pfxF f a b l := stE_no hk
   refine wpc_seq <| wpc_region ?_
   refine wpl_q (q_build (cs := Pth.z.c) rfl built_pz) rfl ?_
   refine wpl_q (q_pure rfl) rfl ?_
   refine wpl_t0 (t_stA Tryd.ti29 rfl rfl LenC.h OneC.h LenC.h) (fun _ => ?_)
   refine wpl_q (q_pure rfl) rfl <| wpl_nil <| ex_then <| wpc_ret ?_
   refine ex_then_ret ?_
   refine retv2 (.inl rfl) rfl (rv_agg Tryd.underlying29 rfl Tryd.ti29 rfl (fun w h => h.atB) zz0) (rv_tmp rfl) ?_
   exact fun w1 h => ⟨(.slice none 0 0, []), ⟨by rw [stP_no hk]; exact SV.nil, by rw [stP_no hk]; exact ⟨rfl, fun i hi => by cases hi⟩⟩, by rw [stP_no hk, hV]; rfl, h.below, by rw [stP_no hk]; exact er_made h⟩
  ·
   have hk : ¬ pfxF f a b l ≠ 0 := by simpa using hc17
   refine wpc_skip <| ex_then <| wpc_seq <| wpc_region <| wpl_q (q_ldN Tryd.underlying26 rfl Tryd.ti26 rfl LenC.h) rfl ?_
   refine wpl_q (q_build (cs := (P0 f a b l).c) rfl (built_pre f a b l)) rfl ?_
   refine wpl_q (q_ldN Tryd.underlying68 rfl Tryd.ti68 rfl LenC.h) rfl <| wpl_q (q_ldN Tryd.underlying61 rfl Tryd.ti61 rfl LenC.h) rfl <| wpl_q (q_pure rfl) rfl <| wpl_q (q_pure rfl) rfl ?_
   refine wpl_tp (t_callPF Tryd.hb52 rfl fun w h => signP (P0 f a b l) hp s ht idx w (p0_seen _) hsvh (fun x hx => by cases hx) (glob h hG) (Nat.zero_le _)) rfl (fun b27 p27 => ?_)
   haveI : OneC (reP (sgP (P0 f a b l) hp s ht idx) b27).c := reP_one p27.1
   refine wpl_q (q_pure rfl) rfl <| wpl_q (q_pure rfl) rfl <| wpl_q (q_pure rfl) rfl ?_
   refine wpl_t (t_alloc Tryd.ti29 Pth.z.c rfl) rfl (fun b13 => ?_)
   refine wpl_t0 (t_stA Tryd.ti29 rfl rfl LenC.h OneC.h LenC.h) (fun _ => ?_)
   refine wpl_q (q_pure rfl) rfl <| wpl_nil <| ex_then <| wpc_seq <| wpc_region <| wpl_q (q_ldN Tryd.underlying29 rfl Tryd.ti29 rfl LenC.h) rfl <| wpl_q (q_pure rfl) rfl ?_
   refine wpl_t0 (t_stA Tryd.ti29 rfl rfl LenC.h OneC.h LenC.h) (fun _ => ?_)
   refine wpl_q (q_pure rfl) rfl <| wpl_nil <| ex_then <| wpc_ret ?_
   refine retv2 (.inl rfl) rfl (rv_agg Tryd.underlying29 rfl Tryd.ti29 rfl (fun w h => h.atB) zz0) (rv_tmp rfl) ?_
   exact fun w1 h => ⟨b27, by rw [stP_ok hk]; exact p27, by rw [stP_ok hk, stE_ok hk]; rfl, h.below, by rw [stP_ok hk]; exact h.made zz8 zz8⟩
end Go.Proofs.YtjpfhkjmjnjggaaDoor
namespace Go.Proofs.YtjpfhkjmjnjggaaDoor
open Go Go.PL Go.RowKit
theorem extend (p : Pth) (hp : Hop) (s : S16) (ht : Int) (idx : Int) (w : World) (hpp : p.seen w.cell?) (hsvh : hp.sv) (hlim : SmP p) (hG : Glb w) (hn35 : p.hs.length ≤ 35) :
    Calls Tryd.prog 28 [.agg p.c.toArray, .agg hp.c.toArray, .agg (v8s s.1).toArray, .int .i64 ht, .int .i64 idx].toArray w (GivesP w (fun x : Value × List Hop => SV x.1 (exP p hp s ht idx).hs.length ∧ HsEqv (exP p hp s ht idx).hs x.2) (fun x => .tuple #[.agg (reP (exP p hp s ht idx) x).c.toArray, .int .i64 (exE p hp ht idx)]) (fun x => [.row x.1 (exP p hp s ht idx).hs.length 68 24 (hcs x.2)]) (fun x => [hopsF x.2])) := by
  obtain ⟨pf, pa, pb, pl, hv, hs⟩ := p
  have hh : Seen w.cell? hv hs.length 24 (hcs hs) := hpp.1
  have svh := hh.sv
  have lh := svh.le
  simp only [maxLen] at lh
  have hn35 : hs.length ≤ 35 := hn35
  haveI := hsvh.one
  refine enter (m := 46) (R := Mem w [] [] []) Tryd.func28 rfl rfl (Nat.le_of_ble_eq_true rfl) (Mem.start w) ?_
  refine wpc_seq <| wpc_region ?_
  refine wpl_t (t_box rfl [.int .u8 (pf.toNat : Int), .int .u64 (pa.toNat : Int), .int .u64 (pb.toNat : Int), .int .i64 pl, hv] rfl) rfl (fun b5 => ?_)
  refine wpl_t (t_box rfl hp.c rfl) rfl (fun b6 => ?_)
  refine wpl_t (t_box rfl (v8s s.1) rfl) rfl (fun b7 => ?_)
  refine wpl_t (t_alloc Tryd.ti29 Pth.z.c rfl) rfl (fun b10 => ?_)
  refine wpl_q (q_pure rfl) rfl <| wpl_nil <| ex_then <| wpc_seq <| wpc_region <| wpl_q (q_ldN Tryd.underlying29 rfl Tryd.ti29 rfl LenC.h) rfl ?_
  refine wpl_t (t_pur Tryd.hb17 rfl fun w h => hopCheck ⟨pf, pa, pb, pl, hv, hs⟩ w (hpp.old h)) rfl (fun b15 => ?_)
  refine wpl_q (q_pure rfl) rfl <| wpl_nil <| ex_then <| wpc_seq <| wpc_seq <| wpc_region <| wpl_q (q_pure rfl) rfl <| wpl_q (q_pure rfl) rfl <| wpl_nil <| ex_then ?_
  refine wpc_cond rfl (fun hc17 => ?_) (fun hc17 => ?_)
  ·
   have hk0 : chkP ⟨pf, pa, pb, pl, hv, hs⟩ ≠ 0 := by simpa using hc17
   have hK : exK ⟨pf, pa, pb, pl, hv, hs⟩ ≠ 0 := by rw [exK_chk hk0]; exact hk0
   have hV : exE ⟨pf, pa, pb, pl, hv, hs⟩ hp ht idx = chkP ⟨pf, pa, pb, pl, hv, hs⟩ := (exE_no hK).trans (exK_chk hk0)
   refine wpc_seq <| wpc_region ?_
   refine wpl_q (q_build (cs := Pth.z.c) rfl built_pz) rfl ?_
   refine wpl_q (q_pure rfl) rfl ?_
   refine wpl_t0 (t_stA Tryd.ti29 rfl rfl LenC.h OneC.h LenC.h) (fun _ => ?_)
   refine wpl_q (q_pure rfl) rfl <| wpl_nil <| ex_then <| wpc_ret ?_
   refine ex_then_ret ?_
   refine retv2 (.inl rfl) rfl (rv_agg Tryd.underlying29 rfl Tryd.ti29 rfl (fun w h => h.atB) zz0) (rv_tmp rfl) ?_
   exact fun w1 h => ⟨(.slice none 0 0, []), ⟨by rw [exP_no hK]; exact SV.nil, by rw [exP_no hK]; exact ⟨rfl, fun i hi => by cases hi⟩⟩, by rw [exP_no hK, hV]; rfl, h.below, by rw [exP_no hK]; exact er_made h⟩
  ·
   have hk0 : chkP ⟨pf, pa, pb, pl, hv, hs⟩ = 0 := by simpa using hc17
   refine wpc_skip <| ex_then <| wpc_seq <| wpc_seq <| wpc_region <| wpl_q (q_field Tryd.underlying29 rfl Tryd.ti27 rfl rfl _ rfl) rfl <| wpl_q (q_ld Tryd.underlying27 rfl rfl rfl) rfl ?_
   refine wpl_q (q_lenW Tryd.underlying27 rfl zz4) rfl ?_
   refine wpl_q (q_pure rfl) rfl <| wpl_nil <| ex_then ?_
   refine wpc_cond rfl (fun hc23 => ?_) (fun hc23 => ?_)
   ·
    have h30q : ((hs.length : Nat) : Int) = 30 := by simpa using hc23
    have h30 : hs.length = 30 := by omega
    have hK4 : exK ⟨pf, pa, pb, pl, hv, hs⟩ = 4 := exK_many hk0 h30
    have hK : exK ⟨pf, pa, pb, pl, hv, hs⟩ ≠ 0 := by rw [hK4]; decide
    have hV : exE ⟨pf, pa, pb, pl, hv, hs⟩ hp ht idx = 4 := (exE_no hK).trans hK4
    refine wpc_seq <| wpc_region ?_
    refine wpl_q (q_build (cs := Pth.z.c) rfl built_pz) rfl ?_
    refine wpl_t0 (t_stA Tryd.ti29 rfl rfl LenC.h OneC.h LenC.h) (fun _ => ?_)
    refine wpl_q (q_pure rfl) rfl <| wpl_nil <| ex_then <| wpc_ret ?_
    refine ex_then_ret ?_
    refine retv2 (.inl rfl) rfl (rv_agg Tryd.underlying29 rfl Tryd.ti29 rfl (fun w h => h.atB) zz0) (rv_tmp rfl) ?_
    exact fun w1 h => ⟨(.slice none 0 0, []), ⟨by rw [exP_no hK]; exact SV.nil, by rw [exP_no hK]; exact ⟨rfl, fun i hi => by cases hi⟩⟩, by rw [exP_no hK, hV]; rfl, h.below, by rw [exP_no hK]; exact er_made h⟩
   ·
    have h30q : ¬ ((hs.length : Nat) : Int) = 30 := by simpa using hc23
    have h30 : ¬ hs.length = 30 := by omega
    have hK : exK ⟨pf, pa, pb, pl, hv, hs⟩ = 0 := exK_ok hk0 h30
    have hn0 : hs.length ≠ 0 := (chk_inv hk0).2.2.1
    refine wpc_skip <| ex_then <| wpc_seq <| wpc_region <| wpl_q (q_field Tryd.underlying29 rfl Tryd.ti27 rfl rfl _ rfl) rfl <| wpl_q (q_ld Tryd.underlying27 rfl rfl rfl) rfl <| wpl_q (q_field Tryd.underlying29 rfl Tryd.ti27 rfl rfl _ rfl) rfl <| wpl_q (q_ld Tryd.underlying27 rfl rfl rfl) rfl ?_
    refine wpl_q (q_lenW Tryd.underlying27 rfl zz4) rfl ?_
    refine wpl_q (q_subN (b := 1) rfl rfl zz13 zz2) rfl ?_
    refine wpl_q (q_idxW Tryd.underlying27 Tryd.ti68 rfl rfl zz4 zz2) rfl ?_
    refine wpl_q (q_fieldPo 3 Tryd.underlying68 rfl Tryd.ti49 rfl rfl rfl) rfl ?_
    refine wpl_q (q_ldWF Tryd.underlying49 rfl rfl (fun w h => h.seen_old hh) (cat_get Hop.c_length Hop.z (show hs.length - 1 < hs.length from zz13) (Hop.c_to _))) rfl ?_
    refine wpl_q (q_field Tryd.underlying68 rfl Tryd.ti49 rfl rfl _ rfl) rfl ?_
    refine wpl_t0 (t_st1 Tryd.ti49 rfl rfl rfl (by rw [Hop.c_length]; decide) (hp.wa (lastTo ⟨pf, pa, pb, pl, hv, hs⟩)).c rfl) (fun _ => ?_)
    refine wpl_nil <| ex_then <| wpc_seq ?_
    haveI : OneC (hp.wa (lastTo ⟨pf, pa, pb, pl, hv, hs⟩)).c := Hop.sv.one (h := (hp.wa (lastTo ⟨pf, pa, pb, pl, hv, hs⟩))) hsvh
    refine wpc_region <| wpl_q (q_ldN Tryd.underlying29 rfl Tryd.ti29 rfl LenC.h) rfl <| wpl_q (q_ldN Tryd.underlying68 rfl Tryd.ti68 rfl LenC.h) rfl <| wpl_q (q_ldN Tryd.underlying61 rfl Tryd.ti61 rfl LenC.h) rfl <| wpl_q (q_pure rfl) rfl <| wpl_q (q_pure rfl) rfl ?_
    refine wpl_tp (t_callPF Tryd.hb52 rfl fun w h => signP ⟨pf, pa, pb, pl, hv, hs⟩ (hp.wa (lastTo ⟨pf, pa, pb, pl, hv, hs⟩)) s ht idx w (hpp.old h) hsvh hlim (glob h hG) hn35) rfl (fun b41 p41 => ?_)
    haveI : OneC (reP (sgP ⟨pf, pa, pb, pl, hv, hs⟩ (hp.wa (lastTo ⟨pf, pa, pb, pl, hv, hs⟩)) s ht idx) b41).c := reP_one p41.1
    refine wpl_q (q_pure rfl) rfl <| wpl_q (q_pure rfl) rfl <| wpl_q (q_pure rfl) rfl ?_
    refine wpl_t (t_alloc Tryd.ti29 Pth.z.c rfl) rfl (fun b13 => ?_)
    refine wpl_t0 (t_stA Tryd.ti29 rfl rfl LenC.h OneC.h LenC.h) (fun _ => ?_)
    refine wpl_q (q_pure rfl) rfl <| wpl_nil <| ex_then <| wpc_seq <| wpc_region <| wpl_q (q_ldN Tryd.underlying29 rfl Tryd.ti29 rfl LenC.h) rfl <| wpl_q (q_pure rfl) rfl ?_
    refine wpl_t0 (t_stA Tryd.ti29 rfl rfl LenC.h OneC.h LenC.h) (fun _ => ?_)
    refine wpl_q (q_pure rfl) rfl <| wpl_nil <| ex_then <| wpc_ret ?_
    refine retv2 (.inl rfl) rfl (rv_agg Tryd.underlying29 rfl Tryd.ti29 rfl (fun w h => h.atB) zz0) (rv_tmp rfl) ?_
    exact fun w1 h => ⟨b41, by rw [exP_ok hK]; exact p41, by rw [exP_ok hK, exE_ok hK]; rfl, h.below, by rw [exP_ok hK]; exact h.made zz8 zz8⟩
end Go.Proofs.YtjpfhkjmjnjggaaDoor
namespace Go.Proofs.YtjpfhkjmjnjggaaDoor
open Go Go.PL Go.RowKit
instance lenC_kz : LenC (v8s (List.replicate 16 0) ++ [Value.int .i64 0]) 17 := ⟨rfl⟩
theorem Pth.c_hv (p : Pth) : p.c[4]? = some p.hv := rfl
theorem TwoP.msg0 {p : Pth} (t : TwoP p) : msgE p 0 = 0 ∧ msgV p 0 = msgB p 0 := t.msg 0 zz17
theorem TwoP.msg1 {p : Pth} (t : TwoP p) : msgE p 1 = 0 ∧ msgV p 1 = msgB p 1 := t.msg 1 zz17
theorem rk_ne {a b : UInt32} {s t : S16} {h k : Int} (e : a ≠ b) : rkS a s h ≠ rkS b t k := fun q => e (congrArg Prod.fst q)
theorem two_bad : ¬ ((30 : UInt32) = 30 ∧ rkS 10 (sB 1) 0 ∈ [rkS 10 (sB 1) 0, rkS 21 (sB 2) 0] ∧ rkS 20 (sB 2) 0 ∈ [rkS 10 (sB 1) 0, rkS 21 (sB 2) 0]) := by
  rintro ⟨-, -, h⟩
  simp only [List.mem_cons, List.not_mem_nil, or_false] at h
  rcases h with h | h
  · exact rk_ne zz17 h
  · exact rk_ne zz17 h
theorem ten  (w : World)   :
    Calls Tryd.prog 32 [].toArray w (Pur w (.agg (pfL 4 0 167772160 8).toArray)) := by
  refine enter (m := 3) (R := Mem w [] [] []) Tryd.func32 rfl rfl (Nat.le_of_ble_eq_true rfl) (Mem.start w) ?_
  refine wpc_seq <| wpc_region ?_
  refine wpl_t (t_alloc Tryd.ti26 (pfL 0 0 0 0) rfl) rfl (fun b0 => ?_)
  refine wpl_nil <| ex_then <| wpc_seq <| wpc_region ?_
  refine wpl_q (q_build (cs := adL 0 167772160) rfl zz5) rfl ?_
  refine wpl_q (q_build (cs := pfL 4 0 167772160 8) rfl zz5) rfl ?_
  refine wpl_t0 (t_stA Tryd.ti26 rfl rfl LenC.h OneC.h LenC.h) (fun _ => ?_)
  refine wpl_nil <| ex_then <| wpc_ret ?_
  refine retv1 (.inl rfl) rfl (rv_agg Tryd.underlying26 rfl Tryd.ti26 rfl (fun w h => h.atB) zz0) ?_
  exact fun w h => ⟨rfl, h.below⟩
theorem two_  (w : World)  (hG : Glb w) :
    Calls Tryd.prog 30 [].toArray w (GivesP w (fun p : Pth => SV p.hv p.hs.length ∧ TwoP p) (fun p => .tuple #[.agg p.c.toArray, .bool true]) (fun p => [.row p.hv p.hs.length 68 24 (hcs p.hs)]) (fun p => [hopsF p.hs])) := by
  refine enter (m := 33) (R := Mem w [] [] []) Tryd.func30 rfl rfl (Nat.le_of_ble_eq_true rfl) (Mem.start w) ?_
  refine wpc_seq <| wpc_region ?_
  refine wpl_t (t_alloc Tryd.ti29 Pth.z.c rfl) rfl (fun b0 => ?_)
  refine wpl_q (q_pure rfl) rfl <| wpl_nil <| ex_then <| wpc_seq <| wpc_region ?_
  refine wpl_t (t_pur Tryd.hb32 rfl fun w h => ten w) rfl (fun b7 => ?_)
  refine wpl_q (q_build (cs := hpA.c) rfl built_hpA) rfl ?_
  refine wpl_q (q_build (cs := v8s (sB 1).1) rfl (built_array Tryd.underlying61 Tryd.ti61 Tryd.ti5 rfl)) rfl ?_
  refine wpl_tp (t_callPF Tryd.hb26 rfl fun w h => by
    have q := start 4 0 167772160 8 hpA (sB 1) 0 0 w hpA_sv (glob h hG)
    rw [st_ok] at q
    exact q) rfl (fun b10 p10 => ?_)
  haveI : OneC (reP (stP 4 0 167772160 8 hpA (sB 1) 0 0) b10).c := reP_one p10.1
  obtain ⟨g1, l1, q1⟩ := st_gd st_ok p10.2
  have l1x : (reP (stP 4 0 167772160 8 hpA (sB 1) 0 0) b10).hs.length = 1 := l1
  have hex := ex_ok g1 l1x
  refine wpl_q (q_pure rfl) rfl <| wpl_q (q_pure rfl) rfl <| wpl_q (q_pure rfl) rfl ?_
  refine wpl_t (t_alloc Tryd.ti29 Pth.z.c rfl) rfl (fun b2 => ?_)
  refine wpl_t0 (t_stA Tryd.ti29 rfl rfl LenC.h OneC.h LenC.h) (fun _ => ?_)
  refine wpl_q (q_pure rfl) rfl <| wpl_nil <| ex_then <| wpc_seq <| wpc_region <| wpl_q (q_ldN Tryd.underlying29 rfl Tryd.ti29 rfl LenC.h) rfl ?_
  refine wpl_q (q_build (cs := hpB.c) rfl built_hpB) rfl ?_
  refine wpl_q (q_build (cs := v8s (sB 2).1) rfl (built_array Tryd.underlying61 Tryd.ti61 Tryd.ti5 rfl)) rfl ?_
  refine wpl_tp (t_callPF Tryd.hb28 rfl fun w h => by
    have q := extend (reP (stP 4 0 167772160 8 hpA (sB 1) 0 0) b10) hpB (sB 2) 0 0 w (reP_seen p10.2 (h.seen_row zz6) (hopsF_at h zz6)) hpB_sv (chk_small g1.1) (glob h hG) zz13
    rw [hex] at q
    exact q) rfl (fun b17 p17 => ?_)
  haveI : OneC (reP (exP (reP (stP 4 0 167772160 8 hpA (sB 1) 0 0) b10) hpB (sB 2) 0 0) b17).c := reP_one p17.1
  have t2 := two_ok p10.2 p17.2
  have l2 : b17.2.length = 2 := t2.len
  have l3x := l2
  have svb : SV b17.1 2 := by rw [← p17.2.1.trans l2]; exact p17.1
  have l3 : (exP (reP (stP 4 0 167772160 8 hpA (sB 1) 0 0) b10) hpB (sB 2) 0 0).hs.length = 2 := p17.2.1.trans l2
  refine wpl_q (q_pure rfl) rfl <| wpl_q (q_pure rfl) rfl <| wpl_q (q_pure rfl) rfl ?_
  refine wpl_t (t_alloc Tryd.ti29 Pth.z.c rfl) rfl (fun b4 => ?_)
  refine wpl_t0 (t_stA Tryd.ti29 rfl rfl LenC.h OneC.h LenC.h) (fun _ => ?_)
  refine wpl_q (q_pure rfl) rfl <| wpl_nil <| ex_then <| wpc_seq ?_
  refine wpc_drawM [.blk b4 29 (reP (exP (reP (stP 4 0 167772160 8 hpA (sB 1) 0 0) b10) hpB (sB 2) 0 0) b17).c] 99 zz5 zz8 ?_
  refine wpd_q 0 rfl zz5 trivial (q_ldN Tryd.underlying29 rfl Tryd.ti29 rfl LenC.h) rfl (fun w h => h.sub SubC.h SubC.h) ?_
  refine wpd_p 1 rfl zz5 trivial (q_pure rfl) rfl (fun w h => .inr (h.sub SubC.h SubC.h)) ?_
  refine wpd_p 2 rfl zz5 trivial (q_tru (q_eqI rfl rfl) rfl) rfl (fun w h => .inr (h.sub SubC.h SubC.h)) ?_
  refine wpd_p 3 rfl zz5 trivial (q_pure rfl) rfl (fun w h => .inr (h.sub SubC.h SubC.h)) ?_
  refine wpd_p 4 rfl zz5 ⟨_, rfl, rfl⟩ (q_pure rfl) rfl (fun w h => .inr (h.sub SubC.h SubC.h)) ?_
  refine wpd_p 5 rfl zz5 ⟨_, rfl, rfl⟩ (q_tru (q_eqI rfl rfl) rfl) rfl (fun w h => .inr (h.sub SubC.h SubC.h)) ?_
  refine wpd_p 6 rfl zz5 trivial (q_pure rfl) rfl (fun w h => .inr (h.sub SubC.h SubC.h)) ?_
  refine wpd_p 7 rfl zz5 trivial (q_pure rfl) rfl (fun w h => .inr (h.sub SubC.h SubC.h)) ?_
  refine wpd_p 8 rfl zz5 ⟨_, rfl, rfl⟩ (q_field Tryd.underlying29 rfl Tryd.ti27 rfl rfl _ rfl) rfl (fun w h => .inr (h.sub SubC.h SubC.h)) ?_
  refine wpd_q 9 rfl zz5 ⟨_, rfl, rfl⟩ (q_ld Tryd.underlying27 rfl rfl (Pth.c_hv (reP (exP (reP (stP 4 0 167772160 8 hpA (sB 1) 0 0) b10) hpB (sB 2) 0 0) b17))) rfl (fun w h => h.sub SubC.h SubC.h) ?_
  refine wpd_p 10 rfl zz5 ⟨_, rfl, rfl⟩ (q_lenW Tryd.underlying27 rfl zz4) rfl (fun w h => .inr (h.sub SubC.h SubC.h)) ?_
  refine wpd_p 11 rfl zz5 ⟨_, rfl, rfl⟩ (q_tru (q_eqI rfl rfl) rfl) rfl (fun w h => .inr (h.sub SubC.h SubC.h)) ?_
  refine wpd_p 12 rfl zz5 trivial (q_pure rfl) rfl (fun w h => .inr (h.sub SubC.h SubC.h)) ?_
  refine wpd_t0 13 rfl zz5 trivial (t_stA Tryd.ti29 rfl rfl LenC.h OneC.h LenC.h) (fun _ => (fun w h => .inr (h.sub SubC.h SubC.h))) (fun _ => ?_)
  refine wpd_p 14 rfl zz5 trivial (q_pure rfl) rfl (fun w h => .inr (h.sub SubC.h SubC.h)) ?_
  refine wpd_done zz5 ?_
  refine ex_then <| wpc_ret ?_
  refine retv2 (.inl rfl) rfl (rv_agg Tryd.underlying29 rfl Tryd.ti29 rfl (fun w h => h.atB) zz0) (rv_tmp rfl) ?_
  exact fun w h => ⟨(reP (exP (reP (stP 4 0 167772160 8 hpA (sB 1) 0 0) b10) hpB (sB 2) 0 0) b17), ⟨by show SV b17.1 b17.2.length; rw [l2, ← l3]; exact p17.1, t2⟩, rfl, h.below, by
    have h2 := h.made (N := [.row b17.1 (exP (reP (stP 4 0 167772160 8 hpA (sB 1) 0 0) b10) hpB (sB 2) 0 0).hs.length 68 24 (hcs b17.2)]) (T := [hopsF b17.2]) zz8 zz8
    rw [l3] at h2
    show New _ [.row b17.1 b17.2.length _ 24 _] _ _
    rw [l2]; exact h2⟩
theorem key_ (x : UInt8) (w : World)  (hG : Glb w) :
    Calls Tryd.prog 31 [.int .u8 x.toNat].toArray w (Pur w (.agg (v8s (keyR (sB x).1 0) ++ [Value.int .i64 (keyH 0)]).toArray)) := by
  refine enter (m := 12) (R := Mem w [] [] []) Tryd.func31 rfl rfl (Nat.le_of_ble_eq_true rfl) (Mem.start w) ?_
  refine wpc_seq <| wpc_region ?_
  refine wpl_t (t_alloc Tryd.ti63 (v8s (List.replicate 16 0) ++ [.int .i64 0]) rfl) rfl (fun b2 => ?_)
  refine wpl_nil <| ex_then <| wpc_seq <| wpc_region <| wpl_q (q_pure rfl) rfl ?_
  refine wpl_q (q_build (cs := v8s (sB x).1) rfl (built_array Tryd.underlying61 Tryd.ti61 Tryd.ti5 rfl)) rfl ?_
  refine wpl_t (t_pur Tryd.hb54 rfl fun w h => key7 (sB x).1 0 w (sB x).2 (glob h hG)) rfl (fun b8 => ?_)
  refine wpl_q (q_pure rfl) rfl <| wpl_q (q_pure rfl) rfl <| wpl_q (q_pure rfl) rfl ?_
  refine wpl_t (t_alloc Tryd.ti63 (v8s (List.replicate 16 0) ++ [.int .i64 0]) rfl) rfl (fun b3 => ?_)
  refine wpl_t0 (t_stA Tryd.ti63 rfl rfl LenC.h OneC.h LenC.h) (fun _ => ?_)
  refine wpl_q (q_pure rfl) rfl <| wpl_nil <| ex_then <| wpc_seq <| wpc_region <| wpl_q (q_ldN Tryd.underlying63 rfl Tryd.ti63 rfl LenC.h) rfl ?_
  refine wpl_t0 (t_stA Tryd.ti63 rfl rfl LenC.h OneC.h LenC.h) (fun _ => ?_)
  refine wpl_nil <| ex_then <| wpc_ret ?_
  refine retv1 (.inl rfl) rfl (rv_agg Tryd.underlying63 rfl Tryd.ti63 rfl (fun w h => h.atB) zz0) ?_
  exact fun w h => ⟨rfl, h.below⟩
theorem is_ (p : Pth) (to : UInt32) (want : UInt8) (kv : Value) (ks : List RK) (w : World) (hp : p.seen w.cell?) (hkv : Seen w.cell? kv ks.length 18 (rks ks)) (hlim : SmP p) (hG : Glb w) (hkl : ks.length ≤ 100) :
    Calls Tryd.prog 33 [.agg p.c.toArray, .int .u32 to.toNat, .int .u8 want.toNat, kv].toArray w (Pur w (.bool (decide (vrV p to ks = want)))) := by
  obtain ⟨pf, pa, pb, pl, hv, hs⟩ := p
  have hh : Seen w.cell? hv hs.length 24 (hcs hs) := hp.1
  have svh := hh.sv
  have lh := svh.le
  simp only [maxLen] at lh
  have skv := hkv.sv
  have lkv := skv.le
  simp only [maxLen] at lkv
  refine enter (m := 25) (R := Mem w [] [] []) Tryd.func33 rfl rfl (Nat.le_of_ble_eq_true rfl) (Mem.start w) ?_
  refine wpc_seq <| wpc_region ?_
  refine wpl_t (t_box rfl [.int .u8 (pf.toNat : Int), .int .u64 (pa.toNat : Int), .int .u64 (pb.toNat : Int), .int .i64 pl, hv] rfl) rfl (fun b4 => ?_)
  refine wpl_q (q_pure rfl) rfl <| wpl_nil <| ex_then <| wpc_seq <| wpc_region <| wpl_q (q_ldN Tryd.underlying29 rfl Tryd.ti29 rfl LenC.h) rfl <| wpl_q (q_pure rfl) rfl <| wpl_q (q_pure rfl) rfl ?_
  refine wpl_t (t_pur Tryd.hb24 rfl fun w h => by
    have q := verify42 ⟨pf, pa, pb, pl, hv, hs⟩ to kv ks w (hp.old h) (h.seen_old hkv) hlim (glob h hG)
    rw [vrE_ok (show ¬ 100 < ks.length from zz13)] at q
    exact q) rfl (fun b15 => ?_)
  refine wpl_q (q_pure rfl) rfl <| wpl_q (q_pure rfl) rfl <| wpl_q (q_pure rfl) rfl <| wpl_q (q_pure rfl) rfl <| wpl_q (q_pure rfl) rfl <| wpl_nil <| ex_then <| wpc_seq <| wpc_region <| wpl_q (q_pure rfl) rfl <| wpl_q (q_tru (q_eqI rfl rfl) rfl) rfl <| wpl_q (q_pure rfl) rfl ?_
  refine wpl_on rfl rfl <| wpl_q (q_pure rfl) rfl <| wpl_on rfl rfl <| wpl_q (q_pure rfl) rfl <| wpl_on rfl rfl <| wpl_q (q8_eql rfl rfl) rfl <| wpl_q (q_pure rfl) rfl <| wpl_q (q_pure rfl) rfl <| wpl_nil <| ex_then <| wpc_ret ?_
  refine ret1 (.inl rfl) rfl rfl ?_
  exact fun w h => ⟨rfl, h.below⟩
theorem alive  (w : World)  (hG : Glb w) :
    Calls Tryd.prog 34 [].toArray w (Pur w (.bool true)) := by
  refine enter (m := 84) (R := Mem w [] [] []) Tryd.func34 rfl rfl (Nat.le_of_ble_eq_true rfl) (Mem.start w) ?_
  refine wpc_seq <| wpc_region <| wpl_q (q_pure rfl) rfl <| wpl_nil <| ex_then <| wpc_seq <| wpc_region ?_
  refine wpl_tp (t_callPF Tryd.hb30 rfl fun w h => two_ w (glob h hG)) rfl (fun b12 p12 => ?_)
  haveI : OneC b12.c := Pth.sv.one p12.1
  have t2 := p12.2
  have l2 := t2.len
  refine wpl_q (q_pure rfl) rfl <| wpl_q (q_pure rfl) rfl <| wpl_q (q_pure rfl) rfl ?_
  refine wpl_t (t_alloc Tryd.ti29 Pth.z.c rfl) rfl (fun b1 => ?_)
  refine wpl_t0 (t_stA Tryd.ti29 rfl rfl LenC.h OneC.h LenC.h) (fun _ => ?_)
  refine wpl_q (q_pure rfl) rfl <| wpl_nil <| ex_then <| wpc_seq <| wpc_region ?_
  refine wpl_t (t_pur Tryd.hb31 rfl fun w h => key_ 1 w (glob h hG)) rfl (fun b15 => ?_)
  refine wpl_q (q_build (cs := RK.c (rkS 10 (sB 1) 0)) rfl (built_rk 10 ⟨keyR (sB 1).1 0, keyR_l _ _⟩ (keyH 0))) rfl ?_
  refine wpl_t (t_pur Tryd.hb31 rfl fun w h => key_ 2 w (glob h hG)) rfl (fun b17 => ?_)
  refine wpl_q (q_build (cs := RK.c (rkS 20 (sB 2) 0)) rfl (built_rk 20 ⟨keyR (sB 2).1 0, keyR_l _ _⟩ (keyH 0))) rfl ?_
  refine wpl_t (t_alloc Tryd.ti80 RK.z.c rfl) rfl (fun b3 => ?_)
  refine wpl_t (t_alloc Tryd.ti80 RK.z.c rfl) rfl (fun b4 => ?_)
  refine wpl_t0 (t_stA Tryd.ti80 rfl rfl LenC.h OneC.h LenC.h) (fun _ => ?_)
  refine wpl_t0 (t_stA Tryd.ti80 rfl rfl LenC.h OneC.h LenC.h) (fun _ => ?_)
  refine wpl_nil <| ex_then <| wpc_seq <| wpc_region <| wpl_q (q_ldN Tryd.underlying29 rfl Tryd.ti29 rfl LenC.h) rfl ?_
  refine wpl_tp (t_callP1 Tryd.hb15 rfl fun w h => by
    have q := systems b12 w ⟨h.seen_row zz6, hopsF_at h zz6⟩
    rw [t2.sys.1, t2.sys.2] at q
    exact q) rfl (fun b21 p21 => ?_)
  refine wpl_q (q_pure rfl) rfl <| wpl_q (q_pure rfl) rfl <| wpl_q (q_pure rfl) rfl <| wpl_q (q_pure rfl) rfl <| wpl_q (q_pure rfl) rfl <| wpl_nil <| ex_then <| wpc_seq <| wpc_region <| wpl_q (q_ldN Tryd.underlying29 rfl Tryd.ti29 rfl LenC.h) rfl ?_
  refine wpl_tp (t_callP1 Tryd.hb13 rfl fun w h => by
    have q := hopMessage b12 0 w ⟨h.seen_row zz6, hopsF_at h zz6⟩ t2.sm (glob h hG)
    rw [t2.msg0.1, t2.msg0.2, t2.m0] at q
    exact q) rfl (fun b26 p26 => ?_)
  refine wpl_q (q_pure rfl) rfl <| wpl_q (q_pure rfl) rfl <| wpl_q (q_pure rfl) rfl <| wpl_q (q_pure rfl) rfl <| wpl_q (q_pure rfl) rfl <| wpl_nil <| ex_then <| wpc_seq <| wpc_region <| wpl_q (q_ldN Tryd.underlying29 rfl Tryd.ti29 rfl LenC.h) rfl ?_
  refine wpl_tp (t_callP1 Tryd.hb13 rfl fun w h => by
    have q := hopMessage b12 1 w ⟨h.seen_row zz6, hopsF_at h zz6⟩ t2.sm (glob h hG)
    rw [t2.msg1.1, t2.msg1.2, t2.m1] at q
    exact q) rfl (fun b31 p31 => ?_)
  refine wpl_q (q_pure rfl) rfl <| wpl_q (q_pure rfl) rfl <| wpl_q (q_pure rfl) rfl <| wpl_q (q_pure rfl) rfl <| wpl_q (q_pure rfl) rfl <| wpl_nil <| ex_then <| wpc_seq ?_
  refine wpc_draw 51 zz5 (fun _ h => h.drew) ?_
  refine wpd_p 0 rfl zz5 trivial (q_pure rfl) rfl sk0 ?_
  refine wpd_p 1 rfl zz5 trivial (q_pure rfl) rfl sk0 ?_
  refine wpd_p 2 rfl zz5 ⟨_, rfl, rfl⟩ (q_pure rfl) rfl sk0 ?_
  refine wpd_p 3 rfl zz5 ⟨_, rfl, rfl⟩ (q_tru (q_eqI rfl rfl) rfl) rfl sk0 ?_
  refine wpd_p 4 rfl zz5 trivial (q_pure rfl) rfl sk0 ?_
  refine wpd_p 5 rfl zz5 trivial (q_pure rfl) rfl sk0 ?_
  refine wpd_p 6 rfl zz5 ⟨_, rfl, rfl⟩ (q_pure rfl) rfl sk0 ?_
  refine wpd_tp 7 rfl zz5 ⟨_, rfl, rfl⟩ (t_bsV (v32s [(20 : UInt32), (20 : UInt32), (10 : UInt32)]) Tryd.underlying38 Tryd.ti49 rfl rfl zz17 zz17 rfl (v32s_one _)) rfl (fun _ => (fun w h => .inr (h.sub SubC.h SubC.h))) (fun b41 p41 => ?_)
  refine wpd_t 8 rfl zz5 ⟨_, rfl, rfl⟩ (t_pur (v := .bool true) Tryd.hb20 rfl fun w h => by
    have q := refSameSystems b21 [20, 20, 10] b41 [20, 20, 10] w (h.seen_row zz6) (h.seen_row zz6)
    rwa [decide_eq_true rfl] at q) rfl (fun _ => (fun w h => .inr (h.sub SubC.h SubC.h))) (fun b42 => ?_)
  refine wpd_p 9 rfl zz5 trivial (q_pure rfl) rfl (fun w h => .inr (h.sub SubC.h SubC.h)) ?_
  refine wpd_p 10 rfl zz5 trivial (q_pure rfl) rfl (fun w h => .inr (h.sub SubC.h SubC.h)) ?_
  refine wpd_p 11 rfl zz5 ⟨_, rfl, rfl⟩ (q_pure rfl) rfl (fun w h => .inr (h.sub SubC.h SubC.h)) ?_
  refine wpd_p 12 rfl zz5 ⟨_, rfl, rfl⟩ (q_tru (q_eqI rfl rfl) rfl) rfl (fun w h => .inr (h.sub SubC.h SubC.h)) ?_
  refine wpd_p 13 rfl zz5 trivial (q_pure rfl) rfl (fun w h => .inr (h.sub SubC.h SubC.h)) ?_
  refine wpd_p 14 rfl zz5 trivial (q_pure rfl) rfl (fun w h => .inr (h.sub SubC.h SubC.h)) ?_
  refine wpd_p 15 rfl zz5 ⟨_, rfl, rfl⟩ (q_pure rfl) rfl (fun w h => .inr (h.sub SubC.h SubC.h)) ?_
  refine wpd_p 16 rfl zz5 ⟨_, rfl, rfl⟩ (q_lenW Tryd.underlying32 rfl zz4) rfl (fun w h => .inr (h.sub SubC.h SubC.h)) ?_
  refine wpd_p 17 rfl zz5 ⟨_, rfl, rfl⟩ (q_tru (q_eqI rfl rfl) rfl) rfl (fun w h => .inr (h.sub SubC.h SubC.h)) ?_
  refine wpd_p 18 rfl zz5 trivial (q_pure rfl) rfl (fun w h => .inr (h.sub SubC.h SubC.h)) ?_
  refine wpd_p 19 rfl zz5 trivial (q_pure rfl) rfl (fun w h => .inr (h.sub SubC.h SubC.h)) ?_
  refine wpd_p 20 rfl zz5 ⟨_, rfl, rfl⟩ (q_pure rfl) rfl (fun w h => .inr (h.sub SubC.h SubC.h)) ?_
  refine wpd_p 21 rfl zz5 ⟨_, rfl, rfl⟩ (q_tru (q_eqI rfl rfl) rfl) rfl (fun w h => .inr (h.sub SubC.h SubC.h)) ?_
  refine wpd_p 22 rfl zz5 trivial (q_pure rfl) rfl (fun w h => .inr (h.sub SubC.h SubC.h)) ?_
  refine wpd_p 23 rfl zz5 trivial (q_pure rfl) rfl (fun w h => .inr (h.sub SubC.h SubC.h)) ?_
  refine wpd_p 24 rfl zz5 ⟨_, rfl, rfl⟩ (q_pure rfl) rfl (fun w h => .inr (h.sub SubC.h SubC.h)) ?_
  refine wpd_p 25 rfl zz5 ⟨_, rfl, rfl⟩ (q_lenW Tryd.underlying32 rfl zz4) rfl (fun w h => .inr (h.sub SubC.h SubC.h)) ?_
  refine wpd_p 26 rfl zz5 ⟨_, rfl, rfl⟩ (q_tru (q_eqI rfl rfl) rfl) rfl (fun w h => .inr (h.sub SubC.h SubC.h)) ?_
  refine wpd_p 27 rfl zz5 trivial (q_pure rfl) rfl (fun w h => .inr (h.sub SubC.h SubC.h)) ?_
  refine wpd_p 28 rfl zz5 trivial (q_pure rfl) rfl (fun w h => .inr (h.sub SubC.h SubC.h)) ?_
  refine wpd_q 29 rfl zz5 ⟨_, rfl, rfl⟩ (q_ldN Tryd.underlying29 rfl Tryd.ti29 rfl LenC.h) rfl (fun w h => h.sub SubC.h SubC.h) ?_
  refine wpd_q 30 rfl zz5 ⟨_, rfl, rfl⟩ (q_ldN Tryd.underlying80 rfl Tryd.ti80 rfl LenC.h) rfl (fun w h => h.sub SubC.h SubC.h) ?_
  refine wpd_q 31 rfl zz5 ⟨_, rfl, rfl⟩ (q_ldN Tryd.underlying80 rfl Tryd.ti80 rfl LenC.h) rfl (fun w h => h.sub SubC.h SubC.h) ?_
  refine wpd_tp 32 rfl zz5 ⟨_, rfl, rfl⟩ (t_bsG [.agg (RK.c (rkS 10 (sB 1) 0)).toArray, .agg (RK.c (rkS 20 (sB 2) 0)).toArray] (rks [(rkS 10 (sB 1) 0), (rkS 20 (sB 2) 0)]) Tryd.underlying50 Tryd.ti80 rfl zz17 rfl zz17 zz17 rfl zz37 rfl) rfl (fun _ => (fun w h => .inr (h.sub SubC.h SubC.h))) (fun b66 p66 => ?_)
  refine wpd_t 33 rfl zz5 ⟨_, rfl, rfl⟩ (t_pur (v := .bool true) Tryd.hb33 rfl fun w h => by
    have q := is_ b12 30 1 b66 [(rkS 10 (sB 1) 0), (rkS 20 (sB 2) 0)] w ⟨h.seen_row zz6, hopsF_at h zz6⟩ (h.seen_row zz6) t2.sm (glob h hG) zz17
    rwa [decide_eq_true ((t2.vr zz17 _).2 ⟨rfl, zz40, zz40⟩)] at q) rfl (fun _ => (fun w h => .inr (h.sub SubC.h SubC.h))) (fun b67 => ?_)
  refine wpd_p 34 rfl zz5 trivial (q_pure rfl) rfl (fun w h => .inr (h.sub SubC.h SubC.h)) ?_
  refine wpd_p 35 rfl zz5 trivial (q_pure rfl) rfl (fun w h => .inr (h.sub SubC.h SubC.h)) ?_
  refine wpd_q 36 rfl zz5 ⟨_, rfl, rfl⟩ (q_ldN Tryd.underlying29 rfl Tryd.ti29 rfl LenC.h) rfl (fun w h => h.sub SubC.h SubC.h) ?_
  refine wpd_q 37 rfl zz5 ⟨_, rfl, rfl⟩ (q_ldN Tryd.underlying80 rfl Tryd.ti80 rfl LenC.h) rfl (fun w h => h.sub SubC.h SubC.h) ?_
  refine wpd_q 38 rfl zz5 ⟨_, rfl, rfl⟩ (q_ldN Tryd.underlying80 rfl Tryd.ti80 rfl LenC.h) rfl (fun w h => h.sub SubC.h SubC.h) ?_
  refine wpd_tp 39 rfl zz5 ⟨_, rfl, rfl⟩ (t_bsG [.agg (RK.c (rkS 10 (sB 1) 0)).toArray, .agg (RK.c (rkS 20 (sB 2) 0)).toArray] (rks [(rkS 10 (sB 1) 0), (rkS 20 (sB 2) 0)]) Tryd.underlying50 Tryd.ti80 rfl zz17 rfl zz17 zz17 rfl zz37 rfl) rfl (fun _ => (fun w h => .inr (h.sub SubC.h SubC.h))) (fun b73 p73 => ?_)
  refine wpd_t 40 rfl zz5 ⟨_, rfl, rfl⟩ (t_pur (v := .bool true) Tryd.hb33 rfl fun w h => by
    have q := is_ b12 40 2 b73 [(rkS 10 (sB 1) 0), (rkS 20 (sB 2) 0)] w ⟨h.seen_row zz6, hopsF_at h zz6⟩ (h.seen_row zz6) t2.sm (glob h hG) zz17
    rwa [decide_eq_true (t2.no zz17 (fun q => absurd q.1 zz17))] at q) rfl (fun _ => (fun w h => .inr (h.sub SubC.h SubC.h))) (fun b74 => ?_)
  refine wpd_p 41 rfl zz5 trivial (q_pure rfl) rfl (fun w h => .inr (h.sub SubC.h SubC.h)) ?_
  refine wpd_p 42 rfl zz5 trivial (q_pure rfl) rfl (fun w h => .inr (h.sub SubC.h SubC.h)) ?_
  refine wpd_q 43 rfl zz5 ⟨_, rfl, rfl⟩ (q_ldN Tryd.underlying29 rfl Tryd.ti29 rfl LenC.h) rfl (fun w h => h.sub SubC.h SubC.h) ?_
  refine wpd_q 44 rfl zz5 ⟨_, rfl, rfl⟩ (q_ldN Tryd.underlying80 rfl Tryd.ti80 rfl LenC.h) rfl (fun w h => h.sub SubC.h SubC.h) ?_
  refine wpd_t 45 rfl zz5 ⟨_, rfl, rfl⟩ (t_pur Tryd.hb31 rfl fun w h => key_ 2 w (glob h hG)) rfl (fun _ => (fun w h => .inr (h.sub SubC.h SubC.h))) (fun b79 => ?_)
  refine wpd_p 46 rfl zz5 ⟨_, rfl, rfl⟩ (q_build (cs := RK.c (rkS 21 (sB 2) 0)) rfl (built_rk 21 ⟨keyR (sB 2).1 0, keyR_l _ _⟩ (keyH 0))) rfl (fun w h => .inr (h.sub SubC.h SubC.h)) ?_
  refine wpd_tp 47 rfl zz5 ⟨_, rfl, rfl⟩ (t_bsG [.agg (RK.c (rkS 10 (sB 1) 0)).toArray, .agg (RK.c (rkS 21 (sB 2) 0)).toArray] (rks [(rkS 10 (sB 1) 0), (rkS 21 (sB 2) 0)]) Tryd.underlying50 Tryd.ti80 rfl zz17 rfl zz17 zz17 rfl zz37 rfl) rfl (fun _ => (fun w h => .inr (h.sub SubC.h SubC.h))) (fun b81 p81 => ?_)
  refine wpd_t 48 rfl zz5 ⟨_, rfl, rfl⟩ (t_pur (v := .bool true) Tryd.hb33 rfl fun w h => by
    have q := is_ b12 30 2 b81 [(rkS 10 (sB 1) 0), (rkS 21 (sB 2) 0)] w ⟨h.seen_row zz6, hopsF_at h zz6⟩ (h.seen_row zz6) t2.sm (glob h hG) zz17
    rwa [decide_eq_true (t2.no zz17 two_bad)] at q) rfl (fun _ => (fun w h => .inr (h.sub SubC.h SubC.h))) (fun b82 => ?_)
  refine wpd_p 49 rfl zz5 trivial (q_pure rfl) rfl (fun w h => .inr (h.sub SubC.h SubC.h)) ?_
  refine wpd_p 50 rfl zz5 trivial (q_pure rfl) rfl (fun w h => .inr (h.sub SubC.h SubC.h)) ?_
  refine wpd_done zz5 ?_
  refine ex_then <| wpc_ret ?_
  refine ret1 (.inl rfl) rfl rfl ?_
  exact fun w h => ⟨rfl, h.below⟩
end Go.Proofs.YtjpfhkjmjnjggaaDoor
namespace Go.Proofs.YtjpfhkjmjnjggaaDoor
open Go Go.PL Go.RowKit
def bk (ks : List RK) (n : Nat) : List RK := (ks.drop (ks.length - n)).reverse
theorem bk_len {ks : List RK} {n : Nat} (h : n ≤ ks.length) : (bk ks n).length = n := by
  unfold bk; rw [List.length_reverse, List.length_drop]; omega
theorem bk_len0 (ks : List RK) : (bk ks (ks.length - 0)).length = ks.length := bk_len (Nat.le_refl _)
instance oneC_rks {l : List RK} : OneC (rks l) := ⟨fun u hu => by
  unfold rks at hu
  obtain ⟨x, hx, hu2⟩ := List.mem_flatten.1 hu
  obtain ⟨k, -, rfl⟩ := List.mem_map.1 hx
  exact RK.c_one k u hu2⟩
theorem bk_step {ks : List RK} {m : Nat} (h : m < ks.length) : bk ks (ks.length - m) = bk ks (ks.length - (m + 1)) ++ [ks.getD m RK.z] := by
  unfold bk
  rw [show ks.length - (ks.length - m) = m from zz13, show ks.length - (ks.length - (m + 1)) = m + 1 from zz13, List.drop_eq_getElem_cons h, List.reverse_cons, getD_RK h]
theorem bk_all (ks : List RK) : bk ks ks.length = ks.reverse := by unfold bk; rw [Nat.sub_self, List.drop_zero]
theorem bk_all0 (ks : List RK) : bk ks (ks.length - 0) = ks.reverse := bk_all ks
theorem bk_none (ks : List RK) : bk ks 0 = [] := by unfold bk; rw [Nat.sub_zero, List.drop_length]; rfl
theorem bk_mem (ks : List RK) : ∀ k, k ∈ ks ↔ k ∈ bk ks (ks.length - 0) := fun k => by rw [bk_all0, List.mem_reverse]
theorem rks_one (l : List RK) (k : RK) : rks l ++ rks [k] = rks (l ++ [k]) := by unfold rks; rw [List.map_append, List.flatten_append]
theorem more_1 {p : Pth} {to : UInt32} {ks : List RK} {k : RK} (hk : ks.length ≤ 50) (h : vrV p to ks = 1) : vrV p to (bk ks (ks.length - 0) ++ [k]) = 1 :=
  vrV_more zz13 (by rw [List.length_append, bk_len0]; simp; omega) (fun x hx => List.mem_append_left _ ((bk_mem ks x).1 hx)) h
theorem more_0 {p : Pth} {to : UInt32} {ks : List RK} {k : RK} (hk : ks.length ≤ 50) (h : vrV p to ks = 0) : vrV p to (bk ks (ks.length - 0) ++ [k]) = 0 := by
  have hn : p.hs.length = 0 := Decidable.not_not.1 fun q => vrV_known zz13 q h
  exact vrV_none (by rw [List.length_append, bk_len0]; simp; omega) hn
theorem more_p {p : Pth} {to : UInt32} {ks : List RK} (hk : ks.length ≤ 50) : vrV p to (bk ks (ks.length - 0)) = vrV p to ks :=
  (vrV_perm zz13 (by rw [bk_len0]; omega) (bk_mem ks)).symm
theorem lawMore (p : Pth) (to : UInt32) (kv : Value) (ks : List RK) (k : RK) (w : World) (hp : p.seen w.cell?) (hkv : Seen w.cell? kv ks.length 18 (rks ks)) (hG : Glb w) :
    Calls Tryd.prog 9 [.agg p.c.toArray, .int .u32 to.toNat, kv, .agg (RK.c k).toArray].toArray w (Pur w (.bool true)) := by
  obtain ⟨pf, pa, pb, pl, hv, hs⟩ := p
  have hh : Seen w.cell? hv hs.length 24 (hcs hs) := hp.1
  have svh := hh.sv
  have lh := svh.le
  simp only [maxLen] at lh
  have skv := hkv.sv
  have lkv := skv.le
  simp only [maxLen] at lkv
  refine enter (m := 103) (R := Mem w [] [] []) Tryd.func9 rfl rfl (Nat.le_of_ble_eq_true rfl) (Mem.start w) ?_
  refine wpc_seq <| wpc_region ?_
  refine wpl_t (t_box rfl [.int .u8 (pf.toNat : Int), .int .u64 (pa.toNat : Int), .int .u64 (pb.toNat : Int), .int .i64 pl, hv] rfl) rfl (fun b4 => ?_)
  refine wpl_t (t_box rfl (RK.c k) rfl) rfl (fun b7 => ?_)
  refine wpl_q (q_pure rfl) rfl <| wpl_nil <| ex_then <| wpc_seq <| wpc_region ?_
  refine wpl_t (t_pur (v := .bool true) Tryd.hb34 rfl fun w h => alive w (glob h hG)) rfl (fun b18 => ?_)
  refine wpl_q (q_pure rfl) rfl <| wpl_nil <| ex_then <| wpc_seq <| wpc_seq <| wpc_region <| wpl_q (q_ldN Tryd.underlying29 rfl Tryd.ti29 rfl LenC.h) rfl ?_
  refine wpl_t (t_pur Tryd.hb11 rfl fun w h => refGreat42 ⟨pf, pa, pb, pl, hv, hs⟩ w (hp.old h)) rfl (fun b20 => ?_)
  refine wpl_q (q_pure rfl) rfl ?_
  refine wpl_bool2 21 20 rfl rfl (fun hb21 => ?_) (fun hb21 => ?_)
  ·
   refine wpl_off rfl rfl rfl rfl <| wpl_off rfl rfl rfl rfl <| wpl_off rfl rfl rfl rfl <| wpl_q (q_pure rfl) rfl <| wpl_q (q_pure rfl) rfl <| wpl_off rfl rfl rfl rfl <| wpl_off rfl rfl rfl rfl <| wpl_q (q_pure rfl) rfl <| wpl_nil <| ex_then ?_
   refine wpc_cond_t rfl ?_
   refine wpc_seq <| wpc_region <| wpl_q (q_pure rfl) rfl <| wpl_q (q_pure rfl) rfl <| wpl_nil <| ex_then <| wpc_ret ?_
   refine ex_then_ret ?_
   refine ret1 (.inl rfl) rfl rfl ?_
   exact fun w h => ⟨rfl, h.below⟩
  ·
   have hng : ¬ GreatP ⟨pf, pa, pb, pl, hv, hs⟩ := of_decide_eq_false hb21
   obtain ⟨hsm, hn35⟩ := great_no hng
   refine wpl_on rfl rfl <| wpl_q (q_pure rfl) rfl <| wpl_on rfl rfl ?_
   refine wpl_q (q_lenW Tryd.underlying50 rfl zz4) rfl ?_
   refine wpl_on rfl rfl <| wpl_q (q_pure rfl) rfl <| wpl_q (q_pure rfl) rfl <| wpl_q (q_pure rfl) rfl ?_
   refine wpl_bool2 26 24 rfl rfl (fun hb26 => ?_) (fun hb26 => ?_)
   ·
    refine wpl_off rfl rfl rfl rfl <| wpl_off rfl rfl rfl rfl <| wpl_q (q_pure rfl) rfl <| wpl_nil <| ex_then ?_
    refine wpc_cond_t rfl ?_
    refine wpc_seq <| wpc_region <| wpl_q (q_pure rfl) rfl <| wpl_q (q_pure rfl) rfl <| wpl_nil <| ex_then <| wpc_ret ?_
    refine ex_then_ret ?_
    refine ret1 (.inl rfl) rfl rfl ?_
    exact fun w h => ⟨rfl, h.below⟩
   ·
    have hk50 : ks.length ≤ 50 := by have := of_decide_eq_false hb26; omega
    refine wpl_on rfl rfl <| wpl_q (q_pure rfl) rfl <| wpl_on rfl rfl <| wpl_q (q_pure rfl) rfl <| wpl_q (q_pure rfl) rfl <| wpl_nil <| ex_then ?_
    refine wpc_cond_f rfl ?_
    refine wpc_skip <| ex_then <| wpc_seq <| wpc_region <| wpl_q (q_pure rfl) rfl <| wpl_nil <| ex_then <| wpc_seq <| wpc_seq <| wpc_region <| wpl_q (q_pure rfl) rfl ?_
    refine wpl_q (q_lenW Tryd.underlying50 rfl zz4) rfl ?_
    first | refine wpl_q (qop_eq (q_pure rfl) (congrArg (Value.int .i64) (wk_i64 zz13 zz13))) rfl ?_ | refine wpl_q (q_pure rfl) rfl ?_
    refine wpl_q (q_pure rfl) rfl <| wpl_nil <| ex_then <| wpc_block ?_
    refine wpc_loopc (ι := { x : Nat × Value // (x.1 ≤ ks.length) ∧ (SV x.2 (bk ks (ks.length - x.1)).length) }) [(1, _), (2, _), (4, _), (7, _), (9, _)] (fun x Lc => (11, .int .i64 (((x.1.1 : Nat) : Int) - 1)) :: (10, x.1.2) :: Lc) (fun x => Mem w [] [.row x.1.2 (bk ks (ks.length - x.1.1)).length 80 18 (rks (bk ks (ks.length - x.1.1))), .blk b7 80 (RK.c k), .blk b4 29 [.int .u8 (pf.toNat : Int), .int .u64 (pa.toNat : Int), .int .u64 (pb.toNat : Int), .int .i64 pl, hv]] []) (fun x => x.1.1) ⟨(ks.length, .slice none 0 0), ⟨Nat.le_refl _, by rw [Nat.sub_self, bk_none]; exact SV.nil⟩⟩ zz10 ?_ ?_
    ·
     exact fun w h => by
       dsimp only
       rw [Nat.sub_self, bk_none]
       exact h.nilRow 80 18
    ·
     rintro ⟨⟨s, v⟩, ⟨hi0, hi1⟩⟩; try dsimp only
     have hi0 : s ≤ ks.length := hi0; have hi1 : SV v (bk ks (ks.length - s)).length := hi1
     refine wpc_seq <| wpc_seq <| wpc_region <| wpl_q (q_pure rfl) rfl <| wpl_q (q_pure rfl) rfl <| wpl_nil <| ex_then ?_
     refine wpc_cond rfl (fun hc35 => ?_) (fun hc35 => ?_)
     ·
      simp only [decide_eq_true_eq, ge_iff_le] at hc35
      obtain ⟨m, rfl⟩ : ∃ m, s = m + 1 := ⟨s - 1, zz13⟩
      have hml : m < ks.length := by omega
      have hbl : (bk ks (ks.length - (m + 1)) ++ [(ks.getD m RK.z)]).length = (bk ks (ks.length - (m + 1))).length + 1 := List.length_append
      have hb5 := bk_len (ks := ks) (n := ks.length - (m + 1)) zz13
      refine wpc_re 11 rfl (congrArg (Value.int .i64) (show (((m + 1 : Nat) : Int) - 1) = ((m : Nat) : Int) from zz13)) ?_
      refine wpc_skip <| ex_then <| wpc_seq <| wpc_block <| wpc_region <| wpl_q (q_pure rfl) rfl <| wpl_q (q_pure rfl) rfl <| wpl_q (q_pure rfl) rfl ?_
      refine wpl_q (q_idxW Tryd.underlying50 Tryd.ti80 rfl rfl zz4 zz2) rfl ?_
      refine wpl_q (q_ldWN Tryd.underlying80 rfl Tryd.ti80 rfl (fun w h => h.seen_old hkv) (RK.c (ks.getD m RK.z)) (cat_part RK.c_length RK.z hml) (RK.c_length _)) rfl ?_
      refine wpl_tp (t_bsG [.agg (RK.c (ks.getD m RK.z)).toArray] (rks [(ks.getD m RK.z)]) Tryd.underlying50 Tryd.ti80 rfl zz17 rfl zz17 zz17 rfl zz24 rfl) rfl (fun b43 p43 => ?_)
      refine wpl_tp (t_apW Tryd.underlying50 Tryd.ti80 rfl zz17 rfl rfl (fun w h => zz9) OneC.h zz2 zz2 (rks (bk ks (ks.length - (m + 1)) ++ [(ks.getD m RK.z)])) (rks_one _ _)) rfl (fun b44 p44 => ?_)
      refine wpl_q (q_pure rfl) rfl <| wpl_nil <| ex_block <| ex_then <| wpc_region <| wpl_q (q_pure rfl) rfl ?_
      first | refine wpl_q (qop_eq (q_pure rfl) (congrArg (Value.int .i64) (wk_i64 zz13 zz13))) rfl ?_ | refine wpl_q (q_pure rfl) rfl ?_
      refine wpl_q (q_pure rfl) rfl <| wpl_nil ?_
      refine ex_again ⟨(m, b44), ⟨by show m ≤ ks.length; omega, by show SV b44 (bk ks (ks.length - m)).length; rw [bk_step hml, hbl]; exact p44⟩⟩ ?_ ?_ ?_
      ·
       exact zz10
      ·
       exact fun w h => by
         dsimp only
         rw [bk_step hml, hbl]
         exact h.sel
      ·
       show m < m + 1; omega
     ·
      simp only [decide_eq_false_iff_not, ge_iff_le] at hc35
      obtain rfl : s = 0 := by omega
      have hb5 := bk_len (ks := ks) (n := ks.length - 0) zz13
      have hbl : (bk ks (ks.length - 0) ++ [k]).length = (bk ks (ks.length - 0)).length + 1 := List.length_append
      refine wpc_exit ?_
      refine ex_then_exit ?_
      refine ex_then_exit ?_
      refine ex_block_hit ?_
      refine ex_then <| wpc_seq <| wpc_region <| wpl_q (q_ldN Tryd.underlying29 rfl Tryd.ti29 rfl LenC.h) rfl <| wpl_q (q_pure rfl) rfl <| wpl_q (q_pure rfl) rfl ?_
      refine wpl_t (t_pur (v := .tuple #[.int .u8 ((vrV ⟨pf, pa, pb, pl, hv, hs⟩ to ks).toNat : Int), .int .i64 0]) Tryd.hb24 rfl fun w h => by
        have q := verify42 ⟨pf, pa, pb, pl, hv, hs⟩ to kv ks w (hp.old h) (h.seen_old hkv) hsm (glob h hG)
        rw [vrE_ok (show ¬ 100 < (ks).length from zz13)] at q
        exact q) rfl (fun b49 => ?_)
      refine wpl_q (q_pure rfl) rfl <| wpl_q (q_pure rfl) rfl <| wpl_q (q_pure rfl) rfl <| wpl_q (q_pure rfl) rfl <| wpl_q (q_pure rfl) rfl <| wpl_nil <| ex_then <| wpc_seq <| wpc_region <| wpl_q (q_ldN Tryd.underlying29 rfl Tryd.ti29 rfl LenC.h) rfl <| wpl_q (q_pure rfl) rfl <| wpl_q (q_pure rfl) rfl ?_
      refine wpl_t (t_pur (v := .tuple #[.int .u8 ((vrV ⟨pf, pa, pb, pl, hv, hs⟩ to ks).toNat : Int), .int .i64 0]) Tryd.hb24 rfl fun w h => by
        have q := verify42 ⟨pf, pa, pb, pl, hv, hs⟩ to v (bk ks (ks.length - 0)) w (hp.old h) (h.seen_row zz6) hsm (glob h hG)
        rw [vrE_ok (show ¬ 100 < ((bk ks (ks.length - 0))).length from zz13), more_p hk50] at q
        exact q) rfl (fun b56 => ?_)
      refine wpl_q (q_pure rfl) rfl <| wpl_q (q_pure rfl) rfl <| wpl_q (q_pure rfl) rfl <| wpl_q (q_pure rfl) rfl <| wpl_q (q_pure rfl) rfl <| wpl_nil <| ex_then <| wpc_seq ?_
      refine wpc_drawM [.blk b7 80 (RK.c k), .blk b4 29 [.int .u8 (pf.toNat : Int), .int .u64 (pa.toNat : Int), .int .u64 (pb.toNat : Int), .int .i64 pl, hv]] 99 zz5 zz8 ?_
      refine wpd_q 0 rfl zz5 trivial (q_ldN Tryd.underlying29 rfl Tryd.ti29 rfl LenC.h) rfl (fun w h => h.sub SubC.h SubC.h) ?_
      refine wpd_p 1 rfl zz5 trivial (q_pure rfl) rfl (fun w h => .inr (h.sub SubC.h SubC.h)) ?_
      refine wpd_p 2 rfl zz5 trivial (q_pure rfl) rfl (fun w h => .inr (h.sub SubC.h SubC.h)) ?_
      refine wpd_q 3 rfl zz5 trivial (q_ldN Tryd.underlying80 rfl Tryd.ti80 rfl LenC.h) rfl (fun w h => h.sub SubC.h SubC.h) ?_
      refine wpd_tp 4 rfl zz5 trivial (t_bsG [.agg (RK.c k).toArray] (rks [k]) Tryd.underlying50 Tryd.ti80 rfl zz17 rfl zz17 zz17 rfl zz24 rfl) rfl (fun _ => (fun w h => .inr (h.sub SubC.h SubC.h))) (fun b64 p64 => ?_)
      refine wpd_tp 5 rfl zz5 trivial (t_apW Tryd.underlying50 Tryd.ti80 rfl zz17 rfl rfl (fun w h => zz9) OneC.h zz2 zz2 (rks ((bk ks (ks.length - 0)) ++ [k])) (rks_one _ _)) rfl (fun _ => (fun w h => .inr (h.sub SubC.h SubC.h))) (fun b65 p65 => ?_)
      refine wpd_t 6 rfl zz5 trivial (t_pur (v := .tuple #[.int .u8 ((vrV ⟨pf, pa, pb, pl, hv, hs⟩ to ((bk ks (ks.length - 0)) ++ [k])).toNat : Int), .int .i64 0]) Tryd.hb24 rfl fun w h => by
        have q := verify42 ⟨pf, pa, pb, pl, hv, hs⟩ to b65 ((bk ks (ks.length - 0)) ++ [k]) w (hp.old h) (by rw [hbl]; exact h.seen_row zz6) hsm (glob h hG)
        rw [vrE_ok (show ¬ 100 < (((bk ks (ks.length - 0)) ++ [k])).length from zz13)] at q
        exact q) rfl (fun _ => (fun w h => .inr (h.sub SubC.h SubC.h))) (fun b66 => ?_)
      refine wpd_p 7 rfl zz5 trivial (q_pure rfl) rfl (fun w h => .inr (h.sub SubC.h SubC.h)) ?_
      refine wpd_p 8 rfl zz5 trivial (q_pure rfl) rfl (fun w h => .inr (h.sub SubC.h SubC.h)) ?_
      refine wpd_p 9 rfl zz5 trivial (q_pure rfl) rfl (fun w h => .inr (h.sub SubC.h SubC.h)) ?_
      refine wpd_p 10 rfl zz5 trivial (q_pure rfl) rfl (fun w h => .inr (h.sub SubC.h SubC.h)) ?_
      refine wpd_p 11 rfl zz5 trivial (q_pure rfl) rfl (fun w h => .inr (h.sub SubC.h SubC.h)) ?_
      refine wpd_done zz5 ?_
      refine ex_then <| wpc_seq <| wpc_region <| wpl_q (q_pure rfl) rfl <| wpl_q (q_pure rfl) rfl <| wpl_on rfl rfl <| wpl_q (q_pure rfl) rfl <| wpl_on rfl rfl <| wpl_q (q_tru (q_eqI rfl rfl) rfl) rfl <| wpl_q (q_pure rfl) rfl <| wpl_q (q_pure rfl) rfl <| wpl_on rfl rfl ?_
      refine wpl_q (q_pure rfl) rfl <| wpl_on rfl rfl <| wpl_q (q_tru (q_eqI rfl rfl) rfl) rfl <| wpl_q (q_pure rfl) rfl <| wpl_q (q_pure rfl) rfl <| wpl_on rfl rfl <| wpl_q (q_pure rfl) rfl <| wpl_on rfl rfl <| wpl_q (q_tru (q_eqI rfl rfl) rfl) rfl <| wpl_q (q_pure rfl) rfl <| wpl_q (q_pure rfl) rfl <| wpl_on rfl rfl ?_
      refine wpl_q (q_pure rfl) rfl <| wpl_on rfl rfl <| wpl_q (q_pure rfl) rfl <| wpl_on rfl rfl <| wpl_q (q_tru (q8_eql rfl rfl) rfl) rfl <| wpl_q (q_pure rfl) rfl <| wpl_q (q_pure rfl) rfl <| wpl_on rfl rfl <| wpl_q (q_pure rfl) rfl <| wpl_on rfl rfl ?_
      refine wpl_q (q8_neq (b := (1 : UInt8)) rfl rfl) rfl ?_
      refine wpl_on rfl rfl <| wpl_q (q_pure rfl) rfl ?_
      refine wpl_bool2 90 89 rfl rfl (fun hb90 => ?_) (fun hb90 => ?_)
      ·
       refine wpl_off rfl rfl rfl rfl <| wpl_off rfl rfl rfl rfl <| wpl_on rfl rfl <| wpl_q (q_pure rfl) rfl <| wpl_q (q_pure rfl) rfl <| wpl_q (q_pure rfl) rfl <| wpl_on rfl rfl <| wpl_q (q_pure rfl) rfl <| wpl_on rfl rfl ?_
       refine wpl_q (q8_neq (b := (0 : UInt8)) rfl rfl) rfl ?_
       refine wpl_on rfl rfl <| wpl_q (q_pure rfl) rfl ?_
       refine wpl_bool2 98 97 rfl rfl (fun hb98 => ?_) (fun hb98 => ?_)
       ·
        refine wpl_off rfl rfl rfl rfl <| wpl_off rfl rfl rfl rfl <| wpl_on rfl rfl <| wpl_q (q_pure rfl) rfl <| wpl_q (q_pure rfl) rfl <| wpl_q (q_pure rfl) rfl <| wpl_nil <| ex_then <| wpc_ret ?_
        refine ret1 (.inl rfl) rfl rfl ?_
        exact fun w h => ⟨rfl, h.below⟩
       ·
        have hx0 : (vrV ⟨pf, pa, pb, pl, hv, hs⟩ to ks) = 0 := by simpa using hb98
        refine wpl_on rfl rfl <| wpl_q (q_pure rfl) rfl <| wpl_on rfl rfl ?_
        refine wpl_q (q_tru (q8_eql (b := (0 : UInt8)) rfl rfl) (more_0 hk50 hx0)) rfl ?_
        refine wpl_on rfl rfl <| wpl_q (q_pure rfl) rfl <| wpl_q (q_pure rfl) rfl <| wpl_q (q_pure rfl) rfl <| wpl_nil <| ex_then <| wpc_ret ?_
        refine ret1 (.inl rfl) rfl rfl ?_
        exact fun w h => ⟨rfl, h.below⟩
      ·
       have hx1 : (vrV ⟨pf, pa, pb, pl, hv, hs⟩ to ks) = 1 := by simpa using hb90
       refine wpl_on rfl rfl <| wpl_q (q_pure rfl) rfl <| wpl_on rfl rfl ?_
       refine wpl_q (q_tru (q8_eql (b := (1 : UInt8)) rfl rfl) (more_1 hk50 hx1)) rfl ?_
       refine wpl_on rfl rfl <| wpl_q (q_pure rfl) rfl <| wpl_q (q_pure rfl) rfl <| wpl_q (q_pure rfl) rfl <| wpl_on rfl rfl <| wpl_q (q_pure rfl) rfl <| wpl_on rfl rfl ?_
       refine wpl_q (q8_neq (b := (0 : UInt8)) rfl rfl) rfl ?_
       refine wpl_on rfl rfl <| wpl_q (q_pure rfl) rfl ?_
       refine wpl_bool2 98 97 rfl rfl (fun hb98 => ?_) (fun hb98 => ?_)
       ·
        refine wpl_off rfl rfl rfl rfl <| wpl_off rfl rfl rfl rfl <| wpl_on rfl rfl <| wpl_q (q_pure rfl) rfl <| wpl_q (q_pure rfl) rfl <| wpl_q (q_pure rfl) rfl <| wpl_nil <| ex_then <| wpc_ret ?_
        refine ret1 (.inl rfl) rfl rfl ?_
        exact fun w h => ⟨rfl, h.below⟩
       ·
        have hx0 : (vrV ⟨pf, pa, pb, pl, hv, hs⟩ to ks) = 0 := by simpa using hb98
        refine wpl_on rfl rfl <| wpl_q (q_pure rfl) rfl <| wpl_on rfl rfl ?_
        refine wpl_q (q_tru (q8_eql (b := (0 : UInt8)) rfl rfl) (more_0 hk50 hx0)) rfl ?_
        refine wpl_on rfl rfl <| wpl_q (q_pure rfl) rfl <| wpl_q (q_pure rfl) rfl <| wpl_q (q_pure rfl) rfl <| wpl_nil <| ex_then <| wpc_ret ?_
        refine ret1 (.inl rfl) rfl rfl ?_
        exact fun w h => ⟨rfl, h.below⟩
end Go.Proofs.YtjpfhkjmjnjggaaDoor
namespace Go.Proofs.YtjpfhkjmjnjggaaDoor
open Go Go.PL Go.RowKit
section
variable {H : Type} {enc : TypeId × Value → H} {w : World} {base : Nat} {sp : Nat → Bool} {held : Bool}
theorem opensRK : Opens enc Tryd.prog w base sp held 80 (fun (k : RK) c _ => c = RK.c k) := by
  intro n c y h
  obtain ⟨⟨a, k, _⟩, x0, y0, d0, e0, h0, x1, y1, d1, e1, h1, h2⟩ := opens_struct Tryd.underlying80 (fin := 18) zz5 (OpensFs.cons (s := 1) rfl zz5 (opens_u32 Tryd.underlying49) (OpensFs.cons (s := 17) rfl zz5 opensKey (OpensFs.nil _))) n c y h
  dsimp only at h0 h1 h2
  have e : c = RK.c (a, k) := by rw [e0, e1, h0, h1, h2]; simp [RK.c]
  exact ⟨(a, k), e⟩
theorem opensRKs : Opens enc Tryd.prog w base sp held 50 (fun (p : Value × List RK) c _ => c = [p.1] ∧ Seen w.cell? p.1 p.2.length 18 (rks p.2)) := by
  intro n cs y h
  obtain ⟨⟨v, qs⟩, h1, h2, h3, _⟩ := opens_slice Tryd.underlying50 (sz := 18) zz5 opensRK n cs y h
  refine ⟨(v, qs.map (·.1)), h1, ?_⟩
  have e : (qs.map (·.2.1)).flatten = rks (qs.map (·.1)) := by
    rw [rks, List.map_map]
    congr 1
    exact List.map_congr_left fun q hq => (h3 q hq).1
  dsimp only at h2 ⊢
  rw [List.length_map, ← e]; exact h2
end
end Go.Proofs.YtjpfhkjmjnjggaaDoor
namespace Go.Proofs.YtjpfhkjmjnjggaaDoor
open Go Go.PL Go.RowKit
instance {a b : Hop} : Decidable (sameH a b) := by unfold sameH; exact inferInstance
theorem lawDiffers (p : Pth) (q : Pth) (i : Int) (w : World) (hp : p.seen w.cell?) (hqp : q.seen w.cell?) (hG : Glb w) :
    Calls Tryd.prog 10 [.agg p.c.toArray, .agg q.c.toArray, .int .i64 i].toArray w (Pur w (.bool true)) := by
  obtain ⟨pf, pa, pb, pl, hv, hs⟩ := p
  have hh : Seen w.cell? hv hs.length 24 (hcs hs) := hp.1
  have hq : ∀ h ∈ hs, h.seen w.cell? := hp.2
  have svh := hh.sv
  have lh := svh.le
  simp only [maxLen] at lh
  obtain ⟨pf2, pa2, pb2, pl2, hv2, hs2⟩ := q
  have hh2 : Seen w.cell? hv2 hs2.length 24 (hcs hs2) := hqp.1
  have hq2 : ∀ h ∈ hs2, h.seen w.cell? := hqp.2
  have svh2 := hh2.sv
  have lh2 := svh2.le
  simp only [maxLen] at lh2
  refine enter (m := 143) (R := Mem w [] [] []) Tryd.func10 rfl rfl (Nat.le_of_ble_eq_true rfl) (Mem.start w) ?_
  refine wpc_seq <| wpc_region ?_
  refine wpl_t (t_box rfl [.int .u8 (pf.toNat : Int), .int .u64 (pa.toNat : Int), .int .u64 (pb.toNat : Int), .int .i64 pl, hv] rfl) rfl (fun b3 => ?_)
  refine wpl_t (t_box rfl [.int .u8 (pf2.toNat : Int), .int .u64 (pa2.toNat : Int), .int .u64 (pb2.toNat : Int), .int .i64 pl2, hv2] rfl) rfl (fun b4 => ?_)
  refine wpl_q (q_pure rfl) rfl <| wpl_nil <| ex_then <| wpc_seq <| wpc_region ?_
  refine wpl_t (t_pur (v := .bool true) Tryd.hb34 rfl fun w h => alive w (glob h hG)) rfl (fun b15 => ?_)
  refine wpl_q (q_pure rfl) rfl <| wpl_nil <| ex_then <| wpc_seq <| wpc_seq <| wpc_region <| wpl_q (q_ldN Tryd.underlying29 rfl Tryd.ti29 rfl LenC.h) rfl ?_
  refine wpl_t (t_pur Tryd.hb11 rfl fun w h => refGreat42 ⟨pf, pa, pb, pl, hv, hs⟩ w (hp.old h)) rfl (fun b17 => ?_)
  refine wpl_q (q_pure rfl) rfl ?_
  refine wpl_bool2 18 17 rfl rfl (fun hb18 => ?_) (fun hb18 => ?_)
  ·
   refine wpl_off rfl rfl rfl rfl <| wpl_off rfl rfl rfl rfl <| wpl_q (q_pure rfl) rfl <| wpl_q (q_pure rfl) rfl <| wpl_off rfl rfl rfl rfl <| wpl_off rfl rfl rfl rfl <| wpl_off rfl rfl rfl rfl <| wpl_q (q_pure rfl) rfl <| wpl_q (q_pure rfl) rfl <| wpl_off rfl rfl rfl rfl <| wpl_off rfl rfl rfl rfl <| wpl_off rfl rfl rfl rfl ?_
   refine wpl_q (q_pure rfl) rfl <| wpl_q (q_pure rfl) rfl <| wpl_off rfl rfl rfl rfl <| wpl_off rfl rfl rfl rfl <| wpl_q (q_pure rfl) rfl <| wpl_q (q_pure rfl) rfl <| wpl_off rfl rfl rfl rfl <| wpl_off rfl rfl rfl rfl <| wpl_off rfl rfl rfl rfl <| wpl_off rfl rfl rfl rfl <| wpl_off rfl rfl rfl rfl <| wpl_q (q_pure rfl) rfl ?_
   refine wpl_q (q_pure rfl) rfl <| wpl_off rfl rfl rfl rfl <| wpl_off rfl rfl rfl rfl <| wpl_off rfl rfl rfl rfl <| wpl_off rfl rfl rfl rfl <| wpl_off rfl rfl rfl rfl <| wpl_q (q_pure rfl) rfl <| wpl_q (q_pure rfl) rfl <| wpl_off rfl rfl rfl rfl <| wpl_off rfl rfl rfl rfl <| wpl_q (q_pure rfl) rfl <| wpl_nil ?_
   refine ex_then ?_
   refine wpc_cond_t rfl ?_
   refine wpc_seq <| wpc_region <| wpl_q (q_pure rfl) rfl <| wpl_q (q_pure rfl) rfl <| wpl_nil <| ex_then <| wpc_ret ?_
   refine ex_then_ret ?_
   refine ret1 (.inl rfl) rfl rfl ?_
   exact fun w h => ⟨rfl, h.below⟩
  ·
   have hng : ¬ GreatP ⟨pf, pa, pb, pl, hv, hs⟩ := of_decide_eq_false hb18
   obtain ⟨hsm, hn35⟩ := great_no hng
   refine wpl_on rfl rfl <| wpl_q (q_ldN Tryd.underlying29 rfl Tryd.ti29 rfl LenC.h) rfl <| wpl_on rfl rfl ?_
   refine wpl_t (t_pur Tryd.hb11 rfl fun w h => refGreat42 ⟨pf2, pa2, pb2, pl2, hv2, hs2⟩ w (hqp.old h)) rfl (fun b20 => ?_)
   refine wpl_q (q_pure rfl) rfl <| wpl_q (q_pure rfl) rfl ?_
   refine wpl_bool2 22 20 rfl rfl (fun hb22 => ?_) (fun hb22 => ?_)
   ·
    refine wpl_off rfl rfl rfl rfl <| wpl_off rfl rfl rfl rfl <| wpl_off rfl rfl rfl rfl <| wpl_q (q_pure rfl) rfl <| wpl_q (q_pure rfl) rfl <| wpl_off rfl rfl rfl rfl <| wpl_off rfl rfl rfl rfl <| wpl_off rfl rfl rfl rfl <| wpl_q (q_pure rfl) rfl <| wpl_q (q_pure rfl) rfl <| wpl_off rfl rfl rfl rfl <| wpl_off rfl rfl rfl rfl ?_
    refine wpl_q (q_pure rfl) rfl <| wpl_q (q_pure rfl) rfl <| wpl_off rfl rfl rfl rfl <| wpl_off rfl rfl rfl rfl <| wpl_off rfl rfl rfl rfl <| wpl_off rfl rfl rfl rfl <| wpl_off rfl rfl rfl rfl <| wpl_q (q_pure rfl) rfl <| wpl_q (q_pure rfl) rfl <| wpl_off rfl rfl rfl rfl <| wpl_off rfl rfl rfl rfl <| wpl_off rfl rfl rfl rfl ?_
    refine wpl_off rfl rfl rfl rfl <| wpl_off rfl rfl rfl rfl <| wpl_q (q_pure rfl) rfl <| wpl_q (q_pure rfl) rfl <| wpl_off rfl rfl rfl rfl <| wpl_off rfl rfl rfl rfl <| wpl_q (q_pure rfl) rfl <| wpl_nil <| ex_then ?_
    refine wpc_cond_t rfl ?_
    refine wpc_seq <| wpc_region <| wpl_q (q_pure rfl) rfl <| wpl_q (q_pure rfl) rfl <| wpl_nil <| ex_then <| wpc_ret ?_
    refine ex_then_ret ?_
    refine ret1 (.inl rfl) rfl rfl ?_
    exact fun w h => ⟨rfl, h.below⟩
   ·
    have hng2 : ¬ GreatP ⟨pf2, pa2, pb2, pl2, hv2, hs2⟩ := of_decide_eq_false hb22
    obtain ⟨hsm2, hn352⟩ := great_no hng2
    refine wpl_on rfl rfl <| wpl_q (q_ldN Tryd.underlying29 rfl Tryd.ti29 rfl LenC.h) rfl <| wpl_on rfl rfl ?_
    refine wpl_t (t_pur Tryd.hb18 rfl fun w h => refCheck42 ⟨pf, pa, pb, pl, hv, hs⟩ w (hp.old h)) rfl (fun b24 => ?_)
    refine wpl_on rfl rfl <| wpl_q (q_pure rfl) rfl <| wpl_q (q_pure rfl) rfl <| wpl_q (q_pure rfl) rfl ?_
    refine wpl_bool2 27 25 rfl rfl (fun hb27 => ?_) (fun hb27 => ?_)
    ·
     refine wpl_off rfl rfl rfl rfl <| wpl_off rfl rfl rfl rfl <| wpl_off rfl rfl rfl rfl <| wpl_q (q_pure rfl) rfl <| wpl_q (q_pure rfl) rfl <| wpl_off rfl rfl rfl rfl <| wpl_off rfl rfl rfl rfl <| wpl_q (q_pure rfl) rfl <| wpl_q (q_pure rfl) rfl <| wpl_off rfl rfl rfl rfl <| wpl_off rfl rfl rfl rfl <| wpl_off rfl rfl rfl rfl ?_
     refine wpl_off rfl rfl rfl rfl <| wpl_off rfl rfl rfl rfl <| wpl_q (q_pure rfl) rfl <| wpl_q (q_pure rfl) rfl <| wpl_off rfl rfl rfl rfl <| wpl_off rfl rfl rfl rfl <| wpl_off rfl rfl rfl rfl <| wpl_off rfl rfl rfl rfl <| wpl_off rfl rfl rfl rfl <| wpl_q (q_pure rfl) rfl <| wpl_q (q_pure rfl) rfl <| wpl_off rfl rfl rfl rfl ?_
     refine wpl_off rfl rfl rfl rfl <| wpl_q (q_pure rfl) rfl <| wpl_nil <| ex_then ?_
     refine wpc_cond_t rfl ?_
     refine wpc_seq <| wpc_region <| wpl_q (q_pure rfl) rfl <| wpl_q (q_pure rfl) rfl <| wpl_nil <| ex_then <| wpc_ret ?_
     refine ex_then_ret ?_
     refine ret1 (.inl rfl) rfl rfl ?_
     exact fun w h => ⟨rfl, h.below⟩
    ·
     have hk1 : chkP ⟨pf, pa, pb, pl, hv, hs⟩ = 0 := by simpa using hb27
     refine wpl_on rfl rfl <| wpl_q (q_ldN Tryd.underlying29 rfl Tryd.ti29 rfl LenC.h) rfl <| wpl_on rfl rfl ?_
     refine wpl_t (t_pur Tryd.hb18 rfl fun w h => refCheck42 ⟨pf2, pa2, pb2, pl2, hv2, hs2⟩ w (hqp.old h)) rfl (fun b29 => ?_)
     refine wpl_on rfl rfl <| wpl_q (q_pure rfl) rfl <| wpl_q (q_pure rfl) rfl <| wpl_q (q_pure rfl) rfl ?_
     refine wpl_bool2 32 30 rfl rfl (fun hb32 => ?_) (fun hb32 => ?_)
     ·
      refine wpl_off rfl rfl rfl rfl <| wpl_off rfl rfl rfl rfl <| wpl_q (q_pure rfl) rfl <| wpl_q (q_pure rfl) rfl <| wpl_off rfl rfl rfl rfl <| wpl_off rfl rfl rfl rfl <| wpl_off rfl rfl rfl rfl <| wpl_off rfl rfl rfl rfl <| wpl_off rfl rfl rfl rfl <| wpl_q (q_pure rfl) rfl <| wpl_q (q_pure rfl) rfl <| wpl_off rfl rfl rfl rfl ?_
      refine wpl_off rfl rfl rfl rfl <| wpl_off rfl rfl rfl rfl <| wpl_off rfl rfl rfl rfl <| wpl_off rfl rfl rfl rfl <| wpl_q (q_pure rfl) rfl <| wpl_q (q_pure rfl) rfl <| wpl_off rfl rfl rfl rfl <| wpl_off rfl rfl rfl rfl <| wpl_q (q_pure rfl) rfl <| wpl_nil <| ex_then ?_
      refine wpc_cond_t rfl ?_
      refine wpc_seq <| wpc_region <| wpl_q (q_pure rfl) rfl <| wpl_q (q_pure rfl) rfl <| wpl_nil <| ex_then <| wpc_ret ?_
      refine ex_then_ret ?_
      refine ret1 (.inl rfl) rfl rfl ?_
      exact fun w h => ⟨rfl, h.below⟩
     ·
      have hk2 : chkP ⟨pf2, pa2, pb2, pl2, hv2, hs2⟩ = 0 := by simpa using hb32
      refine wpl_on rfl rfl <| wpl_q (q_pure rfl) rfl <| wpl_on rfl rfl <| wpl_q (q_pure rfl) rfl <| wpl_q (q_pure rfl) rfl <| wpl_q (q_pure rfl) rfl ?_
      refine wpl_bool2 36 34 rfl rfl (fun hb36 => ?_) (fun hb36 => ?_)
      ·
       refine wpl_off rfl rfl rfl rfl <| wpl_off rfl rfl rfl rfl <| wpl_off rfl rfl rfl rfl <| wpl_off rfl rfl rfl rfl <| wpl_off rfl rfl rfl rfl <| wpl_q (q_pure rfl) rfl <| wpl_q (q_pure rfl) rfl <| wpl_off rfl rfl rfl rfl <| wpl_off rfl rfl rfl rfl <| wpl_off rfl rfl rfl rfl <| wpl_off rfl rfl rfl rfl <| wpl_off rfl rfl rfl rfl ?_
       refine wpl_q (q_pure rfl) rfl <| wpl_q (q_pure rfl) rfl <| wpl_off rfl rfl rfl rfl <| wpl_off rfl rfl rfl rfl <| wpl_q (q_pure rfl) rfl <| wpl_nil <| ex_then ?_
       refine wpc_cond_t rfl ?_
       refine wpc_seq <| wpc_region <| wpl_q (q_pure rfl) rfl <| wpl_q (q_pure rfl) rfl <| wpl_nil <| ex_then <| wpc_ret ?_
       refine ex_then_ret ?_
       refine ret1 (.inl rfl) rfl rfl ?_
       exact fun w h => ⟨rfl, h.below⟩
      ·
       have hi0 : ¬ i < 0 := of_decide_eq_false hb36
       refine wpl_on rfl rfl <| wpl_q (q_pure rfl) rfl <| wpl_on rfl rfl <| wpl_q (q_field Tryd.underlying29 rfl Tryd.ti27 rfl rfl _ rfl) rfl <| wpl_on rfl rfl <| wpl_q (q_ld Tryd.underlying27 rfl rfl rfl) rfl <| wpl_on rfl rfl ?_
       refine wpl_q (q_lenW Tryd.underlying27 rfl zz4) rfl ?_
       refine wpl_on rfl rfl <| wpl_q (q_pure rfl) rfl <| wpl_q (q_pure rfl) rfl <| wpl_q (q_pure rfl) rfl ?_
       refine wpl_bool2 43 41 rfl rfl (fun hb43 => ?_) (fun hb43 => ?_)
       ·
        refine wpl_off rfl rfl rfl rfl <| wpl_off rfl rfl rfl rfl <| wpl_off rfl rfl rfl rfl <| wpl_off rfl rfl rfl rfl <| wpl_off rfl rfl rfl rfl <| wpl_q (q_pure rfl) rfl <| wpl_q (q_pure rfl) rfl <| wpl_off rfl rfl rfl rfl <| wpl_off rfl rfl rfl rfl <| wpl_q (q_pure rfl) rfl <| wpl_nil <| ex_then ?_
        refine wpc_cond_t rfl ?_
        refine wpc_seq <| wpc_region <| wpl_q (q_pure rfl) rfl <| wpl_q (q_pure rfl) rfl <| wpl_nil <| ex_then <| wpc_ret ?_
        refine ex_then_ret ?_
        refine ret1 (.inl rfl) rfl rfl ?_
        exact fun w h => ⟨rfl, h.below⟩
       ·
        have hi1 : ¬ ((hs.length : Nat) : Int) ≤ i := of_decide_eq_false hb43
        refine wpl_on rfl rfl <| wpl_q (q_pure rfl) rfl <| wpl_on rfl rfl <| wpl_q (q_field Tryd.underlying29 rfl Tryd.ti27 rfl rfl _ rfl) rfl <| wpl_on rfl rfl <| wpl_q (q_ld Tryd.underlying27 rfl rfl rfl) rfl <| wpl_on rfl rfl ?_
        refine wpl_q (q_lenW Tryd.underlying27 rfl zz4) rfl ?_
        refine wpl_on rfl rfl <| wpl_q (q_pure rfl) rfl <| wpl_q (q_pure rfl) rfl <| wpl_q (q_pure rfl) rfl ?_
        refine wpl_bool2 50 48 rfl rfl (fun hb50 => ?_) (fun hb50 => ?_)
        ·
         refine wpl_off rfl rfl rfl rfl <| wpl_off rfl rfl rfl rfl <| wpl_q (q_pure rfl) rfl <| wpl_nil <| ex_then ?_
         refine wpc_cond_t rfl ?_
         refine wpc_seq <| wpc_region <| wpl_q (q_pure rfl) rfl <| wpl_q (q_pure rfl) rfl <| wpl_nil <| ex_then <| wpc_ret ?_
         refine ex_then_ret ?_
         refine ret1 (.inl rfl) rfl rfl ?_
         exact fun w h => ⟨rfl, h.below⟩
        ·
         have hi2 : ¬ ((hs2.length : Nat) : Int) ≤ i := of_decide_eq_false hb50
         obtain ⟨j, rfl⟩ : ∃ j : Nat, i = (j : Int) := ⟨i.toNat, zz13⟩
         have hj1 : j < hs.length := by omega
         have hj2 : j < hs2.length := by omega
         have hsi := hq _ (getD_memO hj1)
         have hsi2 := hq2 _ (getD_memO hj2)
         haveI := hsi.sv.one
         haveI := hsi2.sv.one
         refine wpl_on rfl rfl <| wpl_q (q_pure rfl) rfl <| wpl_on rfl rfl <| wpl_q (q_pure rfl) rfl <| wpl_q (q_pure rfl) rfl <| wpl_nil <| ex_then ?_
         refine wpc_cond_f rfl ?_
         refine wpc_skip <| ex_then <| wpc_seq <| wpc_region <| wpl_q (q_ldN Tryd.underlying29 rfl Tryd.ti29 rfl LenC.h) rfl <| wpl_q (q_pure rfl) rfl ?_
         refine wpl_tp (t_callP1 Tryd.hb13 rfl fun w h => by
           have q := hopMessage ⟨pf, pa, pb, pl, hv, hs⟩ (j : Int) w (hp.old h) hsm (glob h hG)
           have e0 : msgE ⟨pf, pa, pb, pl, hv, hs⟩ (j : Int) = 0 := msgE_ok hk1 zz13 (by show ¬ ((hs.length : Nat) : Int) ≤ (j : Int); omega)
           have e1 : msgV ⟨pf, pa, pb, pl, hv, hs⟩ (j : Int) = msgB ⟨pf, pa, pb, pl, hv, hs⟩ j := if_pos e0
           rw [e0, e1] at q
           exact q) rfl (fun b58 p58 => ?_)
         refine wpl_q (q_pure rfl) rfl <| wpl_q (q_pure rfl) rfl <| wpl_q (q_pure rfl) rfl <| wpl_q (q_pure rfl) rfl <| wpl_q (q_pure rfl) rfl <| wpl_nil <| ex_then <| wpc_seq <| wpc_region <| wpl_q (q_ldN Tryd.underlying29 rfl Tryd.ti29 rfl LenC.h) rfl <| wpl_q (q_pure rfl) rfl ?_
         refine wpl_tp (t_callP1 Tryd.hb13 rfl fun w h => by
           have q := hopMessage ⟨pf2, pa2, pb2, pl2, hv2, hs2⟩ (j : Int) w (hqp.old h) hsm2 (glob h hG)
           have e0 : msgE ⟨pf2, pa2, pb2, pl2, hv2, hs2⟩ (j : Int) = 0 := msgE_ok hk2 zz13 (by show ¬ ((hs2.length : Nat) : Int) ≤ (j : Int); omega)
           have e1 : msgV ⟨pf2, pa2, pb2, pl2, hv2, hs2⟩ (j : Int) = msgB ⟨pf2, pa2, pb2, pl2, hv2, hs2⟩ j := if_pos e0
           rw [e0, e1] at q
           exact q) rfl (fun b64 p64 => ?_)
         refine wpl_q (q_pure rfl) rfl <| wpl_q (q_pure rfl) rfl <| wpl_q (q_pure rfl) rfl <| wpl_q (q_pure rfl) rfl <| wpl_q (q_pure rfl) rfl <| wpl_nil <| ex_then <| wpc_seq <| wpc_seq <| wpc_region <| wpl_q (q_pure rfl) rfl ?_
         refine wpl_q (q_bt (c := false) (q_neI rfl rfl) rfl) rfl ?_
         refine wpl_q (q_pure rfl) rfl <| wpl_on rfl rfl <| wpl_q (q_pure rfl) rfl <| wpl_on rfl rfl ?_
         refine wpl_q (q_bt (c := false) (q_neI rfl rfl) rfl) rfl ?_
         refine wpl_q (q_pure rfl) rfl <| wpl_nil <| ex_then ?_
         refine wpc_cond_f rfl ?_
         refine wpc_skip <| ex_then ?_
         refine wpc_cutc ({ x : Nat × Nat // True }) [(2, .int .i64 ((j : Nat) : Int)), (3, .pointer (some ⟨b3, 0, none⟩)), (4, .pointer (some ⟨b4, 0, none⟩)), (7, .bool true), (8, b58), (10, b64)] (fun x Lc => (12, .pointer (some ⟨x.1.1, 0, none⟩)) :: (13, .pointer (some ⟨x.1.2, 0, none⟩)) :: Lc) (fun x => Mem w [] [.blk x.1.1 68 (hs.getD j Hop.z).c, .blk x.1.2 68 (hs2.getD j Hop.z).c, .row b64 (msgB ⟨pf2, pa2, pb2, pl2, hv2, hs2⟩ j).length 5 1 (v8s (msgB ⟨pf2, pa2, pb2, pl2, hv2, hs2⟩ j)), .row b58 (msgB ⟨pf, pa, pb, pl, hv, hs⟩ j).length 5 1 (v8s (msgB ⟨pf, pa, pb, pl, hv, hs⟩ j)), .blk b4 29 [.int .u8 (pf2.toNat : Int), .int .u64 (pa2.toNat : Int), .int .u64 (pb2.toNat : Int), .int .i64 pl2, hv2], .blk b3 29 [.int .u8 (pf.toNat : Int), .int .u64 (pa.toNat : Int), .int .u64 (pb.toNat : Int), .int .i64 pl, hv]] []) ?_ ?_
         ·
          refine wpc_draw 99 zz5 (fun _ h => h.drew) ?_
          refine wpd_p 0 rfl zz5 trivial (q_field Tryd.underlying29 rfl Tryd.ti27 rfl rfl _ rfl) rfl sk0 ?_
          refine wpd_q 1 rfl zz5 trivial (q_ld Tryd.underlying27 rfl rfl rfl) rfl (fun _ h => h) ?_
          refine wpd_p 2 rfl zz5 trivial (q_pure rfl) rfl sk0 ?_
          refine wpd_p 3 rfl zz5 trivial (q_idxW Tryd.underlying27 Tryd.ti68 rfl rfl zz4 zz2) rfl sk0 ?_
          refine wpd_q 4 rfl zz5 trivial (q_ldWN Tryd.underlying68 rfl Tryd.ti68 rfl (fun w h => h.seen_old hh) (hs.getD j Hop.z).c (cat_part Hop.c_length Hop.z hj1) (Hop.c_length _)) rfl (fun _ h => h) ?_
          refine wpd_p 5 rfl zz5 trivial (q_field Tryd.underlying29 rfl Tryd.ti27 rfl rfl _ rfl) rfl sk0 ?_
          refine wpd_q 6 rfl zz5 trivial (q_ld Tryd.underlying27 rfl rfl rfl) rfl (fun _ h => h) ?_
          refine wpd_p 7 rfl zz5 trivial (q_pure rfl) rfl sk0 ?_
          refine wpd_p 8 rfl zz5 trivial (q_idxW Tryd.underlying27 Tryd.ti68 rfl rfl zz4 zz2) rfl sk0 ?_
          refine wpd_q 9 rfl zz5 trivial (q_ldWN Tryd.underlying68 rfl Tryd.ti68 rfl (fun w h => h.seen_old hh2) (hs2.getD j Hop.z).c (cat_part Hop.c_length Hop.z hj2) (Hop.c_length _)) rfl (fun _ h => h) ?_
          refine wpd_two 10 11 zz5 ?_ ?_
          ·
           refine wpa_t 10 rfl trivial (t_alloc Tryd.ti68 Hop.z.c rfl) rfl (fun _ => (fun w h => .inr (h.sub SubC.h SubC.h))) (fun b12 => ?_)
           refine wpd_t 11 rfl zz5 trivial (t_alloc Tryd.ti68 Hop.z.c rfl) rfl (fun _ => (fun w h => .inr (h.sub SubC.h SubC.h))) (fun b13 => ?_)
           refine wpd_t0 12 rfl zz5 trivial (t_stA Tryd.ti68 rfl rfl LenC.h OneC.h LenC.h) (fun _ => (fun w h => .inr (h.sub SubC.h SubC.h))) (fun _ => ?_)
           refine wpd_t0 13 rfl zz5 trivial (t_stA Tryd.ti68 rfl rfl LenC.h OneC.h LenC.h) (fun _ => (fun w h => .inr (h.sub SubC.h SubC.h))) (fun _ => ?_)
           refine wpd_done zz5 ?_
           refine ex_mid ⟨(b12, b13), trivial⟩ ?_ ?_
           ·
            exact zz10
           ·
            exact fun w h => h.sel
          ·
           refine wpa_t 11 rfl trivial (t_alloc Tryd.ti68 Hop.z.c rfl) rfl (fun _ => (fun w h => .inr (h.sub SubC.h SubC.h))) (fun b13 => ?_)
           refine wpd_t 10 rfl zz5 trivial (t_alloc Tryd.ti68 Hop.z.c rfl) rfl (fun _ => (fun w h => .inr (h.sub SubC.h SubC.h))) (fun b12 => ?_)
           refine wpd_t0 12 rfl zz5 trivial (t_stA Tryd.ti68 rfl rfl LenC.h OneC.h LenC.h) (fun _ => (fun w h => .inr (h.sub SubC.h SubC.h))) (fun _ => ?_)
           refine wpd_t0 13 rfl zz5 trivial (t_stA Tryd.ti68 rfl rfl LenC.h OneC.h LenC.h) (fun _ => (fun w h => .inr (h.sub SubC.h SubC.h))) (fun _ => ?_)
           refine wpd_done zz5 ?_
           refine ex_mid ⟨(b12, b13), trivial⟩ ?_ ?_
           ·
            exact zz10
           ·
            exact fun w h => h.sel
         ·
          rintro ⟨⟨a6, a7⟩, _⟩; try dsimp only
          refine wpc_cutc ({ x : Unit // True }) [(2, .int .i64 ((j : Nat) : Int)), (3, .pointer (some ⟨b3, 0, none⟩)), (4, .pointer (some ⟨b4, 0, none⟩)), (7, .bool true), (8, b58), (10, b64)] (fun x Lc => (14, .bool (decide (sameH (hs.getD j Hop.z) (hs2.getD j Hop.z)))) :: Lc) (fun x => Mem w [] [.blk a6 68 (hs.getD j Hop.z).c, .blk a7 68 (hs2.getD j Hop.z).c, .row b64 (msgB ⟨pf2, pa2, pb2, pl2, hv2, hs2⟩ j).length 5 1 (v8s (msgB ⟨pf2, pa2, pb2, pl2, hv2, hs2⟩ j)), .row b58 (msgB ⟨pf, pa, pb, pl, hv, hs⟩ j).length 5 1 (v8s (msgB ⟨pf, pa, pb, pl, hv, hs⟩ j)), .blk b4 29 [.int .u8 (pf2.toNat : Int), .int .u64 (pa2.toNat : Int), .int .u64 (pb2.toNat : Int), .int .i64 pl2, hv2], .blk b3 29 [.int .u8 (pf.toNat : Int), .int .u64 (pa.toNat : Int), .int .u64 (pb.toNat : Int), .int .i64 pl, hv]] []) ?_ ?_
          ·
           refine wpc_region <| wpl_q (q_field Tryd.underlying68 rfl Tryd.ti49 rfl rfl _ rfl) rfl <| wpl_q (q_ld Tryd.underlying49 rfl rfl (Hop.c_to _)) rfl <| wpl_q (q_field Tryd.underlying68 rfl Tryd.ti49 rfl rfl _ rfl) rfl <| wpl_q (q_ld Tryd.underlying49 rfl rfl (Hop.c_to _)) rfl <| wpl_q (q32_eql rfl rfl) rfl <| wpl_q (q_pure rfl) rfl ?_
           refine wpl_bool2 88 87 rfl rfl (fun hb88 => ?_) (fun hb88 => ?_)
           ·
            have s1 : (hs.getD j Hop.z).to = (hs2.getD j Hop.z).to := of_decide_eq_true hb88
            refine wpl_on rfl rfl <| wpl_q (q_field Tryd.underlying68 rfl Tryd.ti49 rfl rfl _ rfl) rfl <| wpl_on rfl rfl <| wpl_q (q_ld Tryd.underlying49 rfl rfl (Hop.c_sy _)) rfl <| wpl_on rfl rfl <| wpl_q (q_field Tryd.underlying68 rfl Tryd.ti49 rfl rfl _ rfl) rfl <| wpl_on rfl rfl <| wpl_q (q_ld Tryd.underlying49 rfl rfl (Hop.c_sy _)) rfl <| wpl_on rfl rfl <| wpl_q (q32_eql rfl rfl) rfl <| wpl_q (q_pure rfl) rfl <| wpl_q (q_pure rfl) rfl ?_
            refine wpl_bool2 95 93 rfl rfl (fun hb95 => ?_) (fun hb95 => ?_)
            ·
             have s2 : (hs.getD j Hop.z).sy = (hs2.getD j Hop.z).sy := of_decide_eq_true hb95
             refine wpl_on rfl rfl <| wpl_q (q_field Tryd.underlying68 rfl Tryd.ti5 rfl rfl _ rfl) rfl <| wpl_on rfl rfl <| wpl_q (q_ld Tryd.underlying5 rfl rfl (Hop.c_cnt _)) rfl <| wpl_on rfl rfl <| wpl_q (q_field Tryd.underlying68 rfl Tryd.ti5 rfl rfl _ rfl) rfl <| wpl_on rfl rfl <| wpl_q (q_ld Tryd.underlying5 rfl rfl (Hop.c_cnt _)) rfl <| wpl_on rfl rfl <| wpl_q (q8_eql rfl rfl) rfl <| wpl_q (q_pure rfl) rfl <| wpl_q (q_pure rfl) rfl ?_
             refine wpl_bool2 102 100 rfl rfl (fun hb102 => ?_) (fun hb102 => ?_)
             ·
              have s3 : (hs.getD j Hop.z).cnt = (hs2.getD j Hop.z).cnt := of_decide_eq_true hb102
              refine wpl_on rfl rfl <| wpl_q (q_field Tryd.underlying68 rfl Tryd.ti5 rfl rfl _ rfl) rfl <| wpl_on rfl rfl <| wpl_q (q_ld Tryd.underlying5 rfl rfl (Hop.c_fl _)) rfl <| wpl_on rfl rfl <| wpl_q (q_field Tryd.underlying68 rfl Tryd.ti5 rfl rfl _ rfl) rfl <| wpl_on rfl rfl <| wpl_q (q_ld Tryd.underlying5 rfl rfl (Hop.c_fl _)) rfl <| wpl_on rfl rfl <| wpl_q (q8_eql rfl rfl) rfl <| wpl_q (q_pure rfl) rfl <| wpl_q (q_pure rfl) rfl ?_
              refine wpl_bool2 109 107 rfl rfl (fun hb109 => ?_) (fun hb109 => ?_)
              ·
               have s4 : (hs.getD j Hop.z).fl = (hs2.getD j Hop.z).fl := of_decide_eq_true hb109
               refine wpl_on rfl rfl <| wpl_q (q_field Tryd.underlying68 rfl Tryd.ti63 rfl rfl _ rfl) rfl <| wpl_on rfl rfl <| wpl_q (q_ldP Tryd.underlying63 rfl Tryd.ti63 rfl (hs.getD j Hop.z).key (Hop.c_key _) (Hop.key_length _)) rfl <| wpl_on rfl rfl <| wpl_q (q_field Tryd.underlying68 rfl Tryd.ti63 rfl rfl _ rfl) rfl <| wpl_on rfl rfl <| wpl_q (q_ldP Tryd.underlying63 rfl Tryd.ti63 rfl (hs2.getD j Hop.z).key (Hop.c_key _) (Hop.key_length _)) rfl <| wpl_on rfl rfl <| wpl_q (q_eqK rfl rfl (hs.getD j Hop.z).root.2 (hs2.getD j Hop.z).root.2) rfl <| wpl_q (q_pure rfl) rfl ?_
               refine wpl_re 115 rfl (congrArg Value.bool (show _ = decide (sameH (hs.getD j Hop.z) (hs2.getD j Hop.z)) by
                 first
                 | exact (decide_eq_false (fun h : sameH _ _ => s1 h.1)).symm
                 | exact (decide_eq_false (fun h : sameH _ _ => s2 h.2.1)).symm
                 | exact (decide_eq_false (fun h : sameH _ _ => s3 h.2.2.1)).symm
                 | exact (decide_eq_false (fun h : sameH _ _ => s4 h.2.2.2.1)).symm
                 | exact decide_eq_decide.2 ⟨fun h => ⟨s1, s2, s3, s4, h.1, h.2⟩, fun h => ⟨h.2.2.2.2.1, h.2.2.2.2.2⟩⟩)) ?_
               refine wpl_q (q_pure rfl) rfl <| wpl_nil ?_
               refine ex_mid ⟨(), trivial⟩ ?_ ?_
               ·
                exact zz10
               ·
                exact fun w h => by first | exact h | exact h.sub SubC.h SubC.h | exact h.sub zz8 zz8
              ·
               have s4 : ¬ (hs.getD j Hop.z).fl = (hs2.getD j Hop.z).fl := of_decide_eq_false hb109
               refine wpl_off rfl rfl rfl rfl <| wpl_off rfl rfl rfl rfl <| wpl_off rfl rfl rfl rfl <| wpl_off rfl rfl rfl rfl <| wpl_off rfl rfl rfl rfl <| wpl_q (q_pure rfl) rfl ?_
               refine wpl_re 115 rfl (congrArg Value.bool (show _ = decide (sameH (hs.getD j Hop.z) (hs2.getD j Hop.z)) by
                 first
                 | exact (decide_eq_false (fun h : sameH _ _ => s1 h.1)).symm
                 | exact (decide_eq_false (fun h : sameH _ _ => s2 h.2.1)).symm
                 | exact (decide_eq_false (fun h : sameH _ _ => s3 h.2.2.1)).symm
                 | exact (decide_eq_false (fun h : sameH _ _ => s4 h.2.2.2.1)).symm
                 | exact decide_eq_decide.2 ⟨fun h => ⟨s1, s2, s3, s4, h.1, h.2⟩, fun h => ⟨h.2.2.2.2.1, h.2.2.2.2.2⟩⟩)) ?_
               refine wpl_q (q_pure rfl) rfl <| wpl_nil ?_
               refine ex_mid ⟨(), trivial⟩ ?_ ?_
               ·
                exact zz10
               ·
                exact fun w h => by first | exact h | exact h.sub SubC.h SubC.h | exact h.sub zz8 zz8
             ·
              have s3 : ¬ (hs.getD j Hop.z).cnt = (hs2.getD j Hop.z).cnt := of_decide_eq_false hb102
              refine wpl_off rfl rfl rfl rfl <| wpl_off rfl rfl rfl rfl <| wpl_off rfl rfl rfl rfl <| wpl_off rfl rfl rfl rfl <| wpl_off rfl rfl rfl rfl <| wpl_q (q_pure rfl) rfl <| wpl_q (q_pure rfl) rfl <| wpl_off rfl rfl rfl rfl <| wpl_off rfl rfl rfl rfl <| wpl_off rfl rfl rfl rfl <| wpl_off rfl rfl rfl rfl <| wpl_off rfl rfl rfl rfl ?_
              refine wpl_q (q_pure rfl) rfl ?_
              refine wpl_re 115 rfl (congrArg Value.bool (show _ = decide (sameH (hs.getD j Hop.z) (hs2.getD j Hop.z)) by
                first
                | exact (decide_eq_false (fun h : sameH _ _ => s1 h.1)).symm
                | exact (decide_eq_false (fun h : sameH _ _ => s2 h.2.1)).symm
                | exact (decide_eq_false (fun h : sameH _ _ => s3 h.2.2.1)).symm
                | exact (decide_eq_false (fun h : sameH _ _ => s4 h.2.2.2.1)).symm
                | exact decide_eq_decide.2 ⟨fun h => ⟨s1, s2, s3, s4, h.1, h.2⟩, fun h => ⟨h.2.2.2.2.1, h.2.2.2.2.2⟩⟩)) ?_
              refine wpl_q (q_pure rfl) rfl <| wpl_nil ?_
              refine ex_mid ⟨(), trivial⟩ ?_ ?_
              ·
               exact zz10
              ·
               exact fun w h => by first | exact h | exact h.sub SubC.h SubC.h | exact h.sub zz8 zz8
            ·
             have s2 : ¬ (hs.getD j Hop.z).sy = (hs2.getD j Hop.z).sy := of_decide_eq_false hb95
             refine wpl_off rfl rfl rfl rfl <| wpl_off rfl rfl rfl rfl <| wpl_off rfl rfl rfl rfl <| wpl_off rfl rfl rfl rfl <| wpl_off rfl rfl rfl rfl <| wpl_q (q_pure rfl) rfl <| wpl_q (q_pure rfl) rfl <| wpl_off rfl rfl rfl rfl <| wpl_off rfl rfl rfl rfl <| wpl_off rfl rfl rfl rfl <| wpl_off rfl rfl rfl rfl <| wpl_off rfl rfl rfl rfl ?_
             refine wpl_q (q_pure rfl) rfl <| wpl_q (q_pure rfl) rfl <| wpl_off rfl rfl rfl rfl <| wpl_off rfl rfl rfl rfl <| wpl_off rfl rfl rfl rfl <| wpl_off rfl rfl rfl rfl <| wpl_off rfl rfl rfl rfl <| wpl_q (q_pure rfl) rfl ?_
             refine wpl_re 115 rfl (congrArg Value.bool (show _ = decide (sameH (hs.getD j Hop.z) (hs2.getD j Hop.z)) by
               first
               | exact (decide_eq_false (fun h : sameH _ _ => s1 h.1)).symm
               | exact (decide_eq_false (fun h : sameH _ _ => s2 h.2.1)).symm
               | exact (decide_eq_false (fun h : sameH _ _ => s3 h.2.2.1)).symm
               | exact (decide_eq_false (fun h : sameH _ _ => s4 h.2.2.2.1)).symm
               | exact decide_eq_decide.2 ⟨fun h => ⟨s1, s2, s3, s4, h.1, h.2⟩, fun h => ⟨h.2.2.2.2.1, h.2.2.2.2.2⟩⟩)) ?_
             refine wpl_q (q_pure rfl) rfl <| wpl_nil ?_
             refine ex_mid ⟨(), trivial⟩ ?_ ?_
             ·
              exact zz10
             ·
              exact fun w h => by first | exact h | exact h.sub SubC.h SubC.h | exact h.sub zz8 zz8
           ·
            have s1 : ¬ (hs.getD j Hop.z).to = (hs2.getD j Hop.z).to := of_decide_eq_false hb88
            refine wpl_off rfl rfl rfl rfl <| wpl_off rfl rfl rfl rfl <| wpl_off rfl rfl rfl rfl <| wpl_off rfl rfl rfl rfl <| wpl_off rfl rfl rfl rfl <| wpl_q (q_pure rfl) rfl <| wpl_q (q_pure rfl) rfl <| wpl_off rfl rfl rfl rfl <| wpl_off rfl rfl rfl rfl <| wpl_off rfl rfl rfl rfl <| wpl_off rfl rfl rfl rfl <| wpl_off rfl rfl rfl rfl ?_
            refine wpl_q (q_pure rfl) rfl <| wpl_q (q_pure rfl) rfl <| wpl_off rfl rfl rfl rfl <| wpl_off rfl rfl rfl rfl <| wpl_off rfl rfl rfl rfl <| wpl_off rfl rfl rfl rfl <| wpl_off rfl rfl rfl rfl <| wpl_q (q_pure rfl) rfl <| wpl_q (q_pure rfl) rfl <| wpl_off rfl rfl rfl rfl <| wpl_off rfl rfl rfl rfl <| wpl_off rfl rfl rfl rfl ?_
            refine wpl_off rfl rfl rfl rfl <| wpl_off rfl rfl rfl rfl <| wpl_q (q_pure rfl) rfl ?_
            refine wpl_re 115 rfl (congrArg Value.bool (show _ = decide (sameH (hs.getD j Hop.z) (hs2.getD j Hop.z)) by
              first
              | exact (decide_eq_false (fun h : sameH _ _ => s1 h.1)).symm
              | exact (decide_eq_false (fun h : sameH _ _ => s2 h.2.1)).symm
              | exact (decide_eq_false (fun h : sameH _ _ => s3 h.2.2.1)).symm
              | exact (decide_eq_false (fun h : sameH _ _ => s4 h.2.2.2.1)).symm
              | exact decide_eq_decide.2 ⟨fun h => ⟨s1, s2, s3, s4, h.1, h.2⟩, fun h => ⟨h.2.2.2.2.1, h.2.2.2.2.2⟩⟩)) ?_
            refine wpl_q (q_pure rfl) rfl <| wpl_nil ?_
            refine ex_mid ⟨(), trivial⟩ ?_ ?_
            ·
             exact zz10
            ·
             exact fun w h => by first | exact h | exact h.sub SubC.h SubC.h | exact h.sub zz8 zz8
          ·
           rintro ⟨_, _⟩; try dsimp only
           refine wpc_seq <| wpc_seq <| wpc_region <| wpl_q (q_pure rfl) rfl <| wpl_q (q_pure rfl) rfl <| wpl_nil <| ex_then ?_
           refine wpc_cond rfl (fun hc117 => ?_) (fun hc117 => ?_)
           ·
            obtain rfl : j = 0 := by simpa using hc117
            have tell := msg_tell0 (p := ⟨pf, pa, pb, pl, hv, hs⟩) (q := ⟨pf2, pa2, pb2, pl2, hv2, hs2⟩) hk1 hk2 hj1 hj2
            refine wpc_seq <| wpc_region <| wpl_q (q_pure rfl) rfl <| wpl_q (q_pure rfl) rfl <| wpl_on rfl rfl <| wpl_q (q_pure rfl) rfl <| wpl_on rfl rfl <| wpl_q (q_pure rfl) rfl <| wpl_on rfl rfl ?_
            refine wpl_t (t_pur Tryd.hb19 rfl fun w h => refSame b58 (msgB ⟨pf, pa, pb, pl, hv, hs⟩ 0) b64 (msgB ⟨pf2, pa2, pb2, pl2, hv2, hs2⟩ 0) w (h.seen_row zz6) (h.seen_row zz6)) rfl (fun b122 => ?_)
            refine wpl_on rfl rfl <| wpl_q (q_pure rfl) rfl <| wpl_on rfl rfl <| wpl_q (q_pure rfl) rfl ?_
            refine wpl_bool2 124 14 rfl rfl (fun hb124 => ?_) (fun hb124 => ?_)
            ·
             have hsame : sameH (hs.getD 0 Hop.z) (hs2.getD 0 Hop.z) := of_decide_eq_true hb124
             refine wpl_on rfl rfl <| wpl_q (q_field Tryd.underlying29 rfl Tryd.ti26 rfl rfl _ rfl) rfl <| wpl_on rfl rfl ?_
             refine wpl_q (q_ldP Tryd.underlying26 rfl Tryd.ti26 rfl (pfL pf pa pb pl) rfl zz0) rfl ?_
             refine wpl_on rfl rfl <| wpl_q (q_field Tryd.underlying29 rfl Tryd.ti26 rfl rfl _ rfl) rfl <| wpl_on rfl rfl ?_
             refine wpl_q (q_ldP Tryd.underlying26 rfl Tryd.ti26 rfl (pfL pf2 pa2 pb2 pl2) rfl zz0) rfl ?_
             refine wpl_on rfl rfl <| wpl_q (q_eqPfx rfl rfl) rfl <| wpl_on rfl rfl <| wpl_q (q_pure rfl) rfl <| wpl_on rfl rfl ?_
             refine wpl_q (q_tru (q_beq Tryd.underlying4 rfl rfl) (by first | exact decide_eq_decide.2 ⟨fun h => (tell.1 h).2, fun h => tell.2 ⟨hsame, h⟩⟩ | exact decide_eq_false (fun h => hns (tell.1 h).1))) rfl ?_
             refine wpl_q (q_pure rfl) rfl <| wpl_q (q_pure rfl) rfl <| wpl_nil <| ex_then <| wpc_ret ?_
             refine ex_then_ret ?_
             refine ret1 (.inl rfl) rfl rfl ?_
             exact fun w h => ⟨rfl, h.below⟩
            ·
             have hns : ¬ sameH (hs.getD 0 Hop.z) (hs2.getD 0 Hop.z) := of_decide_eq_false hb124
             refine wpl_off rfl rfl rfl rfl <| wpl_off rfl rfl rfl rfl <| wpl_off rfl rfl rfl rfl <| wpl_off rfl rfl rfl rfl <| wpl_off rfl rfl rfl rfl <| wpl_on rfl rfl <| wpl_q (q_pure rfl) rfl <| wpl_on rfl rfl ?_
             refine wpl_q (q_tru (q_beq Tryd.underlying4 rfl rfl) (by first | exact decide_eq_decide.2 ⟨fun h => (tell.1 h).2, fun h => tell.2 ⟨hsame, h⟩⟩ | exact decide_eq_false (fun h => hns (tell.1 h).1))) rfl ?_
             refine wpl_q (q_pure rfl) rfl <| wpl_q (q_pure rfl) rfl <| wpl_nil <| ex_then <| wpc_ret ?_
             refine ex_then_ret ?_
             refine ret1 (.inl rfl) rfl rfl ?_
             exact fun w h => ⟨rfl, h.below⟩
           ·
            refine wpc_skip <| ex_then <| wpc_seq <| wpc_region <| wpl_q (q_pure rfl) rfl <| wpl_q (q_pure rfl) rfl <| wpl_on rfl rfl <| wpl_q (q_pure rfl) rfl <| wpl_on rfl rfl <| wpl_q (q_pure rfl) rfl ?_
            refine wpl_bool2 136 14 rfl rfl (fun hb136 => ?_) (fun hb136 => ?_)
            ·
             refine wpl_off rfl rfl rfl rfl <| wpl_off rfl rfl rfl rfl <| wpl_off rfl rfl rfl rfl <| wpl_off rfl rfl rfl rfl <| wpl_on rfl rfl <| wpl_q (q_pure rfl) rfl <| wpl_q (q_pure rfl) rfl <| wpl_q (q_pure rfl) rfl <| wpl_nil <| ex_then <| wpc_ret ?_
             refine ret1 (.inl rfl) rfl rfl ?_
             exact fun w h => ⟨rfl, h.below⟩
            ·
             have hns : ¬ sameH (hs.getD j Hop.z) (hs2.getD j Hop.z) := of_decide_eq_false hb136
             refine wpl_on rfl rfl <| wpl_q (q_pure rfl) rfl <| wpl_on rfl rfl <| wpl_q (q_pure rfl) rfl <| wpl_on rfl rfl ?_
             refine wpl_t (t_pur (v := .bool false) Tryd.hb19 rfl fun w h => by
               have q := refSame b58 (msgB ⟨pf, pa, pb, pl, hv, hs⟩ j) b64 (msgB ⟨pf2, pa2, pb2, pl2, hv2, hs2⟩ j) w (h.seen_row zz6) (h.seen_row zz6)
               rwa [decide_eq_false (fun e => hns (msg_tell (p := ⟨pf, pa, pb, pl, hv, hs⟩) (q := ⟨pf2, pa2, pb2, pl2, hv2, hs2⟩) hk1 hk2 hj1 hj2 e))] at q) rfl (fun b139 => ?_)
             refine wpl_on rfl rfl <| wpl_q (q_pure rfl) rfl <| wpl_on rfl rfl <| wpl_q (q_pure rfl) rfl <| wpl_q (q_pure rfl) rfl <| wpl_q (q_pure rfl) rfl <| wpl_nil <| ex_then <| wpc_ret ?_
             refine ret1 (.inl rfl) rfl rfl ?_
             exact fun w h => ⟨rfl, h.below⟩
end Go.Proofs.YtjpfhkjmjnjggaaDoor
