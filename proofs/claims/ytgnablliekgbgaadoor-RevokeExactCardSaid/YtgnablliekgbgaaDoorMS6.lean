/- What the statement reaches, in order. -/
import Derived.Test.YtgnablliekgbgaaDoorMSPLN
import Derived.Test.YtgnablliekgbgaaDoorMSPLL
import Derived.Test.YtgnablliekgbgaaDoorMSTI
import Derived.Lib.BufferRead
import Derived.Lib.ConvBytes
import Derived.Laws.IdiomStrings
import Derived.Test.YtgnablliekgbgaaDoorMSPLH
import Derived.Recover
import Derived.Test.YtgnablliekgbgaaDoorMSPLI
import Derived.Test.YtgnablliekgbgaaDoorMSPLZ
import Derived.WalkKit
import Derived.ProofKit
import Derived.OpenShut
import Derived.ChangeOld
import Derived.Below
import Derived.Carry
import Derived.LaidMore
import Derived.Deep.DeepHandedRow
import Derived.Deep.DeepWitnessRowRef
import Derived.Lib.LaidTab
import Derived.Stop.Joined
import Derived.Test.YtgnablliekgbgaaDoorMS5
set_option linter.unusedSimpArgs false
set_option linter.unusedVariables false
set_option maxRecDepth 100000
namespace Go.Proofs.YtgnablliekgbgaaDoor
open Go Go.PL Go.RowKit
theorem sign7 (xs : List UInt8) (ht : Int) (idx : Int) (bv : Value) (bs : List UInt8) (w : World) (hxs : xs.length = 16) (hbv : Seen w.cell? bv bs.length 1 (v8s bs)) (hG : Glb w) :
    Calls Tryd.prog 35 [.agg (v8s xs).toArray, .int .i64 ht, .int .i64 idx, bv].toArray w (GivesP w (fun x : Value × Value => SV x.1 (sigC xs ht idx bs).length ∧ SV x.2 (sigP xs ht idx).length) (fun x : Value × Value => .tuple #[.agg #[.int .i64 (sigI ht idx), x.1, x.2], .int .i64 (sigE ht idx)]) (fun x => [.row x.1 (sigC xs ht idx bs).length 41 16 (v8s (sigC xs ht idx bs).flatten), .row x.2 (sigP xs ht idx).length 41 16 (v8s (sigP xs ht idx).flatten)]) (fun _ => [])) := by
  have sbv := hbv.sv
  have lbv := sbv.le
  simp only [maxLen] at lbv
  refine enter (m := 62) (R := Mem w [] [] []) Tryd.func35 rfl rfl (Nat.le_of_ble_eq_true rfl) (Mem.start w) ?_
  refine wpc_seq <| wpc_region ?_
  refine wpl_t (t_box rfl (v8s xs) rfl) rfl (fun b4 => ?_)
  refine wpl_t (t_alloc Tryd.ti30 _ rfl) rfl (fun b8 => ?_)
  refine wpl_q (q_pure rfl) rfl <| wpl_nil <| ex_then <| wpc_seq <| wpc_seq <| wpc_region <| wpl_q (q_pure rfl) rfl ?_
  refine wpl_t (t_pur Tryd.hb32 rfl fun w h => goodMm _ w) rfl (fun b15 => ?_)
  refine wpl_q (q_pure rfl) rfl <| wpl_q (q_pure rfl) rfl ?_
  refine wpl_bool2 17 16 rfl rfl (fun hb17 => ?_) (fun hb17 => ?_)
  ·
   try simp only [decide_eq_true_eq, decide_eq_false_iff_not, Bool.and_eq_true, Bool.or_eq_true, beq_iff_eq, bne_iff_ne, ne_eq, Bool.not_eq_true', Bool.not_eq_false', Decidable.not_not] at hb17
   refine wpl_off rfl rfl rfl rfl <| wpl_off rfl rfl rfl rfl <| wpl_q (q_pure rfl) rfl <| wpl_q (q_pure rfl) rfl <| wpl_off rfl rfl rfl rfl <| wpl_off rfl rfl rfl rfl <| wpl_off rfl rfl rfl rfl <| wpl_off rfl rfl rfl rfl <| wpl_q (q_pure rfl) rfl <| wpl_nil <| ex_then ?_
   refine wpc_cond_t rfl ?_
   refine wpc_seq <| wpc_region ?_
   refine wpl_q (q_build (cs := [.int .i64 0, .slice none 0 0, .slice none 0 0]) rfl built_sig0) rfl ?_
   refine wpl_t0 (t_stA Tryd.ti30 rfl rfl zz2 zz5 zz2) (fun _ => ?_)
   refine wpl_q (q_pure rfl) rfl <| wpl_nil <| ex_then <| wpc_ret ?_
   refine ex_then_ret ?_
   refine retv2 (.inl rfl) rfl (rv_agg Tryd.underlying30 rfl Tryd.ti30 rfl (fun w h => h.atB) rfl) (rv_tmp rfl) ?_
   exact fun w h => by
     first
     | (
       have hno : ¬ okS ht idx := fun hk => by
         obtain ⟨h1, h2, h3⟩ := hk
         try rw [Int.toNat_natCast] at h3
         first | omega | (simp only [Bool.not_eq_true', decide_eq_false_iff_not, decide_eq_true_eq] at *; omega) | (simp_all; done)
       have e1 : sigC xs ht idx bs = [] := if_neg hno
       have e2 : sigP xs ht idx = [] := if_neg hno
       have e3 : sigI ht idx = 0 := if_neg hno
       have e4 : sigE ht idx = 2 := if_neg hno
       rw [e1, e2, e3, e4]
       exact ⟨(.slice none 0 0, .slice none 0 0), ⟨SV.nil, SV.nil⟩, rfl, h.below, ((h.nilRow 41 16).nilRow 41 16).made (.keep (.keep .nil)) .nil⟩)
     | (
       have hno : ¬ okS (m : Int) idx := fun hk => by
         obtain ⟨h1, h2, h3⟩ := hk
         try rw [Int.toNat_natCast] at h3
         first | omega | (simp only [Bool.not_eq_true', decide_eq_false_iff_not, decide_eq_true_eq] at *; omega) | (simp_all; done)
       have e1 : sigC xs (m : Int) idx bs = [] := if_neg hno
       have e2 : sigP xs (m : Int) idx = [] := if_neg hno
       have e3 : sigI (m : Int) idx = 0 := if_neg hno
       have e4 : sigE (m : Int) idx = 2 := if_neg hno
       rw [e1, e2, e3, e4]
       exact ⟨(.slice none 0 0, .slice none 0 0), ⟨SV.nil, SV.nil⟩, rfl, h.below, ((h.nilRow 41 16).nilRow 41 16).made (.keep (.keep .nil)) .nil⟩)
  ·
   simp only [Bool.not_eq_false', decide_eq_true_eq] at hb17
   obtain ⟨m, rfl⟩ : ∃ m : Nat, ht = (m : Int) := ⟨ht.toNat, zz14⟩
   have hpw := pow_le16Mm (m := m) zz14
   refine wpl_on rfl rfl <| wpl_q (q_pure rfl) rfl <| wpl_on rfl rfl <| wpl_q (q_pure rfl) rfl <| wpl_q (q_pure rfl) rfl <| wpl_q (q_pure rfl) rfl ?_
   refine wpl_bool2 21 19 rfl rfl (fun hb21 => ?_) (fun hb21 => ?_)
   ·
    try simp only [decide_eq_true_eq, decide_eq_false_iff_not, Bool.and_eq_true, Bool.or_eq_true, beq_iff_eq, bne_iff_ne, ne_eq, Bool.not_eq_true', Bool.not_eq_false', Decidable.not_not] at hb21
    refine wpl_off rfl rfl rfl rfl <| wpl_off rfl rfl rfl rfl <| wpl_off rfl rfl rfl rfl <| wpl_off rfl rfl rfl rfl <| wpl_q (q_pure rfl) rfl <| wpl_nil <| ex_then ?_
    refine wpc_cond_t rfl ?_
    refine wpc_seq <| wpc_region ?_
    refine wpl_q (q_build (cs := [.int .i64 0, .slice none 0 0, .slice none 0 0]) rfl built_sig0) rfl ?_
    refine wpl_t0 (t_stA Tryd.ti30 rfl rfl zz2 zz5 zz2) (fun _ => ?_)
    refine wpl_q (q_pure rfl) rfl <| wpl_nil <| ex_then <| wpc_ret ?_
    refine ex_then_ret ?_
    refine retv2 (.inl rfl) rfl (rv_agg Tryd.underlying30 rfl Tryd.ti30 rfl (fun w h => h.atB) rfl) (rv_tmp rfl) ?_
    exact fun w h => by
      first
      | (
        have hno : ¬ okS ht idx := fun hk => by
          obtain ⟨h1, h2, h3⟩ := hk
          try rw [Int.toNat_natCast] at h3
          first | omega | (simp only [Bool.not_eq_true', decide_eq_false_iff_not, decide_eq_true_eq] at *; omega) | (simp_all; done)
        have e1 : sigC xs ht idx bs = [] := if_neg hno
        have e2 : sigP xs ht idx = [] := if_neg hno
        have e3 : sigI ht idx = 0 := if_neg hno
        have e4 : sigE ht idx = 2 := if_neg hno
        rw [e1, e2, e3, e4]
        exact ⟨(.slice none 0 0, .slice none 0 0), ⟨SV.nil, SV.nil⟩, rfl, h.below, ((h.nilRow 41 16).nilRow 41 16).made (.keep (.keep .nil)) .nil⟩)
      | (
        have hno : ¬ okS (m : Int) idx := fun hk => by
          obtain ⟨h1, h2, h3⟩ := hk
          try rw [Int.toNat_natCast] at h3
          first | omega | (simp only [Bool.not_eq_true', decide_eq_false_iff_not, decide_eq_true_eq] at *; omega) | (simp_all; done)
        have e1 : sigC xs (m : Int) idx bs = [] := if_neg hno
        have e2 : sigP xs (m : Int) idx = [] := if_neg hno
        have e3 : sigI (m : Int) idx = 0 := if_neg hno
        have e4 : sigE (m : Int) idx = 2 := if_neg hno
        rw [e1, e2, e3, e4]
        exact ⟨(.slice none 0 0, .slice none 0 0), ⟨SV.nil, SV.nil⟩, rfl, h.below, ((h.nilRow 41 16).nilRow 41 16).made (.keep (.keep .nil)) .nil⟩)
   ·
    try simp only [decide_eq_true_eq, decide_eq_false_iff_not, Bool.and_eq_true, Bool.or_eq_true, beq_iff_eq, bne_iff_ne, ne_eq, Bool.not_eq_true', Bool.not_eq_false', Decidable.not_not] at hb21
    refine wpl_on rfl rfl <| wpl_q (q_pure rfl) rfl <| wpl_on rfl rfl <| wpl_q (q_pure rfl) rfl <| wpl_on rfl rfl ?_
    refine wpl_q (q_shlN (a := 1) rfl rfl zz23 zz1) rfl ?_
    refine wpl_on rfl rfl <| wpl_q (q_pure rfl) rfl <| wpl_q (q_pure rfl) rfl <| wpl_nil <| ex_then ?_
    refine wpc_cond rfl (fun hc26 => ?_) (fun hc26 => ?_)
    ·
     try simp only [decide_eq_true_eq, decide_eq_false_iff_not, Bool.and_eq_true, Bool.or_eq_true, beq_iff_eq, bne_iff_ne, ne_eq, Bool.not_eq_true', Bool.not_eq_false', Decidable.not_not] at hc26
     refine wpc_seq <| wpc_region ?_
     refine wpl_q (q_build (cs := [.int .i64 0, .slice none 0 0, .slice none 0 0]) rfl built_sig0) rfl ?_
     refine wpl_t0 (t_stA Tryd.ti30 rfl rfl zz2 zz5 zz2) (fun _ => ?_)
     refine wpl_q (q_pure rfl) rfl <| wpl_nil <| ex_then <| wpc_ret ?_
     refine ex_then_ret ?_
     refine retv2 (.inl rfl) rfl (rv_agg Tryd.underlying30 rfl Tryd.ti30 rfl (fun w h => h.atB) rfl) (rv_tmp rfl) ?_
     exact fun w h => by
       first
       | (
         have hno : ¬ okS ht idx := fun hk => by
           obtain ⟨h1, h2, h3⟩ := hk
           try rw [Int.toNat_natCast] at h3
           first | omega | (simp only [Bool.not_eq_true', decide_eq_false_iff_not, decide_eq_true_eq] at *; omega) | (simp_all; done)
         have e1 : sigC xs ht idx bs = [] := if_neg hno
         have e2 : sigP xs ht idx = [] := if_neg hno
         have e3 : sigI ht idx = 0 := if_neg hno
         have e4 : sigE ht idx = 2 := if_neg hno
         rw [e1, e2, e3, e4]
         exact ⟨(.slice none 0 0, .slice none 0 0), ⟨SV.nil, SV.nil⟩, rfl, h.below, ((h.nilRow 41 16).nilRow 41 16).made (.keep (.keep .nil)) .nil⟩)
       | (
         have hno : ¬ okS (m : Int) idx := fun hk => by
           obtain ⟨h1, h2, h3⟩ := hk
           try rw [Int.toNat_natCast] at h3
           first | omega | (simp only [Bool.not_eq_true', decide_eq_false_iff_not, decide_eq_true_eq] at *; omega) | (simp_all; done)
         have e1 : sigC xs (m : Int) idx bs = [] := if_neg hno
         have e2 : sigP xs (m : Int) idx = [] := if_neg hno
         have e3 : sigI (m : Int) idx = 0 := if_neg hno
         have e4 : sigE (m : Int) idx = 2 := if_neg hno
         rw [e1, e2, e3, e4]
         exact ⟨(.slice none 0 0, .slice none 0 0), ⟨SV.nil, SV.nil⟩, rfl, h.below, ((h.nilRow 41 16).nilRow 41 16).made (.keep (.keep .nil)) .nil⟩)
    ·
     obtain ⟨q, rfl⟩ : ∃ q : Nat, idx = (q : Int) := ⟨idx.toNat, zz14⟩
     have hq : q < 2 ^ m := by
       simp only [decide_eq_false_iff_not] at hc26
       omega
     have hok : okS (m : Int) (q : Int) := okS_nat zz14 hq
     have e1 : sigC xs m q bs = signF (leafF xs q) bs := if_pos hok
     have e2 : sigP xs m q = pathF xs q m := if_pos hok
     have e3 : sigI m q = q := if_pos hok
     have e4 : sigE m q = 0 := if_pos hok
     refine wpc_skip <| ex_then <| wpc_seq <| wpc_region ?_
     refine wpl_q (q_ldN Tryd.underlying41 rfl Tryd.ti41 rfl zz2) rfl ?_
     refine wpl_q (q_pure rfl) rfl ?_
     refine wpl_q (q_build (cs := v8s xs ++ [Value.int .i64 ((m : Nat) : Int)]) rfl (built_tree _ _ hxs)) rfl ?_
     refine wpl_t (t_alloc Tryd.ti75 _ rfl) rfl (fun b10 => ?_)
     refine wpl_t0 (t_stA Tryd.ti75 rfl rfl zz2 zz5 zz2) (fun _ => ?_)
     refine wpl_nil <| ex_then <| wpc_seq <| wpc_region <| wpl_q (q_pure rfl) rfl ?_
     refine wpl_q (q_ldN Tryd.underlying75 rfl Tryd.ti75 rfl zz2) rfl ?_
     refine wpl_q (q_pure rfl) rfl ?_
     refine wpl_t (t_pur Tryd.hb57 rfl fun w h => leaf7 _ _ _ w zz21 (glob h hG)) rfl (fun b34 => ?_)
     refine wpl_q (q_pure rfl) rfl ?_
     refine wpl_tp (t_callP1 Tryd.hb61 rfl fun w h => sign1 _ _ _ w zz21 zz12 (glob h hG)) rfl (fun b36 p36 => ?_)
     refine wpl_q (q_build (cs := [.int .i64 ((q : Nat) : Int), b36, .slice none 0 0]) rfl (built_sig2 p36 _)) rfl ?_
     refine wpl_t (t_alloc Tryd.ti30 _ rfl) rfl (fun b11 => ?_)
     refine wpl_t0 (t_stA Tryd.ti30 rfl rfl zz2 zz5 zz2) (fun _ => ?_)
     refine wpl_nil <| ex_then <| wpc_seq <| wpc_seq <| wpc_region <| wpl_q (q_ldN Tryd.underlying75 rfl Tryd.ti75 rfl (key_len _ _ hxs)) rfl ?_
     refine wpl_tp (t_callPF Tryd.hb33 rfl fun w h => levels7 _ _ w zz21 zz14 (glob h hG)) rfl (fun b39 p39 => ?_)
     obtain ⟨hq1, hq2⟩ := p39
     refine wpl_q (q_pure rfl) rfl ?_
     refine wpl_q (q_slWh Tryd.underlying73 Tryd.ti28 rfl rfl zz3 zz14) rfl ?_
     refine wpl_q (q_lenW Tryd.underlying73 rfl zz3) rfl ?_
     refine wpl_q (q_pure rfl) rfl <| wpl_nil <| ex_then <| wpc_block ?_
     refine wpc_loopc (ι := { x : Nat × Value // (x.1 ≤ m) ∧ (SV x.2 x.1) }) [(2, _), (8, _), (11, _), (41, _), (42, _)] (fun x Lc => (43, .int .i64 ((x.1.1 : Nat) : Int)) :: Lc) (fun x => Mem w [] [.row x.1.2 x.1.1 41 16 (v8s (pathF xs q x.1.1).flatten), .row b39.1 (m + 1) 28 1 (b39.2.map Prod.fst), .blk b11 30 [.int .i64 ((q : Nat) : Int), b36, x.1.2], .row b36 35 41 16 (v8s (signF (leafF xs q) bs).flatten), .blk b10 75 (v8s xs ++ [Value.int .i64 ((m : Nat) : Int)]), .blk b8 30 [.int .i64 0, .slice none 0 0, .slice none 0 0]] [rowsF 16 b39.2]) (fun x => m - x.1.1) ⟨(0, .slice none 0 0), ⟨Nat.zero_le _, SV.nil⟩⟩ zz9 ?_ ?_
     ·
      exact fun w h => by
        dsimp only
        exact (h.nilRow 41 16).sub (.keep (.keep (.keep (.keep (.keep (.keep .nil)))))) (Sub.refl _)
     ·
      rintro ⟨⟨k, vp⟩, ⟨hi0, hi1⟩⟩; try dsimp only
      have hi0 : k ≤ m := hi0; have hi1 : SV vp k := hi1
      refine wpc_seq <| wpc_region <| wpl_q (q_pure rfl) rfl <| wpl_nil <| ex_then <| wpc_seq ?_
      refine wpc_cond rfl (fun hc44 => ?_) (fun hc44 => ?_)
      ·
       simp only [decide_eq_true_eq] at hc44
       have hkm : k < m := by omega
       obtain ⟨u, hu1, hu2, hu3⟩ := hq2.get (show k < m + 1 from zz14)
       have hsl := sib_lt hq hkm
       have hqk : q / 2 ^ k ≤ q := Nat.div_le_self _ _
       have hpk : 2 ^ k ≤ 16 := pow_le16Mm zz14
       have hll := lev_length xs k (2 ^ (m - k))
       have hla := lev_all xs k (2 ^ (m - k))
       have hgl := getD_mem_len hla (i := ((q / 2 ^ k) ^^^ 1)) (by rw [hll]; exact hsl)
       refine wpc_skip <| ex_then <| wpc_seq <| wpc_block <| wpc_seq <| wpc_region <| wpl_q (q_pure rfl) rfl ?_
       refine wpl_q (q_idxW1 Tryd.underlying73 Tryd.ti28 rfl rfl zz3 zz1) rfl ?_
       refine wpl_q (q_ldW Tryd.underlying28 rfl rfl (fun w h => h.seenV.slv 0 m (Nat.zero_le _) zz14) (by rw [Nat.zero_mul, List.drop_zero, List.getElem?_take, if_pos zz14]; exact hu1)) rfl ?_
       refine wpl_q (q_pure rfl) rfl <| wpl_q (q_pure rfl) rfl <| wpl_nil <| ex_then ?_
       refine wpc_draw 10 zz7 (fun _ h => h.drew) ?_
       refine wpd_p 0 rfl zz7 trivial (q_field Tryd.underlying30 rfl Tryd.ti28 rfl rfl _ rfl) rfl sk0 ?_
       refine wpd_q 1 rfl zz7 trivial (q_ld Tryd.underlying28 rfl rfl rfl) rfl (fun _ h => h) ?_
       refine wpd_p 2 rfl zz7 trivial (q_pure rfl) rfl sk0 ?_
       refine wpd_p 3 rfl zz7 trivial (q_pure rfl) rfl sk0 ?_
       refine wpd_p 4 rfl zz7 trivial (q_pure rfl) rfl sk0 ?_
       refine wpd_p 5 rfl zz7 trivial (q_shrN rfl rfl zz23) rfl sk0 ?_
       refine wpd_p 6 rfl zz7 trivial (q_xorN (b := 1) rfl rfl zz1 zz1) rfl sk0 ?_
       refine wpd_p 7 rfl zz7 trivial (q_idxW Tryd.underlying28 Tryd.ti41 rfl rfl zz3 zz1) rfl sk0 ?_
       refine wpd_qB 8 [9, 10] rfl zz7 trivial (q_ldWN Tryd.underlying41 rfl Tryd.ti41 rfl (fun w h => h.rowsF zz4 hu2) (v8s ((lev xs k (2 ^ (m - k))).getD ((q / 2 ^ k) ^^^ 1) [])) (part8 hla (by rw [hll]; exact hsl)) ((v8s_length _).trans hgl)) rfl (fun _ h => h) ?_
       refine wpd_tp 9 rfl zz7 trivial (t_bsS [_] Tryd.underlying28 Tryd.ti41 rfl zz20 rfl zz20 zz20 rfl (all_one zz21)) rfl (fun _ => (fun w h => .inr (h.sub SubC.h SubC.h))) (fun b57 p57 => ?_)
       refine wpd_tp 10 rfl zz7 trivial (t_apW Tryd.underlying28 Tryd.ti41 rfl zz20 rfl rfl (fun w h => zz15) zz5 zz1 zz1 (v8s (pathF xs q (k + 1)).flatten) (by rw [pathF_succ, List.flatten_append, v8s_append, ← lev_get xs k (2 ^ (m - k)) ((q / 2 ^ k) ^^^ 1) hsl])) rfl (fun _ => skk rfl) (fun b58 p58 => ?_)
       refine wpd_p 11 rfl zz7 trivial (q_field Tryd.underlying30 rfl Tryd.ti28 rfl rfl _ rfl) rfl (skk rfl) ?_
       refine wpd_t0 12 rfl zz7 trivial (t_st1 Tryd.ti28 rfl rfl (SV.one zz3) zz6 _ rfl) (fun _ => skk rfl) (fun _ => ?_)
       refine wpd_done zz7 ?_
       refine ex_block <| ex_then <| wpc_region ?_
       refine wpl_q (q_addN (b := 1) rfl rfl zz1) rfl ?_
       refine wpl_q (q_pure rfl) rfl <| wpl_nil ?_
       refine ex_again ⟨(k + 1, b58), ⟨zz14, p58⟩⟩ ?_ ?_ ?_
       ·
        exact zz9
       ·
        exact fun w h => h.sub (.drop (Sub.refl _)) (Sub.refl _)
       ·
        (show m - (k + 1) < m - k); omega
      ·
       simp only [decide_eq_false_iff_not] at hc44
       obtain rfl : k = m := by omega
       refine wpc_exit ?_
       refine ex_then_exit ?_
       refine ex_then_exit ?_
       refine ex_block_hit ?_
       refine ex_then <| wpc_seq <| wpc_region ?_
       refine wpl_q (q_ldN Tryd.underlying30 rfl Tryd.ti30 rfl zz2) rfl ?_
       refine wpl_t0 (t_stA Tryd.ti30 rfl rfl zz2 zz5 zz2) (fun _ => ?_)
       refine wpl_q (q_pure rfl) rfl <| wpl_nil <| ex_then <| wpc_ret ?_
       refine retv2 (.inl rfl) rfl (rv_agg Tryd.underlying30 rfl Tryd.ti30 rfl (fun w h => h.atB) rfl) (rv_tmp rfl) ?_
       exact fun w h => by
         rw [e1, e2, e3, e4, signF_length, pathF_length]
         exact ⟨(b36, vp), ⟨p36, hi1⟩, rfl, h.below, by first | exact h.made (.keep (.keep .nil)) .nil | exact (h.sub (M' := [_, _]) SubC.h .nil).swap.made (.keep (.keep .nil)) .nil⟩
end Go.Proofs.YtgnablliekgbgaaDoor
namespace Go.Proofs.YtgnablliekgbgaaDoor
open Go Go.PL Go.RowKit
theorem sib_eq (j : Nat) : j ^^^ 1 = if j % 2 = 1 then j - 1 else j + 1 := by
  have h := Nat.div_add_mod j 2
  split
  · rename_i h1
    have e : j = 2 * (j / 2) + 1 := by omega
    generalize j / 2 = c at e
    subst e
    rw [show 2 * c + 1 - 1 = 2 * c from zz14]
    apply Nat.eq_of_testBit_eq
    intro i
    cases i with
    | zero => simp [Nat.testBit_zero, Nat.testBit_xor]
    | succ i => simp [Nat.testBit_succ, Nat.xor_div_two]; congr 1; omega
  · have e : j = 2 * (j / 2) := by omega
    generalize j / 2 = c at e
    subst e
    apply Nat.eq_of_testBit_eq
    intro i
    cases i with
    | zero => simp [Nat.testBit_zero, Nat.testBit_xor]
    | succ i => simp [Nat.testBit_succ, Nat.xor_div_two]; congr 1; omega
end Go.Proofs.YtgnablliekgbgaaDoor
namespace Go.Proofs.YtgnablliekgbgaaDoor
open Go Go.PL Go.RowKit
theorem climb_add (x : List UInt8) (i f n : Nat) : ∀ m, climbF (climbF x i f n) i (f + n) m = climbF x i f (n + m)
  | 0 => rfl
  | m + 1 => by rw [climbF, climb_add x i f n m, ← Nat.add_assoc, climbF, Nat.add_assoc]
theorem chain_up (s : List UInt8) (i a b : Nat) (h : a ≤ b) : climbF (chainF s i a) i a (b - a) = chainF s i b := by
  have := climb_add (beginF s i) i 0 a (b - a)
  rw [Nat.zero_add, show a + (b - a) = b from zz14] at this
  exact this
theorem sg_get (s m : List UInt8) (n i : Nat) (h : i < n) : (sg s m n).getD i [] = chainF s i (dig m i) := by
  rw [sg, List.getD_eq_getElem?_getD, List.getElem?_map, List.getElem?_eq_getElem (by simpa using h)]; simp
theorem rec_signE (s m : List UInt8) (n : Nat) (i : Nat) (hi : i < n) (q : Nat) (hq : dig m i ≤ q) : climbF ((sg s m n).getD i []) i (dig m i) (q - dig m i) = chainF s i q := by
  rw [sg_get s m n i hi, chain_up s i _ _ hq]
theorem rec_acc (s m : List UInt8) (n q : Nat) (hq : ∀ i, dig m i ≤ q) : accF (fun i => climbF ((sg s m n).getD i []) i (dig m i) (q - dig m i)) n = accF (fun i => chainF s i q) n :=
  accF_congr _ _ n (fun i hi => rec_signE s m n i hi q (hq i)) n (Nat.le_refl _)
theorem recE_eq (m : List UInt8) (chs : List (List UInt8)) : recE m chs = fun i => climbF (chs.getD i []) i (dig m i) (15 - dig m i) := rfl
theorem rec_sign (s m : List UInt8) : recF m (signF s m) = publicF s := by
  have h1 : recF m (signF s m) = shortF (accF (recE m (signF s m)) 35) := if_pos (signF_length s m)
  rw [h1, recE_eq]
  exact congrArg shortF (rec_acc s m 35 15 (dig_le m))
theorem upF_path (s : List UInt8) (q m : Nat) : ∀ i, i ≤ m → upF (nodeF s 0 q) q (pathF s q m) i = nodeF s i (q / 2 ^ i)
  | 0, _ => by rw [upF, Nat.pow_zero, Nat.div_one]
  | i + 1, h => by
    have hg : (pathF s q m).getD i [] = nodeF s i ((q / 2 ^ i) ^^^ 1) := by
      rw [pathF, List.getD_eq_getElem?_getD, List.getElem?_map, List.getElem?_eq_getElem (by rw [List.length_range]; exact h)]; simp
    rw [upF, upF_path s q m i zz14, hg, show q / 2 ^ (i + 1) = q / 2 ^ i / 2 by rw [Nat.pow_succ, Nat.div_div_eq_div_mul]]
    generalize q / 2 ^ i = j
    rw [sib_eq, nodeF, stepU]
    by_cases hj : j % 2 = 1
    · rw [if_neg zz14, if_pos hj, show 2 * (j / 2) + 1 = j from zz14, show 2 * (j / 2) = j - 1 from zz14]
    · rw [if_pos zz14, if_neg hj, show 2 * (j / 2) = j from zz14]
theorem root_path (s : List UInt8) (q m : Nat) (bs : List UInt8) (hq : q < 2 ^ m) : upF (recF bs (signF (leafF s q) bs)) q (pathF s q m) m = nodeF s m 0 := by
  rw [rec_sign]
  have := upF_path s q m m (Nat.le_refl _)
  rw [Nat.div_eq_of_lt hq] at this
  exact this
theorem check_sign {s : List UInt8} {m q : Nat} {bs : List UInt8} (hm : m ≤ 4) (hq : q < 2 ^ m) : checkFMm m q (signF (leafF s q) bs).length (pathF s q m).length = 0 := by
  rw [signF_length, pathF_length]; exact check_0Mm zz14 ⟨zz14, zz14, rfl, rfl⟩
theorem root_sign {s : List UInt8} {m q : Nat} {bs : List UInt8} (hm : m ≤ 4) (hq : q < 2 ^ m) : rootF m q bs (signF (leafF s q) bs) (pathF s q m) = nodeF s m 0 := by
  have h : rootF m q bs (signF (leafF s q) bs) (pathF s q m) = upF (recF bs (signF (leafF s q) bs)) q (pathF s q m) (pathF s q m).length := if_pos (check_sign hm hq)
  rw [h, pathF_length]; exact root_path s q m bs hq
theorem keyR_in {s : List UInt8} {m : Nat} (hm : m ≤ 4) : keyR s m = nodeF s m 0 := if_pos ⟨zz14, zz14⟩
theorem sig_ver (s : List UInt8) {ht idx : Int} (bs : List UInt8) (h : okS ht idx) : checkFMm (keyH ht) (sigI ht idx) (sigC s ht idx bs).length (sigP s ht idx).length = 0 ∧ rootF (keyH ht) (sigI ht idx) bs (sigC s ht idx bs) (sigP s ht idx) = keyR s ht := by
  obtain ⟨m, rfl⟩ : ∃ m : Nat, ht = (m : Int) := ⟨ht.toNat, by have := h.1; omega⟩
  obtain ⟨q, rfl⟩ : ∃ q : Nat, idx = (q : Int) := ⟨idx.toNat, by have := h.2; omega⟩
  have hm : m ≤ 4 := by have := h.1; omega
  have hq : q < 2 ^ m := by have h2 := h.2.2; rw [Int.toNat_natCast] at h2; exact Int.ofNat_lt.1 h2
  have e1 : sigC s m q bs = signF (leafF s q) bs := by unfold sigC; rw [if_pos h, Int.toNat_natCast]
  have e2 : sigP s m q = pathF s q m := by unfold sigP; rw [if_pos h, Int.toNat_natCast, Int.toNat_natCast]
  have e3 : keyH m = m := if_pos h.1
  have e4 : sigI m q = q := if_pos h
  rw [e1, e2, e3, e4, keyR_in hm]
  exact ⟨check_sign hm hq, root_sign hm hq⟩
theorem one_v8i (xs : List UInt8) (t : Int) : ∀ u ∈ v8s xs ++ [Value.int .i64 t], u.oneCell' = true := fun u hu => by
  rcases List.mem_append.1 hu with h | h
  · exact v8s_one _ u h
  · rw [List.mem_singleton] at h; subst h; rfl
def verR (l : Rv) (rs : List UInt8) (ht : Int) : Prop := checkFMm ht l.ix l.chs.length l.ps.length = 0 ∧ rootF ht l.ix (bdyB l) l.chs l.ps = rs
instance {l : Rv} {rs : List UInt8} {ht : Int} : Decidable (verR l rs ht) := by unfold verR; exact inferInstance
def verE (l : Rv) (rs : List UInt8) (ht : Int) : Int := if chkR l ≠ 0 then chkR l else if verR l rs ht then 0 else 22
theorem ver_e {l : Rv} {rs : List UInt8} {ht : Int} (h : ¬ chkR l = 0) : verE l rs ht = chkR l := if_pos h
theorem ver_y {l : Rv} {rs : List UInt8} {ht : Int} (h : chkR l = 0) (k : verR l rs ht) : verE l rs ht = 0 := by unfold verE; rw [if_neg (fun e => e h), if_pos k]
theorem ver_n {l : Rv} {rs : List UInt8} {ht : Int} (h : chkR l = 0) (k : ¬ verR l rs ht) : verE l rs ht = 22 := by unfold verE; rw [if_neg (fun e => e h), if_neg k]
def usR (l : Rv) (sv : Value) : Rv := ⟨l.nm, l.no, l.fr, l.tt, sv, l.ss, 0, nl, [], nl, []⟩
def sgnR (l : Rv) (s : List UInt8) (ht idx : Int) (sv cv pv : Value) : Rv := ⟨l.nm, l.no, l.fr, l.tt, sv, l.ss, sigI ht idx, cv, sigC s ht idx (bdyB (usR l nl)), pv, sigP s ht idx⟩
theorem us_eqv (l : Rv) (a b : Value) : (usR l a).eqv (usR l b) := ⟨rfl, rfl, ⟨rfl, rfl⟩, rfl, rfl, rfl, rfl⟩
theorem us_chk (l : Rv) (a : Value) : chkR (usR l a) = chkR (usR l nl) := eqv_chk (us_eqv l a nl)
theorem us_bdy (l : Rv) (a : Value) : bdyB (usR l a) = bdyB (usR l nl) := eqv_bdy (us_eqv l a nl)
def snE (l : Rv) (ht idx : Int) : Int := if chkR (usR l nl) ≠ 0 then chkR (usR l nl) else sigE ht idx
def snR (l : Rv) (s : List UInt8) (ht idx : Int) : Rv := if snE l ht idx = 0 then sgnR l s ht idx nl nl nl else Rv.z
theorem sn_e {l : Rv} {ht idx : Int} (h : ¬ chkR (usR l nl) = 0) : snE l ht idx = chkR (usR l nl) ∧ snE l ht idx ≠ 0 := by
  have e : snE l ht idx = chkR (usR l nl) := if_pos h
  exact ⟨e, by rw [e]; exact h⟩
theorem sn_s {l : Rv} {ht idx : Int} (h : chkR (usR l nl) = 0) : snE l ht idx = sigE ht idx := if_neg (fun e => e h)
theorem sn_z {l : Rv} {s : List UInt8} {ht idx : Int} (h : snE l ht idx ≠ 0) : snR l s ht idx = Rv.z := if_neg h
theorem sn_y {l : Rv} {s : List UInt8} {ht idx : Int} (h : snE l ht idx = 0) : snR l s ht idx = sgnR l s ht idx nl nl nl := if_pos h
theorem sgn_eqv (l : Rv) (s : List UInt8) (ht idx : Int) (a b c : Value) : (sgnR l s ht idx a b c).eqv (sgnR l s ht idx nl nl nl) := ⟨rfl, rfl, ⟨rfl, rfl⟩, rfl, rfl, rfl, rfl⟩
theorem us_lim {l : Rv} (h : RLim l) (a : Value) : RLim (usR l a) := ⟨h.nm, h.ss, Nat.zero_le _, Nat.zero_le _⟩
theorem us_seen {l : Rv} {r : Rd} {a : Value} (h : Seen r a l.ss.length 1 (v64s l.ss)) : (usR l a).seen r := ⟨h, seen_nil _ 0 _, fun x hx => (by cases hx), seen_nil _ 0 _, fun x hx => (by cases hx)⟩
theorem built_kz : Tryd.prog.built 30 [] = some #[.int .i64 0, .slice none 0 0, .slice none 0 0] := by kernel_rfl
def SgP (l : Rv) (s : List UInt8) (ht idx : Int) (y : Rv) : Prop := y.eqv (snR l s ht idx) ∧ (∀ x ∈ y.chs, x.length = 16) ∧ (∀ x ∈ y.ps, x.length = 16)
theorem sg_z {l : Rv} {s : List UInt8} {ht idx : Int} (h : snE l ht idx ≠ 0) : SgP l s ht idx Rv.z := by
  unfold SgP
  rw [sn_z h]
  exact ⟨eqv_refl _, fun x hx => (by cases hx), fun x hx => (by cases hx)⟩
end Go.Proofs.YtgnablliekgbgaaDoor
namespace Go.Proofs.YtgnablliekgbgaaDoor
open Go Go.PL Go.RowKit
theorem rvVerify (l : Rv) (rs : List UInt8) (ht : Int) (w : World) (hl : l.seen w.cell?) (hnl : l.nm.length ≤ maxLen) (hrs : rs.length = 16) (hk : RLim l) (hG : Glb w) :
    Calls Tryd.prog 16 [.agg l.c.toArray, .agg (v8s rs ++ [Value.int .i64 ht]).toArray].toArray w (Pur w (.int .i64 (verE l rs ht))) := by
  haveI := hl.svs.one
  have lss := hl.s.sv.le
  have lcs := hl.c.sv.le
  have lps := hl.p.sv.le
  have sss := hl.s.sv
  have scs := hl.c.sv
  have sps := hl.p.sv
  simp only [maxLen] at lss lcs lps
  haveI : LenC (v8s rs ++ [Value.int .i64 ht]) 17 := ⟨by rw [List.length_append, v8s_length, hrs]; rfl⟩
  haveI : OneC (v8s rs ++ [Value.int .i64 ht]) := ⟨one_v8i _ _⟩
  refine enter (m := 21) (R := Mem w [] [] []) Tryd.func16 rfl rfl (Nat.le_of_ble_eq_true rfl) (Mem.start w) ?_
  refine wpc_seq <| wpc_region ?_
  refine wpl_t (t_box rfl l.c rfl) rfl (fun b2 => ?_)
  refine wpl_t (t_box rfl (v8s rs ++ [Value.int .i64 ht]) rfl) rfl (fun b3 => ?_)
  refine wpl_q (q_pure rfl) rfl <| wpl_nil <| ex_then <| wpc_seq <| wpc_region <| wpl_q (q_ldN Tryd.underlying32 rfl Tryd.ti32 rfl LenC.h) rfl ?_
  refine wpl_tp (t_callP1 Tryd.hb15 rfl fun w h => rvBodyB l w (hl.old h rfl) hnl hk.ss hk.nm) rfl (fun b9 p9 => ?_)
  refine wpl_q (q_pure rfl) rfl <| wpl_q (q_pure rfl) rfl <| wpl_q (q_pure rfl) rfl <| wpl_q (q_pure rfl) rfl <| wpl_q (q_pure rfl) rfl <| wpl_nil <| ex_then <| wpc_seq <| wpc_seq <| wpc_region <| wpl_q (q_pure rfl) rfl <| wpl_q (q_pure rfl) rfl ?_
  refine wpl_nil <| ex_then ?_
  refine wpc_cond rfl (fun hc13 => ?_) (fun hc13 => ?_)
  ·
   have hN : ¬ chkR l = 0 := by simpa using hc13
   refine wpc_seq <| wpc_region <| wpl_q (q_pure rfl) rfl <| wpl_q (q_pure rfl) rfl <| wpl_nil <| ex_then <| wpc_ret ?_
   refine ex_then_ret ?_
   refine ret1 (.inl rfl) rfl rfl ?_
   exact fun w1 h => ⟨by rw [ver_e hN]; rfl, h.below⟩
  ·
   have hZ : chkR l = 0 := by simpa using hc13
   refine wpc_skip <| ex_then <| wpc_seq <| wpc_seq <| wpc_region <| wpl_q (q_ldN Tryd.underlying43 rfl Tryd.ti43 rfl LenC.h) rfl <| wpl_q (q_pure rfl) rfl <| wpl_q (q_field Tryd.underlying32 rfl Tryd.ti30 rfl rfl _ rfl) rfl <| wpl_q (q_ldP Tryd.underlying30 rfl Tryd.ti30 rfl l.sig rfl rfl) rfl ?_
   refine wpl_t (t_pur (v := .bool (decide (verR l rs ht))) Tryd.hb22 rfl fun w h => verify7 rs ht b9 (bdyB l) l.cv l.pv l.chs l.ps l.ix w hrs (h.seen_row zz4) (h.seen_old hl.c) hl.lc (h.seen_old hl.p) hl.lp (glob h hG)) rfl (fun b19 => ?_)
   refine wpl_q (q_pure rfl) rfl <| wpl_nil <| ex_then ?_
   refine wpc_cond rfl (fun hc20 => ?_) (fun hc20 => ?_)
   ·
    have hV : ¬ verR l rs ht := by simpa using hc20
    refine wpc_seq <| wpc_region <| wpl_q (q_pure rfl) rfl <| wpl_nil <| ex_then <| wpc_ret ?_
    refine ex_then_ret ?_
    refine ret1 (.inl rfl) rfl rfl ?_
    exact fun w1 h => ⟨by rw [ver_n hZ hV], h.below⟩
   ·
    have hV : verR l rs ht := by simpa using hc20
    refine wpc_skip <| ex_then <| wpc_seq <| wpc_region <| wpl_q (q_pure rfl) rfl <| wpl_nil <| ex_then <| wpc_ret ?_
    refine ret1 (.inl rfl) rfl rfl ?_
    exact fun w1 h => ⟨by rw [ver_y hZ hV], h.below⟩
end Go.Proofs.YtgnablliekgbgaaDoor
namespace Go.Proofs.YtgnablliekgbgaaDoor
open Go Go.PL Go.RowKit
theorem rvSign (l : Rv) (s : List UInt8) (ht : Int) (idx : Int) (w : World) (hl : l.seen w.cell?) (hnl : l.nm.length ≤ maxLen) (hs : s.length = 16) (hk : RLim l) (hG : Glb w) :
    Calls Tryd.prog 12 [.agg l.c.toArray, .agg (v8s s).toArray, .int .i64 ht, .int .i64 idx].toArray w (GivesP w (fun y : Rv => SgP l s ht idx y ∧ y.svs) (fun y => .tuple #[.agg y.c.toArray, .int .i64 (snE l ht idx)]) (fun y => rvE y) (fun _ => [])) := by
  haveI := hl.svs.one
  have lss := hl.s.sv.le
  have lcs := hl.c.sv.le
  have lps := hl.p.sv.le
  have sss := hl.s.sv
  have scs := hl.c.sv
  have sps := hl.p.sv
  simp only [maxLen] at lss lcs lps
  haveI : LenC (v8s s) 16 := ⟨by rw [v8s_length]; exact hs⟩
  haveI : OneC (v8s s) := ⟨v8s_one _⟩
  refine enter (m := 39) (R := Mem w [] [] []) Tryd.func12 rfl rfl (Nat.le_of_ble_eq_true rfl) (Mem.start w) ?_
  refine wpc_seq <| wpc_region ?_
  refine wpl_t (t_box rfl l.c rfl) rfl (fun b4 => ?_)
  refine wpl_t (t_box rfl (v8s s) rfl) rfl (fun b5 => ?_)
  refine wpl_t (t_alloc Tryd.ti32 Rv.z.c rfl) rfl (fun b8 => ?_)
  refine wpl_q (q_pure rfl) rfl <| wpl_nil <| ex_then <| wpc_seq <| wpc_region <| wpl_q (q_ldN Tryd.underlying32 rfl Tryd.ti32 rfl LenC.h) rfl ?_
  refine wpl_tp (t_callP3 Tryd.hb34 rfl fun w h => rvTwin l w (hl.old h rfl) hnl hk.ss hk.c hk.p) rfl (fun b13 p13 => ?_)
  haveI : OneC (l.re b13).c := Rv.svs.one (l := l.re b13) p13
  haveI : OneC (usR l b13.1).c := Rv.svs.one (l := (usR l b13.1)) ⟨p13.1, SV.nil, SV.nil⟩
  refine wpl_t0 (t_stA Tryd.ti32 rfl rfl LenC.h OneC.h LenC.h) (fun _ => ?_)
  refine wpl_nil <| ex_then <| wpc_seq <| wpc_region ?_
  refine wpl_q (q_build (cs := [.int .i64 0, .slice none 0 0, .slice none 0 0]) rfl built_kz) rfl ?_
  refine wpl_q (q_field Tryd.underlying32 rfl Tryd.ti30 rfl rfl _ rfl) rfl ?_
  refine wpl_t0 (t_stP Tryd.ti30 rfl rfl zz2 (OneC.cons rfl (OneC.cons rfl (OneC.cons rfl oneC_nil))).h (by rw [Rv.c_len]; exact Nat.le_refl 8) (usR l b13.1).c rfl) (fun _ => ?_)
  refine wpl_nil <| ex_then <| wpc_seq <| wpc_region <| wpl_q (q_ldN Tryd.underlying32 rfl Tryd.ti32 rfl LenC.h) rfl ?_
  refine wpl_tp (t_callP1 Tryd.hb15 rfl fun w h => rvBodyB (usR l b13.1) w (us_seen (h.seen_row zz4)) hnl (us_lim hk _).ss (us_lim hk _).nm) rfl (fun b18 p18 => ?_)
  refine wpl_q (q_pure rfl) rfl <| wpl_q (q_pure rfl) rfl <| wpl_q (q_pure rfl) rfl <| wpl_q (q_pure rfl) rfl <| wpl_q (q_pure rfl) rfl <| wpl_nil <| ex_then <| wpc_seq <| wpc_seq <| wpc_region <| wpl_q (q_pure rfl) rfl <| wpl_q (q_pure rfl) rfl ?_
  refine wpl_nil <| ex_then ?_
  refine wpc_cond rfl (fun hc22 => ?_) (fun hc22 => ?_)
  ·
   have hN : ¬ chkR (usR l nl) = 0 := by rw [← us_chk l b13.1]; simpa using hc22
   obtain ⟨hE1, hE2⟩ := sn_e (ht := ht) (idx := idx) hN
   refine wpc_seq <| wpc_region ?_
   refine wpl_q (q_build (cs := Rv.z.c) rfl built_rz) rfl ?_
   refine wpl_q (q_pure rfl) rfl ?_
   refine wpl_t0 (t_stA Tryd.ti32 rfl rfl LenC.h OneC.h LenC.h) (fun _ => ?_)
   refine wpl_q (q_pure rfl) rfl <| wpl_nil <| ex_then <| wpc_ret ?_
   refine ex_then_ret ?_
   refine retv2 (.inl rfl) rfl (rv_agg Tryd.underlying32 rfl Tryd.ti32 rfl (fun w h => h.atB) zz2) (rv_tmp rfl) ?_
   exact fun w1 h => ⟨Rv.z, ⟨sg_z hE2, Rv.z_svs⟩, by rw [hE1, us_chk]; rfl, h.below, rvE_z h⟩
  ·
   have hZ : chkR (usR l nl) = 0 := by rw [← us_chk l b13.1]; simpa using hc22
   have hS := sn_s (ht := ht) (idx := idx) hZ
   refine wpc_skip <| ex_then <| wpc_seq <| wpc_seq <| wpc_region <| wpl_q (q_ldN Tryd.underlying41 rfl Tryd.ti41 rfl LenC.h) rfl <| wpl_q (q_pure rfl) rfl <| wpl_q (q_pure rfl) rfl <| wpl_q (q_pure rfl) rfl ?_
   refine wpl_tp (t_callP2 Tryd.hb35 rfl fun w h => by
     have q := sign7 s ht idx b18 (bdyB (usR l b13.1)) w hs (h.seen_row zz4) (glob h hG)
     rwa [us_bdy] at q) rfl (fun b30 p30 => ?_)
   haveI : OneC (sgnR l s ht idx b13.1 b30.1 b30.2).c := Rv.svs.one (l := (sgnR l s ht idx b13.1 b30.1 b30.2)) ⟨p13.1, p30.1, p30.2⟩
   refine wpl_q (q_pure rfl) rfl <| wpl_q (q_pure rfl) rfl <| wpl_q (q_pure rfl) rfl <| wpl_q (q_field Tryd.underlying32 rfl Tryd.ti30 rfl rfl _ rfl) rfl ?_
   refine wpl_t0 (t_stP Tryd.ti30 rfl rfl zz2 (OneC.cons rfl (OneC.cons (SV.one p30.1) (OneC.cons (SV.one p30.2) oneC_nil))).h (by rw [Rv.c_len]; exact Nat.le_refl 8) (sgnR l s ht idx b13.1 b30.1 b30.2).c rfl) (fun _ => ?_)
   refine wpl_q (q_pure rfl) rfl <| wpl_nil <| ex_then <| wpc_seq <| wpc_region <| wpl_q (q_pure rfl) rfl <| wpl_q (q_pure rfl) rfl <| wpl_nil <| ex_then ?_
   refine wpc_cond rfl (fun hc35 => ?_) (fun hc35 => ?_)
   ·
    have hE2 : snE l ht idx ≠ 0 := by rw [hS]; simpa using hc35
    refine wpc_seq <| wpc_region ?_
    refine wpl_q (q_build (cs := Rv.z.c) rfl built_rz) rfl ?_
    refine wpl_q (q_pure rfl) rfl ?_
    refine wpl_t0 (t_stA Tryd.ti32 rfl rfl LenC.h OneC.h LenC.h) (fun _ => ?_)
    refine wpl_q (q_pure rfl) rfl <| wpl_nil <| ex_then <| wpc_ret ?_
    refine ex_then_ret ?_
    refine retv2 (.inl rfl) rfl (rv_agg Tryd.underlying32 rfl Tryd.ti32 rfl (fun w h => h.atB) zz2) (rv_tmp rfl) ?_
    exact fun w1 h => ⟨Rv.z, ⟨sg_z hE2, Rv.z_svs⟩, by rw [hS]; rfl, h.below, rvE_z h⟩
   ·
    have hE0 : snE l ht idx = 0 := by rw [hS]; simpa using hc35
    refine wpc_skip <| ex_then <| wpc_seq <| wpc_region <| wpl_q (q_ldN Tryd.underlying32 rfl Tryd.ti32 rfl LenC.h) rfl ?_
    refine wpl_t0 (t_stA Tryd.ti32 rfl rfl LenC.h OneC.h LenC.h) (fun _ => ?_)
    refine wpl_q (q_pure rfl) rfl <| wpl_nil <| ex_then <| wpc_ret ?_
    refine retv2 (.inl rfl) rfl (rv_agg Tryd.underlying32 rfl Tryd.ti32 rfl (fun w h => h.atB) zz2) (rv_tmp rfl) ?_
    exact fun w1 h => ⟨(sgnR l s ht idx b13.1 b30.1 b30.2), ⟨⟨by rw [sn_y hE0]; exact sgn_eqv _ _ _ _ _ _ _, sigC_all _ _ _ _, sigP_all _ _ _⟩, ⟨p13.1, p30.1, p30.2⟩⟩, by rw [hE0], h.below, (h.sel (M' := [Ent.row b13.1 l.ss.length 23 1 (v64s l.ss), Ent.row b30.1 (sigC s ht idx (bdyB (usR l nl))).length 41 16 (v8s (sigC s ht idx (bdyB (usR l nl))).flatten), Ent.row b30.2 (sigP s ht idx).length 41 16 (v8s (sigP s ht idx).flatten)])).made (Sub.refl _) .nil⟩
end Go.Proofs.YtgnablliekgbgaaDoor
namespace Go.Proofs.YtgnablliekgbgaaDoor
open Go Go.PL Go.RowKit
theorem sgn_lens (l : Rv) (s : List UInt8) (ht idx : Int) (h : okS ht idx) : (sigC s ht idx (bdyB (usR l nl))).length = 35 ∧ ((sigP s ht idx).length : Int) = ht := by
  obtain ⟨q1, _⟩ := sig_ver s (bdyB (usR l nl)) h
  have e3 : keyH ht = ht := if_pos h.1
  rw [e3] at q1
  unfold checkFMm at q1
  rw [if_pos h.1] at q1
  split at q1
  · rename_i k; exact ⟨k.2.2.1, k.2.2.2⟩
  · cases q1
theorem us_ok {l : Rv} (h : chkR l = 0) : chkR (usR l nl) = 0 := by
  have h2 := chk_inv h
  unfold chkR at h ⊢
  have h5 : ¬ 500 < (usR l nl).ss.length := h2.1
  rw [if_neg h2.1] at h
  rw [if_neg h5]
  split at h
  · rename_i k1
    unfold okR okA at k1 ⊢
    simp only [Bool.and_eq_true, decide_eq_true_eq] at k1
    rw [if_pos]
    simp only [Bool.and_eq_true, decide_eq_true_eq]
    exact ⟨⟨⟨k1.1.1.1, k1.1.1.2⟩, rfl⟩, k1.2⟩
  · cases h
theorem okS_of {ht idx : Int} (h : sigE ht idx = 0) : okS ht idx := Decidable.byContradiction fun k => by
  unfold sigE at h; rw [if_neg k] at h; cases h
theorem sgn_ok {l : Rv} (s : List UInt8) {ht idx : Int} (h : chkR (usR l nl) = 0) (k : okS ht idx) (a b c : Value) : chkR (sgnR l s ht idx a b c) = 0 := by
  obtain ⟨q1, q2⟩ := sgn_lens l s ht idx k
  have h2 := chk_inv h
  unfold chkR at h ⊢
  have h5 : ¬ 500 < (sgnR l s ht idx a b c).ss.length := h2.1
  rw [if_neg h2.1] at h
  rw [if_neg h5]
  split at h
  · rename_i k1
    unfold okR okA at k1 ⊢
    simp only [Bool.and_eq_true, decide_eq_true_eq] at k1
    rw [if_pos]
    simp only [Bool.and_eq_true, decide_eq_true_eq]
    refine ⟨⟨⟨k1.1.1.1, k1.1.1.2⟩, ?_⟩, k1.2⟩
    show gsigB (sigI ht idx) (sigC s ht idx (bdyB (usR l nl))).length (sigP s ht idx).length = true
    have e4 : sigI ht idx = idx := if_pos k
    rw [q1, e4]
    unfold gsigB
    rw [q2]
    have : sgChk ht idx 35 (sigP s ht idx).length = 0 := by
      unfold sgChk
      rw [if_pos k.1, if_pos ⟨k.2.1, k.2.2, rfl, q2⟩]
    rw [decide_eq_true this, Bool.or_true]
  · cases h
theorem sgn_bdy {l : Rv} (s : List UInt8) {ht idx : Int} (h : chkR (usR l nl) = 0) (k : okS ht idx) (a b c : Value) : bdyB (sgnR l s ht idx a b c) = bdyB (usR l nl) := by
  rw [bdy_ok (sgn_ok s h k a b c), bdy_ok h]; rfl
theorem ver_eqv {a b : Rv} (h : a.eqv b) (rs : List UInt8) (ht : Int) : verE a rs ht = verE b rs ht := by
  obtain ⟨nm, no, fr, tt, sv, ss, ix, cv, chs, pv, ps⟩ := a
  obtain ⟨nm2, no2, fr2, tt2, sv2, ss2, ix2, cv2, chs2, pv2, ps2⟩ := b
  obtain ⟨e1, e2, ⟨e3, e4⟩, e5, e6, e7, e8⟩ := h
  dsimp only at e1 e2 e3 e4 e5 e6 e7 e8
  subst e1 e2 e3 e4 e5 e6 e7 e8
  rfl
theorem sgn_ver {l : Rv} (s : List UInt8) {ht idx : Int} (h : chkR (usR l nl) = 0) (k : okS ht idx) : verE (sgnR l s ht idx nl nl nl) (keyR s ht) (keyH ht) = 0 := by
  obtain ⟨q1, q2⟩ := sig_ver s (bdyB (usR l nl)) k
  refine ver_y (sgn_ok s h k nl nl nl) ⟨q1, ?_⟩
  rw [sgn_bdy s h k]
  exact q2
theorem rev_mem {l : Rv} {s : UInt64} (h : chkR l = 0) : revV l s = decide (s ∈ l.ss) := by unfold revV; rw [h]; rfl
theorem mem_take_S {ss : List UInt64} {s : UInt64} {i : Nat} (hi : i < ss.length) : decide (s ∈ ss.take (i + 1)) = (decide (s ∈ ss.take i) || decide (ss.getD i 0 = s)) := by
  have e : ss.take (i + 1) = ss.take i ++ [ss.getD i 0] := by
    rw [List.take_add_one, List.getD_eq_getElem?_getD, List.getElem?_eq_getElem hi]; rfl
  have q : (s ∈ ss.take (i + 1)) ↔ (s ∈ ss.take i ∨ ss.getD i 0 = s) := by
    rw [e, List.mem_append, List.mem_singleton]
    exact ⟨fun h => h.imp id Eq.symm, fun h => h.imp id Eq.symm⟩
  rw [decide_eq_decide.2 q, Bool.decide_or]
instance lenC_kz : LenC (v8s (List.replicate 16 0) ++ [Value.int .i64 0]) 17 := ⟨rfl⟩
theorem key_l1 (s : List UInt8) : (v8s (keyR s 1) ++ [Value.int .i64 (keyH 1)]).length = 17 := by rw [List.length_append, v8s_length, keyR_length]; rfl
structure SgK (l : Rv) (s : List UInt8) (ht idx : Int) (y : Rv) : Prop where
  ok : okS ht idx
  chk : chkR y = 0
  lim : RLim y
  ss : y.ss = l.ss
  eq : y.eqv (sgnR l s ht idx nl nl nl)
theorem sg_known {l y : Rv} {s : List UInt8} {ht idx : Int} (h : chkR (usR l nl) = 0) (he : snE l ht idx = 0) (k : SgP l s ht idx y) : SgK l s ht idx y := by
  have ok := okS_of ((sn_s h).symm.trans he)
  have e := k.1
  rw [sn_y he] at e
  have c := (eqv_chk e).trans (sgn_ok s h ok nl nl nl)
  exact ⟨ok, c, chk_lim c, e.2.2.2.1, e⟩
theorem sn_2 {l : Rv} {ht idx : Int} (h : chkR (usR l nl) = 0) (k : ¬ snE l ht idx = 0) : snE l ht idx = 2 ∧ ¬ okS ht idx := by
  rw [sn_s h] at k ⊢
  unfold sigE at k ⊢
  by_cases q : okS ht idx
  · rw [if_pos q] at k; exact absurd rfl k
  · rw [if_neg q]; exact ⟨rfl, q⟩
theorem okS_1 {idx : Int} (h : ¬ okS 1 idx) : idx < 0 ∨ 1 < idx := by
  refine Decidable.byContradiction fun k => h ⟨zz20, zz14, ?_⟩
  have e : ((2 ^ (1 : Int).toNat : Nat) : Int) = 2 := by decide
  omega
theorem frzS {P : Program} {k : FuncId} {vs : Array Value} {w : World} {l : Rv} {s : List UInt8} {ht idx : Int} {V : Rv → Value} (h : Calls P k vs w (GivesP w (fun y : Rv => SgP l s ht idx y ∧ y.svs) V (fun y => rvE y) (fun _ => []))) : Calls P k vs w (GivesP w (fun y : Rv => SgP l s ht idx y ∧ y.svs) V (fun _ => []) (fun y => [Go.Proofs.YtgnablliekgbgaaDoor.rvseen y])) := by
  refine h.mono ?_
  rintro e w' ⟨y, hp, rfl, hb, hn⟩
  have hm := (Mem.start w).call hb hn
  rw [List.append_nil, List.append_nil] at hm
  exact ⟨y, hp, rfl, hb, (rv_freeze (M := []) hp.1.2.1 hp.1.2.2 (by rw [List.append_nil]; exact hm)).made .nil (Sub.refl _)⟩
end Go.Proofs.YtgnablliekgbgaaDoor
namespace Go.Proofs.YtgnablliekgbgaaDoor
open Go Go.PL Go.RowKit
set_option maxHeartbeats 1000000
theorem lawExact11 (l : Rv) (sr : UInt64) (s : List UInt8) (idx : Int) (w : World) (hl : l.seen w.cell?) (hnl : l.nm.length ≤ maxLen) (hs : s.length = 16) (hG : Glb w) :
    Calls Tryd.prog 4 [.agg l.c.toArray, .int .u64 sr.toNat, .agg (v8s s).toArray, .int .i64 idx].toArray w (Pur w (.bool true)) := by
  haveI := hl.svs.one
  have lss := hl.s.sv.le
  have lcs := hl.c.sv.le
  have lps := hl.p.sv.le
  have sss := hl.s.sv
  have scs := hl.c.sv
  have sps := hl.p.sv
  simp only [maxLen] at lss lcs lps
  haveI : LenC (v8s s) 16 := ⟨by rw [v8s_length]; exact hs⟩
  haveI : OneC (v8s s) := ⟨v8s_one _⟩
  refine enter (m := 149) (R := Mem w [] [] []) Tryd.func4 rfl rfl (Nat.le_of_ble_eq_true rfl) (Mem.start w) ?_
  refine wpc_seq <| wpc_region ?_
  refine wpl_t (t_box rfl l.c rfl) rfl (fun b4 => ?_)
  refine wpl_t (t_box rfl (v8s s) rfl) rfl (fun b6 => ?_)
  refine wpl_q (q_pure rfl) rfl <| wpl_nil <| ex_then <| wpc_seq <| wpc_region ?_
  refine wpl_t (t_pur (v := .bool true) Tryd.hb17 rfl fun w h => alive11 w) rfl (fun b24 => ?_)
  refine wpl_q (q_pure rfl) rfl <| wpl_nil <| ex_then <| wpc_seq <| wpc_seq <| wpc_region <| wpl_q (q_ldN Tryd.underlying32 rfl Tryd.ti32 rfl LenC.h) rfl ?_
  refine wpl_t (t_pur Tryd.hb18 rfl fun w h => refRvGreat l w (hl.old h rfl) hnl) rfl (fun b26 => ?_)
  refine wpl_q (q_pure rfl) rfl ?_
  refine wpl_bool2 27 26 rfl rfl (fun hb27 => ?_) (fun hb27 => ?_)
  ·
   refine wpl_off rfl rfl rfl rfl <| wpl_off rfl rfl rfl rfl <| wpl_q (q_pure rfl) rfl <| wpl_nil <| ex_then ?_
   refine wpc_cond_t rfl ?_
   refine wpc_seq <| wpc_region <| wpl_q (q_pure rfl) rfl <| wpl_q (q_pure rfl) rfl <| wpl_nil <| ex_then <| wpc_ret ?_
   refine ex_then_ret ?_
   refine ret1 (.inl rfl) rfl rfl ?_
   exact fun w h => ⟨by first | rfl | simp, h.below⟩
  ·
   have hk : RLim l := lim_no (l := l) hb27
   refine wpl_on rfl rfl <| wpl_q (q_pure rfl) rfl <| wpl_on rfl rfl <| wpl_q (q_pure rfl) rfl <| wpl_q (q_pure rfl) rfl <| wpl_nil <| ex_then ?_
   refine wpc_cond_f rfl ?_
   refine wpc_skip <| ex_then <| wpc_seq <| wpc_region <| wpl_q (q_ldN Tryd.underlying32 rfl Tryd.ti32 rfl LenC.h) rfl <| wpl_q (q_pure rfl) rfl ?_
   refine wpl_t (t_pur Tryd.hb9 rfl fun w h => revoked l sr w (hl.old h rfl) hnl) rfl (fun b35 => ?_)
   refine wpl_q (q_pure rfl) rfl <| wpl_q (q_pure rfl) rfl <| wpl_q (q_pure rfl) rfl <| wpl_q (q_pure rfl) rfl <| wpl_q (q_pure rfl) rfl <| wpl_nil <| ex_then <| wpc_seq <| wpc_seq <| wpc_region <| wpl_q (q_pure rfl) rfl <| wpl_q (q_pure rfl) rfl ?_
   refine wpl_nil <| ex_then ?_
   refine wpc_cond rfl (fun hc39 => ?_) (fun hc39 => ?_)
   ·
    have hN : ¬ chkR l = 0 := by simpa using hc39
    have hrv : revV l sr = false := by unfold revV; rw [decide_eq_false hN]; rfl
    refine wpc_seq <| wpc_region <| wpl_q (q_pure rfl) rfl <| wpl_q (q_pure rfl) rfl <| wpl_on rfl rfl <| wpl_q (q_pure rfl) rfl <| wpl_on rfl rfl <| wpl_q (q_pure rfl) rfl <| wpl_q (q_pure rfl) rfl <| wpl_q (q_pure rfl) rfl ?_
    refine wpl_bool2 45 43 rfl rfl (fun hb45 => ?_) (fun hb45 => ?_)
    ·
     refine wpl_on rfl rfl <| wpl_q (q_ldN Tryd.underlying32 rfl Tryd.ti32 rfl LenC.h) rfl <| wpl_on rfl rfl ?_
     refine wpl_t (t_pur Tryd.hb10 rfl fun w h => rvCheck l w (hl.old h rfl) hnl) rfl (fun b47 => ?_)
     refine wpl_on rfl rfl <| wpl_q (q_pure rfl) rfl <| wpl_on rfl rfl <| wpl_q (q_tru (q_eqI rfl rfl) rfl) rfl <| wpl_q (q_pure rfl) rfl <| wpl_q (q_pure rfl) rfl <| wpl_nil <| ex_then <| wpc_ret ?_
     refine ex_then_ret ?_
     refine ret1 (.inl rfl) rfl rfl ?_
     exact fun w h => ⟨by first | rfl | simp, h.below⟩
    ·
     simp [hrv] at hb45
   ·
    have hZ : chkR l = 0 := by simpa using hc39
    have hU := us_ok hZ
    have hrm := rev_mem (s := sr) hZ
    refine wpc_skip <| ex_then <| wpc_seq <| wpc_region <| wpl_q (q_pure rfl) rfl <| wpl_nil <| ex_then <| wpc_seq <| wpc_seq <| wpc_region <| wpl_q (q_pure rfl) rfl <| wpl_nil ?_
    refine ex_then <| wpc_block ?_
    refine wpc_loopc (ι := { x : Nat // (x ≤ l.ss.length) }) [(1, _), (3, _), (4, _), (6, _), (9, _), (10, _)] (fun x Lc => (13, .int .i64 ((x.1 : Nat) : Int)) :: (12, .bool (decide (sr ∈ l.ss.take x.1))) :: Lc) (fun x => Mem w [] [.blk b6 41 (v8s s), .blk b4 32 l.c] []) (fun x => l.ss.length - x.1) ⟨0, (Nat.zero_le _)⟩ zz9 ?_ ?_
    ·
     exact fun w h => h.sel
    ·
     rintro ⟨i, hi0⟩; try dsimp only
     have hi0 : i ≤ l.ss.length := hi0
     refine wpc_seq <| wpc_seq <| wpc_region <| wpl_q (q_pure rfl) rfl <| wpl_q (q_field Tryd.underlying32 rfl Tryd.ti22 rfl rfl _ rfl) rfl <| wpl_q (q_ld Tryd.underlying22 rfl rfl (show l.c[4]? = some (l.sv) from rfl)) rfl ?_
     refine wpl_q (q_lenW Tryd.underlying22 rfl zz3) rfl ?_
     refine wpl_q (q_pure rfl) rfl <| wpl_nil <| ex_then ?_
     refine wpc_cond rfl (fun hc55 => ?_) (fun hc55 => ?_)
     ·
      simp only [decide_eq_true_eq] at hc55
      have hil : i < l.ss.length := by omega
      have hms := mem_take_S (s := sr) hil
      refine wpc_skip <| ex_then <| wpc_seq <| wpc_block <| wpc_region <| wpl_q (q_pure rfl) rfl <| wpl_q (q_pure rfl) rfl ?_
      refine wpl_bool2 59 12 rfl rfl (fun hb59 => ?_) (fun hb59 => ?_)
      ·
       refine wpl_off rfl rfl rfl rfl <| wpl_off rfl rfl rfl rfl <| wpl_off rfl rfl rfl rfl <| wpl_off rfl rfl rfl rfl <| wpl_off rfl rfl rfl rfl <| wpl_off rfl rfl rfl rfl <| wpl_off rfl rfl rfl rfl <| wpl_q (q_pure rfl) rfl <| wpl_q (q_pure rfl) rfl <| wpl_nil <| ex_block <| ex_then ?_
       first | refine wpc_re 12 rfl (congrArg Value.bool (show true = decide (sr ∈ l.ss.take (i + 1)) by rw [hms, hb59]; rfl)) ?_ | refine wpc_re 12 rfl (congrArg Value.bool (show decide (l.ss.getD i 0 = sr) = decide (sr ∈ l.ss.take (i + 1)) by rw [hms, hb59]; rfl)) ?_
       refine wpc_region <| wpl_q (q_pure rfl) rfl ?_
       refine wpl_q (q_addN (b := 1) rfl rfl zz1) rfl ?_
       refine wpl_q (q_pure rfl) rfl <| wpl_nil ?_
       refine ex_again ⟨i + 1, (show i + 1 ≤ _ from zz14)⟩ ?_ ?_ ?_
       ·
        exact zz9
       ·
        exact fun w h => h.sel
       ·
        (show l.ss.length - (i + 1) < l.ss.length - i); omega
      ·
       refine wpl_on rfl rfl <| wpl_q (q_field Tryd.underlying32 rfl Tryd.ti22 rfl rfl _ rfl) rfl <| wpl_on rfl rfl <| wpl_q (q_ld Tryd.underlying22 rfl rfl (show l.c[4]? = some (l.sv) from rfl)) rfl <| wpl_on rfl rfl <| wpl_q (q_pure rfl) rfl <| wpl_on rfl rfl ?_
       refine wpl_q (q_idxW1 Tryd.underlying22 Tryd.ti23 rfl rfl zz3 zz1) rfl ?_
       refine wpl_on rfl rfl ?_
       refine wpl_q (q_ldW Tryd.underlying23 rfl rfl (fun w h => h.seen_old hl.s) zz49) rfl ?_
       refine wpl_on rfl rfl <| wpl_q (q_pure rfl) rfl <| wpl_on rfl rfl <| wpl_q (q64_eql rfl rfl) rfl <| wpl_q (q_pure rfl) rfl <| wpl_q (q_pure rfl) rfl <| wpl_nil <| ex_block <| ex_then ?_
       first | refine wpc_re 12 rfl (congrArg Value.bool (show true = decide (sr ∈ l.ss.take (i + 1)) by rw [hms, hb59]; rfl)) ?_ | refine wpc_re 12 rfl (congrArg Value.bool (show decide (l.ss.getD i 0 = sr) = decide (sr ∈ l.ss.take (i + 1)) by rw [hms, hb59]; rfl)) ?_
       refine wpc_region <| wpl_q (q_pure rfl) rfl ?_
       refine wpl_q (q_addN (b := 1) rfl rfl zz1) rfl ?_
       refine wpl_q (q_pure rfl) rfl <| wpl_nil ?_
       refine ex_again ⟨i + 1, (show i + 1 ≤ _ from zz14)⟩ ?_ ?_ ?_
       ·
        exact zz9
       ·
        exact fun w h => h.sel
       ·
        (show l.ss.length - (i + 1) < l.ss.length - i); omega
     ·
      simp only [decide_eq_false_iff_not] at hc55
      obtain rfl : i = l.ss.length := by omega
      rw [List.take_length, ← hrm]
      refine wpc_exit ?_
      refine ex_then_exit ?_
      refine ex_then_exit ?_
      refine ex_block_hit ?_
      refine ex_then <| wpc_seq <| wpc_region <| wpl_q (q_ldN Tryd.underlying32 rfl Tryd.ti32 rfl LenC.h) rfl <| wpl_q (q_ldN Tryd.underlying41 rfl Tryd.ti41 rfl LenC.h) rfl <| wpl_q (q_pure rfl) rfl ?_
      refine wpl_tp (t_callPT Tryd.hb12 rfl fun w h => frzS (rvSign l s 1 idx w (hl.old h rfl) hnl hs hk (glob h hG))) rfl (fun b72 p72 => ?_)
      haveI := p72.2.one
      refine wpl_q (q_pure rfl) rfl <| wpl_q (q_pure rfl) rfl <| wpl_q (q_pure rfl) rfl ?_
      refine wpl_t (t_alloc Tryd.ti32 Rv.z.c rfl) rfl (fun b14 => ?_)
      refine wpl_t0 (t_stA Tryd.ti32 rfl rfl LenC.h OneC.h LenC.h) (fun _ => ?_)
      refine wpl_q (q_pure rfl) rfl <| wpl_nil <| ex_then <| wpc_seq <| wpc_seq <| wpc_region <| wpl_q (q_pure rfl) rfl <| wpl_q (q_pure rfl) rfl ?_
      refine wpl_q (q_bt (c := false) (q_bne Tryd.underlying4 rfl rfl) zz41) rfl ?_
      refine wpl_q (q_pure rfl) rfl <| wpl_on rfl rfl <| wpl_q (q_pure rfl) rfl <| wpl_on rfl rfl <| wpl_q (q_pure rfl) rfl <| wpl_q (q_pure rfl) rfl <| wpl_nil <| ex_then ?_
      refine wpc_cond rfl (fun hc81 => ?_) (fun hc81 => ?_)
      ·
       have hE := by simpa using hc81
       obtain ⟨hE2, hOk⟩ := sn_2 (ht := 1) (idx := idx) hU hE
       refine wpc_seq <| wpc_region <| wpl_q (q_pure rfl) rfl <| wpl_q (q_pure rfl) rfl <| wpl_on rfl rfl <| wpl_q (q_pure rfl) rfl <| wpl_on rfl rfl <| wpl_q (q_pure rfl) rfl <| wpl_on rfl rfl ?_
       refine wpl_q (q_tru (q_beq Tryd.underlying4 rfl rfl) zz41) rfl ?_
       refine wpl_q (q_pure rfl) rfl <| wpl_q (q_pure rfl) rfl <| wpl_on rfl rfl <| wpl_q (q_pure rfl) rfl <| wpl_on rfl rfl <| wpl_q (q_tru (q_eqI rfl rfl) hE2) rfl <| wpl_q (q_pure rfl) rfl <| wpl_q (q_pure rfl) rfl <| wpl_on rfl rfl <| wpl_q (q_pure rfl) rfl <| wpl_on rfl rfl <| wpl_q (q_pure rfl) rfl ?_
       refine wpl_on rfl rfl <| wpl_q (q_pure rfl) rfl ?_
       refine wpl_bool2 95 94 rfl rfl (fun hb95 => ?_) (fun hb95 => ?_)
       ·
        refine wpl_off rfl rfl rfl rfl <| wpl_off rfl rfl rfl rfl <| wpl_on rfl rfl <| wpl_q (q_pure rfl) rfl <| wpl_q (q_pure rfl) rfl <| wpl_q (q_pure rfl) rfl <| wpl_nil <| ex_then <| wpc_ret ?_
        refine ex_then_ret ?_
        refine ret1 (.inl rfl) rfl rfl ?_
        exact fun w h => ⟨by first | rfl | simp, h.below⟩
       ·
        have h1i : 1 < idx := (okS_1 hOk).resolve_left (by first | (have q := of_decide_eq_false hb95; omega) | omega)
        refine wpl_on rfl rfl <| wpl_q (q_pure rfl) rfl <| wpl_on rfl rfl <| wpl_q (q_tru (q_pure rfl) h1i) rfl <| wpl_on rfl rfl <| wpl_q (q_pure rfl) rfl <| wpl_q (q_pure rfl) rfl <| wpl_q (q_pure rfl) rfl <| wpl_nil <| ex_then <| wpc_ret ?_
        refine ex_then_ret ?_
        refine ret1 (.inl rfl) rfl rfl ?_
        exact fun w h => ⟨by first | rfl | simp, h.below⟩
      ·
       have hE0 : snE l 1 idx = 0 := by simpa using hc81
       have kn := sg_known hU hE0 p72.1
       refine wpc_skip <| ex_then <| wpc_seq <| wpc_region <| wpl_q (q_ldN Tryd.underlying32 rfl Tryd.ti32 rfl LenC.h) rfl ?_
       refine wpl_tp (t_callP1 Tryd.hb8 rfl fun w h => rvEncode b72 w (Mem.rvF h zz4) (nm_max kn.lim) kn.lim) rfl (fun b102 p102 => ?_)
       refine wpl_q (q_pure rfl) rfl <| wpl_q (q_pure rfl) rfl <| wpl_q (q_pure rfl) rfl <| wpl_q (q_pure rfl) rfl <| wpl_q (q_pure rfl) rfl <| wpl_nil <| ex_then <| wpc_seq <| wpc_region <| wpl_q (q_pure rfl) rfl ?_
       refine wpl_tp (t_callPT Tryd.hb14 rfl fun w h => frzD (decodeR b102 (encB b72) w (h.seen_row zz4))) rfl (fun b107 p107 => ?_)
       haveI := p107.2.one
       have hb := decP_b p72.1.2.1 p72.1.2.2 kn.chk p107.1
       have hc1 : chkR b107.1 = 0 := (eqv_chk hb.2).symm.trans kn.chk
       have hl1 := chk_lim hc1
       have hr1 : revV b107.1 sr = revV l sr := by rw [rev_mem hc1, rev_mem hZ, ← hb.2.2.2.2.1, kn.ss]
       have hv1 : verE b107.1 (keyR s 1) (keyH 1) = 0 := by rw [← ver_eqv hb.2, ver_eqv kn.eq]; exact sgn_ver s hU kn.ok
       haveI : LenC (v8s (keyR s 1) ++ [Value.int .i64 (keyH 1)]) 17 := ⟨key_l1 s⟩
       haveI : OneC (v8s (keyR s 1) ++ [Value.int .i64 (keyH 1)]) := ⟨one_v8i _ _⟩
       refine wpl_q (q_pure rfl) rfl <| wpl_q (q_pure rfl) rfl <| wpl_q (q_pure rfl) rfl ?_
       refine wpl_t (t_alloc Tryd.ti32 Rv.z.c rfl) rfl (fun b18 => ?_)
       refine wpl_t0 (t_stA Tryd.ti32 rfl rfl LenC.h OneC.h LenC.h) (fun _ => ?_)
       refine wpl_q (q_pure rfl) rfl <| wpl_nil <| ex_then <| wpc_seq <| wpc_region <| wpl_q (q_ldN Tryd.underlying32 rfl Tryd.ti32 rfl LenC.h) rfl <| wpl_q (q_pure rfl) rfl ?_
       refine wpl_t (t_pur Tryd.hb9 rfl fun w h => revoked b107.1 sr w (Mem.rvF h zz4) (nm_max hl1)) rfl (fun b113 => ?_)
       refine wpl_q (q_pure rfl) rfl <| wpl_q (q_pure rfl) rfl <| wpl_q (q_pure rfl) rfl <| wpl_q (q_pure rfl) rfl <| wpl_q (q_pure rfl) rfl <| wpl_nil <| ex_then <| wpc_seq <| wpc_region <| wpl_q (q_ldN Tryd.underlying41 rfl Tryd.ti41 rfl LenC.h) rfl ?_
       refine wpl_t (t_pur Tryd.hb11 rfl fun w h => key7 s 1 w hs (glob h hG)) rfl (fun b118 => ?_)
       refine wpl_q (q_pure rfl) rfl <| wpl_q (q_pure rfl) rfl <| wpl_q (q_pure rfl) rfl ?_
       refine wpl_t (t_alloc Tryd.ti43 (v8s (List.replicate 16 0) ++ [.int .i64 0]) rfl) rfl (fun b22 => ?_)
       refine wpl_t0 (t_stA Tryd.ti43 rfl rfl LenC.h OneC.h LenC.h) (fun _ => ?_)
       refine wpl_q (q_pure rfl) rfl <| wpl_nil <| ex_then <| wpc_seq <| wpc_region <| wpl_q (q_pure rfl) rfl <| wpl_q (q_pure rfl) rfl <| wpl_on rfl rfl <| wpl_q (q_pure rfl) rfl <| wpl_on rfl rfl <| wpl_q (q_tru (q_eqI rfl rfl) kn.chk) rfl <| wpl_q (q_pure rfl) rfl ?_
       refine wpl_q (q_pure rfl) rfl <| wpl_on rfl rfl <| wpl_q (q_pure rfl) rfl <| wpl_on rfl rfl <| wpl_q (q_tru (q_eqI rfl rfl) hb.1) rfl <| wpl_q (q_pure rfl) rfl <| wpl_q (q_pure rfl) rfl <| wpl_on rfl rfl <| wpl_q (q_pure rfl) rfl <| wpl_on rfl rfl <| wpl_q (q_tru (q_eqI rfl rfl) hc1) rfl <| wpl_q (q_pure rfl) rfl ?_
       refine wpl_q (q_pure rfl) rfl <| wpl_on rfl rfl <| wpl_q (q_pure rfl) rfl <| wpl_on rfl rfl <| wpl_q (q_pure rfl) rfl <| wpl_on rfl rfl <| wpl_q (q_tru (q_beq Tryd.underlying4 rfl rfl) hr1) rfl <| wpl_q (q_pure rfl) rfl <| wpl_q (q_pure rfl) rfl <| wpl_on rfl rfl <| wpl_q (q_pure rfl) rfl <| wpl_on rfl rfl ?_
       refine wpl_q (q_tru (q_eqI rfl rfl) rfl) rfl <| wpl_q (q_pure rfl) rfl <| wpl_q (q_pure rfl) rfl <| wpl_on rfl rfl <| wpl_q (q_ldN Tryd.underlying32 rfl Tryd.ti32 rfl LenC.h) rfl <| wpl_on rfl rfl <| wpl_q (q_ldN Tryd.underlying43 rfl Tryd.ti43 rfl LenC.h) rfl <| wpl_on rfl rfl ?_
       refine wpl_t (t_pur Tryd.hb16 rfl fun w h => rvVerify b107.1 (keyR s 1) (keyH 1) w (Mem.rvF h zz4) (nm_max hl1) (keyR_length _ _) hl1 (glob h hG)) rfl (fun b146 => ?_)
       refine wpl_on rfl rfl <| wpl_q (q_tru (q_eqI rfl rfl) hv1) rfl <| wpl_q (q_pure rfl) rfl <| wpl_q (q_pure rfl) rfl <| wpl_nil <| ex_then <| wpc_ret ?_
       refine ret1 (.inl rfl) rfl rfl ?_
       exact fun w h => ⟨by first | rfl | simp, h.below⟩
end Go.Proofs.YtgnablliekgbgaaDoor
