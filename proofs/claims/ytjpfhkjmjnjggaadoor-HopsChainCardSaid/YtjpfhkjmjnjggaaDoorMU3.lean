/- What the statement reaches, in order. -/
import Derived.Test.YtjpfhkjmjnjggaaDoorMUTI
import Derived.Test.YtjpfhkjmjnjggaaDoorMUPLI
import Derived.Test.YtjpfhkjmjnjggaaDoorMUPLZ
import Derived.Test.YtjpfhkjmjnjggaaDoorMUPLL
import Derived.Test.YtjpfhkjmjnjggaaDoorMUPLN
import Derived.Test.YtjpfhkjmjnjggaaDoorMUPLP
import Derived.WalkKit
import Derived.ProofKit
import Derived.OpenShut
import Derived.ChangeOld
import Derived.Below
import Derived.Carry
import Derived.LaidMore
import Derived.Deep.DeepHandedRow
import Derived.Deep.DeepWitnessRowRef
import Derived.Lib.LaidTab
import Derived.Stop.Joined
import Derived.Test.YtjpfhkjmjnjggaaDoorMU2
set_option linter.unusedSimpArgs false
set_option linter.unusedVariables false
set_option maxRecDepth 100000
namespace Go.Proofs.YtjpfhkjmjnjggaaDoor
open Go Go.PL Go.RowKit
theorem sign7 (xs : List UInt8) (ht : Int) (idx : Int) (bv : Value) (bs : List UInt8) (w : World) (hxs : xs.length = 16) (hbv : Seen w.cell? bv bs.length 1 (v8s bs)) (hG : Glb w) :
    Calls Tryd.prog 80 [.agg (v8s xs).toArray, .int .i64 ht, .int .i64 idx, bv].toArray w (GivesP w (fun x : Value × Value => SV x.1 (sigC xs ht idx bs).length ∧ SV x.2 (sigP xs ht idx).length) (fun x : Value × Value => .tuple #[.agg #[.int .i64 (sigI ht idx), x.1, x.2], .int .i64 (sigE ht idx)]) (fun x => [.row x.1 (sigC xs ht idx bs).length 61 16 (v8s (sigC xs ht idx bs).flatten), .row x.2 (sigP xs ht idx).length 61 16 (v8s (sigP xs ht idx).flatten)]) (fun _ => [])) := by
  have sbv := hbv.sv
  have lbv := sbv.le
  simp only [maxLen] at lbv
  refine enter (m := 62) (R := Mem w [] [] []) Tryd.func80 rfl rfl (Nat.le_of_ble_eq_true rfl) (Mem.start w) ?_
  refine wpc_seq <| wpc_region ?_
  refine wpl_t (t_box rfl (v8s xs) rfl) rfl (fun b4 => ?_)
  refine wpl_t (t_alloc Tryd.ti66 _ rfl) rfl (fun b8 => ?_)
  refine wpl_q (q_pure rfl) rfl <| wpl_nil <| ex_then <| wpc_seq <| wpc_seq <| wpc_region <| wpl_q (q_pure rfl) rfl ?_
  refine wpl_t (t_pur Tryd.hb65 rfl fun w h => good _ w) rfl (fun b15 => ?_)
  refine wpl_q (q_pure rfl) rfl <| wpl_q (q_pure rfl) rfl ?_
  refine wpl_bool2 17 16 rfl rfl (fun hb17 => ?_) (fun hb17 => ?_)
  ·
   try simp only [decide_eq_true_eq, decide_eq_false_iff_not, Bool.and_eq_true, Bool.or_eq_true, beq_iff_eq, bne_iff_ne, ne_eq, Bool.not_eq_true', Bool.not_eq_false', Decidable.not_not] at hb17
   refine wpl_off rfl rfl rfl rfl <| wpl_off rfl rfl rfl rfl <| wpl_q (q_pure rfl) rfl <| wpl_q (q_pure rfl) rfl <| wpl_off rfl rfl rfl rfl <| wpl_off rfl rfl rfl rfl <| wpl_off rfl rfl rfl rfl <| wpl_off rfl rfl rfl rfl <| wpl_q (q_pure rfl) rfl <| wpl_nil <| ex_then ?_
   refine wpc_cond_t rfl ?_
   refine wpc_seq <| wpc_region ?_
   refine wpl_q (q_build (cs := [.int .i64 0, .slice none 0 0, .slice none 0 0]) rfl built_sig0) rfl ?_
   refine wpl_t0 (t_stA Tryd.ti66 rfl rfl zz0 zz3 zz0) (fun _ => ?_)
   refine wpl_q (q_pure rfl) rfl <| wpl_nil <| ex_then <| wpc_ret ?_
   refine ex_then_ret ?_
   refine retv2 (.inl rfl) rfl (rv_agg Tryd.underlying66 rfl Tryd.ti66 rfl (fun w h => h.atB) rfl) (rv_tmp rfl) ?_
   exact fun w h => by
     first
     | (
       have hno : ¬ okS ht idx := fun hk => by
         obtain ⟨h1, h2, h3⟩ := hk
         try rw [Int.toNat_natCast] at h3
         first | omega | (simp only [Bool.not_eq_true', decide_eq_false_iff_not, decide_eq_true_eq] at *; omega) | (simp_all; done)
       have e1 : sigC xs ht idx bs = [] := if_neg hno
       have e2 : sigP xs ht idx = [] := if_neg hno
       have e3 : sigI ht idx = 0 := if_neg hno
       have e4 : sigE ht idx = 2 := if_neg hno
       rw [e1, e2, e3, e4]
       exact ⟨(.slice none 0 0, .slice none 0 0), ⟨SV.nil, SV.nil⟩, rfl, h.below, ((h.nilRow 61 16).nilRow 61 16).made (.keep (.keep .nil)) .nil⟩)
     | (
       have hno : ¬ okS (m : Int) idx := fun hk => by
         obtain ⟨h1, h2, h3⟩ := hk
         try rw [Int.toNat_natCast] at h3
         first | omega | (simp only [Bool.not_eq_true', decide_eq_false_iff_not, decide_eq_true_eq] at *; omega) | (simp_all; done)
       have e1 : sigC xs (m : Int) idx bs = [] := if_neg hno
       have e2 : sigP xs (m : Int) idx = [] := if_neg hno
       have e3 : sigI (m : Int) idx = 0 := if_neg hno
       have e4 : sigE (m : Int) idx = 2 := if_neg hno
       rw [e1, e2, e3, e4]
       exact ⟨(.slice none 0 0, .slice none 0 0), ⟨SV.nil, SV.nil⟩, rfl, h.below, ((h.nilRow 61 16).nilRow 61 16).made (.keep (.keep .nil)) .nil⟩)
  ·
   simp only [Bool.not_eq_false', decide_eq_true_eq] at hb17
   obtain ⟨m, rfl⟩ : ∃ m : Nat, ht = (m : Int) := ⟨ht.toNat, zz13⟩
   have hpw := pow_le16 (m := m) zz13
   refine wpl_on rfl rfl <| wpl_q (q_pure rfl) rfl <| wpl_on rfl rfl <| wpl_q (q_pure rfl) rfl <| wpl_q (q_pure rfl) rfl <| wpl_q (q_pure rfl) rfl ?_
   refine wpl_bool2 21 19 rfl rfl (fun hb21 => ?_) (fun hb21 => ?_)
   ·
    try simp only [decide_eq_true_eq, decide_eq_false_iff_not, Bool.and_eq_true, Bool.or_eq_true, beq_iff_eq, bne_iff_ne, ne_eq, Bool.not_eq_true', Bool.not_eq_false', Decidable.not_not] at hb21
    refine wpl_off rfl rfl rfl rfl <| wpl_off rfl rfl rfl rfl <| wpl_off rfl rfl rfl rfl <| wpl_off rfl rfl rfl rfl <| wpl_q (q_pure rfl) rfl <| wpl_nil <| ex_then ?_
    refine wpc_cond_t rfl ?_
    refine wpc_seq <| wpc_region ?_
    refine wpl_q (q_build (cs := [.int .i64 0, .slice none 0 0, .slice none 0 0]) rfl built_sig0) rfl ?_
    refine wpl_t0 (t_stA Tryd.ti66 rfl rfl zz0 zz3 zz0) (fun _ => ?_)
    refine wpl_q (q_pure rfl) rfl <| wpl_nil <| ex_then <| wpc_ret ?_
    refine ex_then_ret ?_
    refine retv2 (.inl rfl) rfl (rv_agg Tryd.underlying66 rfl Tryd.ti66 rfl (fun w h => h.atB) rfl) (rv_tmp rfl) ?_
    exact fun w h => by
      first
      | (
        have hno : ¬ okS ht idx := fun hk => by
          obtain ⟨h1, h2, h3⟩ := hk
          try rw [Int.toNat_natCast] at h3
          first | omega | (simp only [Bool.not_eq_true', decide_eq_false_iff_not, decide_eq_true_eq] at *; omega) | (simp_all; done)
        have e1 : sigC xs ht idx bs = [] := if_neg hno
        have e2 : sigP xs ht idx = [] := if_neg hno
        have e3 : sigI ht idx = 0 := if_neg hno
        have e4 : sigE ht idx = 2 := if_neg hno
        rw [e1, e2, e3, e4]
        exact ⟨(.slice none 0 0, .slice none 0 0), ⟨SV.nil, SV.nil⟩, rfl, h.below, ((h.nilRow 61 16).nilRow 61 16).made (.keep (.keep .nil)) .nil⟩)
      | (
        have hno : ¬ okS (m : Int) idx := fun hk => by
          obtain ⟨h1, h2, h3⟩ := hk
          try rw [Int.toNat_natCast] at h3
          first | omega | (simp only [Bool.not_eq_true', decide_eq_false_iff_not, decide_eq_true_eq] at *; omega) | (simp_all; done)
        have e1 : sigC xs (m : Int) idx bs = [] := if_neg hno
        have e2 : sigP xs (m : Int) idx = [] := if_neg hno
        have e3 : sigI (m : Int) idx = 0 := if_neg hno
        have e4 : sigE (m : Int) idx = 2 := if_neg hno
        rw [e1, e2, e3, e4]
        exact ⟨(.slice none 0 0, .slice none 0 0), ⟨SV.nil, SV.nil⟩, rfl, h.below, ((h.nilRow 61 16).nilRow 61 16).made (.keep (.keep .nil)) .nil⟩)
   ·
    try simp only [decide_eq_true_eq, decide_eq_false_iff_not, Bool.and_eq_true, Bool.or_eq_true, beq_iff_eq, bne_iff_ne, ne_eq, Bool.not_eq_true', Bool.not_eq_false', Decidable.not_not] at hb21
    refine wpl_on rfl rfl <| wpl_q (q_pure rfl) rfl <| wpl_on rfl rfl <| wpl_q (q_pure rfl) rfl <| wpl_on rfl rfl ?_
    refine wpl_q (q_shlN (a := 1) rfl rfl zz33 zz2) rfl ?_
    refine wpl_on rfl rfl <| wpl_q (q_pure rfl) rfl <| wpl_q (q_pure rfl) rfl <| wpl_nil <| ex_then ?_
    refine wpc_cond rfl (fun hc26 => ?_) (fun hc26 => ?_)
    ·
     try simp only [decide_eq_true_eq, decide_eq_false_iff_not, Bool.and_eq_true, Bool.or_eq_true, beq_iff_eq, bne_iff_ne, ne_eq, Bool.not_eq_true', Bool.not_eq_false', Decidable.not_not] at hc26
     refine wpc_seq <| wpc_region ?_
     refine wpl_q (q_build (cs := [.int .i64 0, .slice none 0 0, .slice none 0 0]) rfl built_sig0) rfl ?_
     refine wpl_t0 (t_stA Tryd.ti66 rfl rfl zz0 zz3 zz0) (fun _ => ?_)
     refine wpl_q (q_pure rfl) rfl <| wpl_nil <| ex_then <| wpc_ret ?_
     refine ex_then_ret ?_
     refine retv2 (.inl rfl) rfl (rv_agg Tryd.underlying66 rfl Tryd.ti66 rfl (fun w h => h.atB) rfl) (rv_tmp rfl) ?_
     exact fun w h => by
       first
       | (
         have hno : ¬ okS ht idx := fun hk => by
           obtain ⟨h1, h2, h3⟩ := hk
           try rw [Int.toNat_natCast] at h3
           first | omega | (simp only [Bool.not_eq_true', decide_eq_false_iff_not, decide_eq_true_eq] at *; omega) | (simp_all; done)
         have e1 : sigC xs ht idx bs = [] := if_neg hno
         have e2 : sigP xs ht idx = [] := if_neg hno
         have e3 : sigI ht idx = 0 := if_neg hno
         have e4 : sigE ht idx = 2 := if_neg hno
         rw [e1, e2, e3, e4]
         exact ⟨(.slice none 0 0, .slice none 0 0), ⟨SV.nil, SV.nil⟩, rfl, h.below, ((h.nilRow 61 16).nilRow 61 16).made (.keep (.keep .nil)) .nil⟩)
       | (
         have hno : ¬ okS (m : Int) idx := fun hk => by
           obtain ⟨h1, h2, h3⟩ := hk
           try rw [Int.toNat_natCast] at h3
           first | omega | (simp only [Bool.not_eq_true', decide_eq_false_iff_not, decide_eq_true_eq] at *; omega) | (simp_all; done)
         have e1 : sigC xs (m : Int) idx bs = [] := if_neg hno
         have e2 : sigP xs (m : Int) idx = [] := if_neg hno
         have e3 : sigI (m : Int) idx = 0 := if_neg hno
         have e4 : sigE (m : Int) idx = 2 := if_neg hno
         rw [e1, e2, e3, e4]
         exact ⟨(.slice none 0 0, .slice none 0 0), ⟨SV.nil, SV.nil⟩, rfl, h.below, ((h.nilRow 61 16).nilRow 61 16).made (.keep (.keep .nil)) .nil⟩)
    ·
     obtain ⟨q, rfl⟩ : ∃ q : Nat, idx = (q : Int) := ⟨idx.toNat, zz13⟩
     have hq : q < 2 ^ m := by
       simp only [decide_eq_false_iff_not] at hc26
       omega
     have hok : okS (m : Int) (q : Int) := okS_nat zz13 hq
     have e1 : sigC xs m q bs = signF (leafF xs q) bs := if_pos hok
     have e2 : sigP xs m q = pathF xs q m := if_pos hok
     have e3 : sigI m q = q := if_pos hok
     have e4 : sigE m q = 0 := if_pos hok
     refine wpc_skip <| ex_then <| wpc_seq <| wpc_region ?_
     refine wpl_q (q_ldN Tryd.underlying61 rfl Tryd.ti61 rfl zz0) rfl ?_
     refine wpl_q (q_pure rfl) rfl ?_
     refine wpl_q (q_build (cs := v8s xs ++ [Value.int .i64 ((m : Nat) : Int)]) rfl (built_tree _ _ hxs)) rfl ?_
     refine wpl_t (t_alloc Tryd.ti145 _ rfl) rfl (fun b10 => ?_)
     refine wpl_t0 (t_stA Tryd.ti145 rfl rfl zz0 zz3 zz0) (fun _ => ?_)
     refine wpl_nil <| ex_then <| wpc_seq <| wpc_region <| wpl_q (q_pure rfl) rfl ?_
     refine wpl_q (q_ldN Tryd.underlying145 rfl Tryd.ti145 rfl zz0) rfl ?_
     refine wpl_q (q_pure rfl) rfl ?_
     refine wpl_t (t_pur Tryd.hb98 rfl fun w h => leaf7 _ _ _ w zz20 (glob h hG)) rfl (fun b34 => ?_)
     refine wpl_q (q_pure rfl) rfl ?_
     refine wpl_tp (t_callP1 Tryd.hb97 rfl fun w h => sign1 _ _ _ w zz20 zz12 (glob h hG)) rfl (fun b36 p36 => ?_)
     refine wpl_q (q_build (cs := [.int .i64 ((q : Nat) : Int), b36, .slice none 0 0]) rfl (built_sig2 p36 _)) rfl ?_
     refine wpl_t (t_alloc Tryd.ti66 _ rfl) rfl (fun b11 => ?_)
     refine wpl_t0 (t_stA Tryd.ti66 rfl rfl zz0 zz3 zz0) (fun _ => ?_)
     refine wpl_nil <| ex_then <| wpc_seq <| wpc_seq <| wpc_region <| wpl_q (q_ldN Tryd.underlying145 rfl Tryd.ti145 rfl (key_len _ _ hxs)) rfl ?_
     refine wpl_tp (t_callPF Tryd.hb83 rfl fun w h => levels7 _ _ w zz20 zz13 (glob h hG)) rfl (fun b39 p39 => ?_)
     obtain ⟨hq1, hq2⟩ := p39
     refine wpl_q (q_pure rfl) rfl ?_
     refine wpl_q (q_slWh Tryd.underlying143 Tryd.ti64 rfl rfl zz4 zz13) rfl ?_
     refine wpl_q (q_lenW Tryd.underlying143 rfl zz4) rfl ?_
     refine wpl_q (q_pure rfl) rfl <| wpl_nil <| ex_then <| wpc_block ?_
     refine wpc_loopc (ι := { x : Nat × Value // (x.1 ≤ m) ∧ (SV x.2 x.1) }) [(2, _), (8, _), (11, _), (41, _), (42, _)] (fun x Lc => (43, .int .i64 ((x.1.1 : Nat) : Int)) :: Lc) (fun x => Mem w [] [.row x.1.2 x.1.1 61 16 (v8s (pathF xs q x.1.1).flatten), .row b39.1 (m + 1) 64 1 (b39.2.map Prod.fst), .blk b11 66 [.int .i64 ((q : Nat) : Int), b36, x.1.2], .row b36 35 61 16 (v8s (signF (leafF xs q) bs).flatten), .blk b10 145 (v8s xs ++ [Value.int .i64 ((m : Nat) : Int)]), .blk b8 66 [.int .i64 0, .slice none 0 0, .slice none 0 0]] [rowsF 16 b39.2]) (fun x => m - x.1.1) ⟨(0, .slice none 0 0), ⟨Nat.zero_le _, SV.nil⟩⟩ zz10 ?_ ?_
     ·
      exact fun w h => by
        dsimp only
        exact (h.nilRow 61 16).sub (.keep (.keep (.keep (.keep (.keep (.keep .nil)))))) (Sub.refl _)
     ·
      rintro ⟨⟨k, vp⟩, ⟨hi0, hi1⟩⟩; try dsimp only
      have hi0 : k ≤ m := hi0; have hi1 : SV vp k := hi1
      refine wpc_seq <| wpc_region <| wpl_q (q_pure rfl) rfl <| wpl_nil <| ex_then <| wpc_seq ?_
      refine wpc_cond rfl (fun hc44 => ?_) (fun hc44 => ?_)
      ·
       simp only [decide_eq_true_eq] at hc44
       have hkm : k < m := by omega
       obtain ⟨u, hu1, hu2, hu3⟩ := hq2.get (show k < m + 1 from zz13)
       have hsl := sib_lt hq hkm
       have hqk : q / 2 ^ k ≤ q := Nat.div_le_self _ _
       have hpk : 2 ^ k ≤ 16 := pow_le16 zz13
       have hll := lev_length xs k (2 ^ (m - k))
       have hla := lev_all xs k (2 ^ (m - k))
       have hgl := getD_mem_len hla (i := ((q / 2 ^ k) ^^^ 1)) (by rw [hll]; exact hsl)
       refine wpc_skip <| ex_then <| wpc_seq <| wpc_block <| wpc_seq <| wpc_region <| wpl_q (q_pure rfl) rfl ?_
       refine wpl_q (q_idxW1 Tryd.underlying143 Tryd.ti64 rfl rfl zz4 zz2) rfl ?_
       refine wpl_q (q_ldW Tryd.underlying64 rfl rfl (fun w h => h.seenV.slv 0 m (Nat.zero_le _) zz13) (by rw [Nat.zero_mul, List.drop_zero, List.getElem?_take, if_pos zz13]; exact hu1)) rfl ?_
       refine wpl_q (q_pure rfl) rfl <| wpl_q (q_pure rfl) rfl <| wpl_nil <| ex_then ?_
       refine wpc_draw 10 zz5 (fun _ h => h.drew) ?_
       refine wpd_p 0 rfl zz5 trivial (q_field Tryd.underlying66 rfl Tryd.ti64 rfl rfl _ rfl) rfl sk0 ?_
       refine wpd_q 1 rfl zz5 trivial (q_ld Tryd.underlying64 rfl rfl rfl) rfl (fun _ h => h) ?_
       refine wpd_p 2 rfl zz5 trivial (q_pure rfl) rfl sk0 ?_
       refine wpd_p 3 rfl zz5 trivial (q_pure rfl) rfl sk0 ?_
       refine wpd_p 4 rfl zz5 trivial (q_pure rfl) rfl sk0 ?_
       refine wpd_p 5 rfl zz5 trivial (q_shrN rfl rfl zz33) rfl sk0 ?_
       refine wpd_p 6 rfl zz5 trivial (q_xorN (b := 1) rfl rfl zz2 zz2) rfl sk0 ?_
       refine wpd_p 7 rfl zz5 trivial (q_idxW Tryd.underlying64 Tryd.ti61 rfl rfl zz4 zz2) rfl sk0 ?_
       refine wpd_qB 8 [9, 10] rfl zz5 trivial (q_ldWN Tryd.underlying61 rfl Tryd.ti61 rfl (fun w h => h.rowsF zz6 hu2) (v8s ((lev xs k (2 ^ (m - k))).getD ((q / 2 ^ k) ^^^ 1) [])) (part8 hla (by rw [hll]; exact hsl)) ((v8s_length _).trans hgl)) rfl (fun _ h => h) ?_
       refine wpd_tp 9 rfl zz5 trivial (t_bsS [_] Tryd.underlying64 Tryd.ti61 rfl zz17 rfl zz17 zz17 rfl (all_one zz20)) rfl (fun _ => (fun w h => .inr (h.sub SubC.h SubC.h))) (fun b57 p57 => ?_)
       refine wpd_tp 10 rfl zz5 trivial (t_apW Tryd.underlying64 Tryd.ti61 rfl zz17 rfl rfl (fun w h => zz9) zz3 zz2 zz2 (v8s (pathF xs q (k + 1)).flatten) (by rw [pathF_succ, List.flatten_append, v8s_append, ← lev_get xs k (2 ^ (m - k)) ((q / 2 ^ k) ^^^ 1) hsl])) rfl (fun _ => skk rfl) (fun b58 p58 => ?_)
       refine wpd_p 11 rfl zz5 trivial (q_field Tryd.underlying66 rfl Tryd.ti64 rfl rfl _ rfl) rfl (skk rfl) ?_
       refine wpd_t0 12 rfl zz5 trivial (t_st1 Tryd.ti64 rfl rfl (SV.one zz4) zz7 _ rfl) (fun _ => skk rfl) (fun _ => ?_)
       refine wpd_done zz5 ?_
       refine ex_block <| ex_then <| wpc_region ?_
       refine wpl_q (q_addN (b := 1) rfl rfl zz2) rfl ?_
       refine wpl_q (q_pure rfl) rfl <| wpl_nil ?_
       refine ex_again ⟨(k + 1, b58), ⟨zz13, p58⟩⟩ ?_ ?_ ?_
       ·
        exact zz10
       ·
        exact fun w h => h.sub (.drop (Sub.refl _)) (Sub.refl _)
       ·
        (show m - (k + 1) < m - k); omega
      ·
       simp only [decide_eq_false_iff_not] at hc44
       obtain rfl : k = m := by omega
       refine wpc_exit ?_
       refine ex_then_exit ?_
       refine ex_then_exit ?_
       refine ex_block_hit ?_
       refine ex_then <| wpc_seq <| wpc_region ?_
       refine wpl_q (q_ldN Tryd.underlying66 rfl Tryd.ti66 rfl zz0) rfl ?_
       refine wpl_t0 (t_stA Tryd.ti66 rfl rfl zz0 zz3 zz0) (fun _ => ?_)
       refine wpl_q (q_pure rfl) rfl <| wpl_nil <| ex_then <| wpc_ret ?_
       refine retv2 (.inl rfl) rfl (rv_agg Tryd.underlying66 rfl Tryd.ti66 rfl (fun w h => h.atB) rfl) (rv_tmp rfl) ?_
       exact fun w h => by
         rw [e1, e2, e3, e4, signF_length, pathF_length]
         exact ⟨(b36, vp), ⟨p36, hi1⟩, rfl, h.below, by first | exact h.made (.keep (.keep .nil)) .nil | exact (h.sub (M' := [_, _]) SubC.h .nil).swap.made (.keep (.keep .nil)) .nil⟩
end Go.Proofs.YtjpfhkjmjnjggaaDoor
namespace Go.Proofs.YtjpfhkjmjnjggaaDoor
open Go Go.PL Go.RowKit
theorem sib_eq (j : Nat) : j ^^^ 1 = if j % 2 = 1 then j - 1 else j + 1 := by
  have h := Nat.div_add_mod j 2
  split
  · rename_i h1
    have e : j = 2 * (j / 2) + 1 := by omega
    generalize j / 2 = c at e
    subst e
    rw [show 2 * c + 1 - 1 = 2 * c from zz13]
    apply Nat.eq_of_testBit_eq
    intro i
    cases i with
    | zero => simp [Nat.testBit_zero, Nat.testBit_xor]
    | succ i => simp [Nat.testBit_succ, Nat.xor_div_two]; congr 1; omega
  · have e : j = 2 * (j / 2) := by omega
    generalize j / 2 = c at e
    subst e
    apply Nat.eq_of_testBit_eq
    intro i
    cases i with
    | zero => simp [Nat.testBit_zero, Nat.testBit_xor]
    | succ i => simp [Nat.testBit_succ, Nat.xor_div_two]; congr 1; omega
end Go.Proofs.YtjpfhkjmjnjggaaDoor
namespace Go.Proofs.YtjpfhkjmjnjggaaDoor
open Go Go.PL Go.RowKit
theorem eqc_up {P : Program} {dp dp' : Nat} {t : TypeId} {agg : Bool} {sz : Nat} {W : List Value → Prop} (h : EqC P dp t agg sz W) (hd : dp ≤ dp') : EqC P dp' t agg sz W := ⟨h.1, h.2.1, h.2.2.1, h.2.2.2.1, fun d hdd => h.2.2.2.2 d zz13⟩
theorem maskF_4 {f : UInt8} (h : f = 4) (n : Nat) : (maskF f n).1 = 0 := by unfold maskF; rw [if_pos h]
theorem maskF_hi {f : UInt8} {n : Nat} (h : ¬ f = 4) (h2 : 64 ≤ n) : maskF f n = (sl64 18446744073709551615 (n - 64), 0) := by unfold maskF; rw [if_neg h, if_pos h2]
theorem maskF_lo {f : UInt8} {n : Nat} (h : ¬ f = 4) (h2 : ¬ 64 ≤ n) : maskF f n = (18446744073709551615, sl64 18446744073709551615 n) := by unfold maskF; rw [if_neg h, if_neg h2]
def adL (a b : UInt64) : List Value := [.int .u64 (a.toNat : Int), .int .u64 (b.toNat : Int)]
def pfL (f : UInt8) (a b : UInt64) (n : Int) : List Value := [.int .u8 (f.toNat : Int), .int .u64 (a.toNat : Int), .int .u64 (b.toNat : Int), .int .i64 n]
theorem u64_inj {a b : UInt64} (h : (Value.int .u64 (a.toNat : Int)) = .int .u64 (b.toNat : Int)) : a = b := by
  have := (Value.int.inj h).2
  exact UInt64.toNat_inj.1 zz13
theorem u8_inj {a b : UInt8} (h : (Value.int .u8 (a.toNat : Int)) = .int .u8 (b.toNat : Int)) : a = b := by
  have := (Value.int.inj h).2
  exact UInt8.toNat_inj.1 zz13
theorem u32_inj {a b : UInt32} (h : (Value.int .u32 (a.toNat : Int)) = .int .u32 (b.toNat : Int)) : a = b := by
  have := (Value.int.inj h).2
  exact UInt32.toNat_inj.1 zz13
theorem adL_inj {a b c d : UInt64} (h : adL a b = adL c d) : a = c ∧ b = d := by
  unfold adL at h
  obtain ⟨h1, h2⟩ := List.cons.inj h
  obtain ⟨h3, _⟩ := List.cons.inj h2
  exact ⟨u64_inj h1, u64_inj h3⟩
theorem eqAddr : EqC Tryd.prog 2 24 true 2 (fun cs => cs.length = 2 ∧ IntCell .u64 ((cs.drop 0).take 1) ∧ IntCell .u64 ((cs.drop 1).take 1) ∧ True) := by
  refine eqc_struct Tryd.underlying24 Tryd.ti24 zz5 ?_
  refine EqFs.cons (sz := 1) (W := IntCell .u64) zz5 rfl (eqc_int Tryd.underlying22 Tryd.ti22) ?_
  refine EqFs.cons (sz := 1) (W := IntCell .u64) zz5 rfl (eqc_int Tryd.underlying22 Tryd.ti22) ?_
  exact EqFs.nil _
theorem q_neAddr {n : Cx} {R : World → Prop} {L : Slots} {t' : TypeId} {x y : Operand} {a b c d : UInt64} (hx : ev L x = some (.agg (adL a b).toArray)) (hy : ev L y = some (.agg (adL c d).toArray)) : QOp Tryd.prog n R L (.binOp .neq 24 x y t') (.bool (!decide (a = c ∧ b = d))) :=
  q_neA eqAddr zz17 zz5 hx hy ⟨rfl, ⟨_, rfl⟩, ⟨_, rfl⟩, trivial⟩ ⟨rfl, ⟨_, rfl⟩, ⟨_, rfl⟩, trivial⟩ _ (by
    simp only [Bool.not_eq_true', decide_eq_false_iff_not]; exact ⟨fun h e => h (adL_inj e), fun h e => h (by rw [e.1, e.2])⟩)
theorem eqPfx : EqC Tryd.prog 3 26 true 4 (fun cs => cs.length = 4 ∧ IntCell .u8 ((cs.drop 0).take 1) ∧ (((cs.drop 1).take 2).length = 2 ∧ IntCell .u64 ((((cs.drop 1).take 2).drop 0).take 1) ∧ IntCell .u64 ((((cs.drop 1).take 2).drop 1).take 1) ∧ True) ∧ IntCell .i64 ((cs.drop 3).take 1) ∧ True) := by
  refine eqc_struct Tryd.underlying26 Tryd.ti26 zz5 ?_
  refine EqFs.cons (sz := 1) (W := IntCell .u8) zz5 rfl (eqc_up (dp' := 2) (eqc_int Tryd.underlying5 Tryd.ti5) zz17) ?_
  refine EqFs.cons (sz := 2) (W := fun cs => cs.length = 2 ∧ IntCell .u64 ((cs.drop 0).take 1) ∧ IntCell .u64 ((cs.drop 1).take 1) ∧ True) zz5 rfl eqAddr ?_
  refine EqFs.cons (sz := 1) (W := IntCell .i64) zz5 rfl (eqc_up (dp' := 2) (eqc_int Tryd.underlying3 Tryd.ti3) zz17) ?_
  exact EqFs.nil _
theorem pfL_inj {f g : UInt8} {a b c d : UInt64} {m n : Int} (h : pfL f a b m = pfL g c d n) : f = g ∧ a = c ∧ b = d ∧ m = n := by
  unfold pfL at h
  obtain ⟨h1, h2⟩ := List.cons.inj h
  obtain ⟨h3, h4⟩ := List.cons.inj h2
  obtain ⟨h5, h6⟩ := List.cons.inj h4
  obtain ⟨h7, _⟩ := List.cons.inj h6
  exact ⟨u8_inj h1, u64_inj h3, u64_inj h5, (Value.int.inj h7).2⟩
theorem q_eqPfx {n : Cx} {R : World → Prop} {L : Slots} {t' : TypeId} {x y : Operand} {f g : UInt8} {a b c d : UInt64} {k l : Int} (hx : ev L x = some (.agg (pfL f a b k).toArray)) (hy : ev L y = some (.agg (pfL g c d l).toArray)) : QOp Tryd.prog n R L (.binOp .eql 26 x y t') (.bool (decide (f = g ∧ a = c ∧ b = d ∧ k = l))) :=
  q_eqA eqPfx zz17 zz5 hx hy ⟨rfl, ⟨_, rfl⟩, ⟨rfl, ⟨_, rfl⟩, ⟨_, rfl⟩, trivial⟩, ⟨_, rfl⟩, trivial⟩ ⟨rfl, ⟨_, rfl⟩, ⟨rfl, ⟨_, rfl⟩, ⟨_, rfl⟩, trivial⟩, ⟨_, rfl⟩, trivial⟩ _ (by
    rw [decide_eq_true_eq]; exact ⟨fun e => by rw [e.1, e.2.1, e.2.2.1, e.2.2.2], pfL_inj⟩)
theorem mask (f : UInt8) (k : Nat) (w : World)  (hk : k ≤ widF f) :
    Calls Tryd.prog 64 [.int .u8 f.toNat, .int .i64 ((k : Nat) : Int)].toArray w (Pur w (.agg [.int .u64 ((maskF f (widF f - k)).1.toNat : Int), .int .u64 ((maskF f (widF f - k)).2.toNat : Int)].toArray)) := by
  have hwl := widF_le f
  refine enter (m := 32) (R := Mem w [] [] []) Tryd.func64 rfl rfl (Nat.le_of_ble_eq_true rfl) (Mem.start w) ?_
  refine wpc_seq <| wpc_region ?_
  refine wpl_t (t_alloc Tryd.ti24 [.int .u64 0, .int .u64 0] rfl) rfl (fun b4 => ?_)
  refine wpl_nil <| ex_then <| wpc_seq <| wpc_region <| wpl_q (q_pure rfl) rfl ?_
  refine wpl_t (t_pur (v := .int .i64 ((widF f : Nat) : Int)) Tryd.hb61 rfl fun w h => width f w) rfl (fun b8 => ?_)
  refine wpl_q (q_pure rfl) rfl ?_
  refine wpl_q (q_subN rfl rfl zz13 zz2) rfl ?_
  refine wpl_q (q_pure rfl) rfl <| wpl_nil <| ex_then <| wpc_seq <| wpc_region ?_
  refine wpl_q (q_build (cs := [.int .u64 ((18446744073709551615 : UInt64).toNat : Int), .int .u64 ((18446744073709551615 : UInt64).toNat : Int)]) rfl rfl) rfl ?_
  refine wpl_t (t_alloc Tryd.ti24 [.int .u64 0, .int .u64 0] rfl) rfl (fun b6 => ?_)
  refine wpl_t0 (t_stA Tryd.ti24 rfl rfl LenC.h zz3 LenC.h) (fun _ => ?_)
  refine wpl_nil <| ex_then <| wpc_seq <| wpc_seq <| wpc_region <| wpl_q (q_pure rfl) rfl <| wpl_q (q_pure rfl) rfl <| wpl_nil <| ex_then ?_
  refine wpc_cond rfl (fun hc13 => ?_) (fun hc13 => ?_)
  ·
   simp only [decide_eq_true_eq] at hc13
   have h64 : 64 ≤ widF f - k := by omega
   refine wpc_region <| wpl_q (q_field Tryd.underlying24 rfl Tryd.ti22 rfl rfl _ rfl) rfl ?_
   refine wpl_q (q_ld Tryd.underlying22 rfl rfl zz34) rfl ?_
   refine wpl_q (q_pure rfl) rfl ?_
   refine wpl_q (q_subN (b := 64) rfl rfl zz13 zz2) rfl ?_
   refine wpl_q (q64_shl rfl rfl zz33 _ rfl) rfl ?_
   refine wpl_q (q_build (cs := [.int .u64 ((sl64 18446744073709551615 (widF f - k - 64)).toNat : Int), .int .u64 ((0 : UInt64).toNat : Int)]) rfl rfl) rfl ?_
   refine wpl_t0 (t_stA Tryd.ti24 rfl rfl LenC.h zz3 LenC.h) (fun _ => ?_)
   refine wpl_nil <| ex_then <| wpc_seq <| wpc_seq <| wpc_region <| wpl_q (q_pure rfl) rfl ?_
   refine wpl_q (q8_eql (b := (4 : UInt8)) rfl rfl) rfl ?_
   refine wpl_nil <| ex_then ?_
   refine wpc_cond rfl (fun hc26 => ?_) (fun hc26 => ?_)
   ·
    have h4 : f = 4 := by simpa using hc26
    refine wpc_region <| wpl_q (q_field Tryd.underlying24 rfl Tryd.ti22 rfl rfl _ rfl) rfl ?_
    refine wpl_q (q_ld Tryd.underlying22 rfl rfl zz34) rfl ?_
    refine wpl_q (q64_and (b := (4294967295 : UInt64)) rfl rfl) rfl ?_
    refine wpl_re 29 rfl (congrArg (fun x : UInt64 => Value.int .u64 (x.toNat : Int)) (show _ = (maskF f (widF f - k)).2 by unfold maskF; rw [if_pos h4]; first | rw [if_pos h64] | rw [if_neg h64])) ?_
    refine wpl_q (q_build (cs := [.int .u64 ((0 : UInt64).toNat : Int), .int .u64 (((maskF f (widF f - k)).2).toNat : Int)]) rfl rfl) rfl ?_
    refine wpl_t0 (t_stA Tryd.ti24 rfl rfl LenC.h zz3 LenC.h) (fun _ => ?_)
    refine wpl_nil <| ex_then <| wpc_seq <| wpc_region <| wpl_q (q_ldN Tryd.underlying24 rfl Tryd.ti24 rfl LenC.h) rfl ?_
    refine wpl_t0 (t_stA Tryd.ti24 rfl rfl LenC.h zz3 LenC.h) (fun _ => ?_)
    refine wpl_nil <| ex_then <| wpc_ret ?_
    refine retv1 (.inl rfl) rfl (rv_agg Tryd.underlying24 rfl Tryd.ti24 rfl (fun w h => h.atB) zz0) ?_
    exact fun w h => ⟨zz50, h.below⟩
   ·
    have h4 : ¬ f = 4 := by simpa using hc26
    refine wpc_skip <| ex_then <| wpc_seq <| wpc_region <| wpl_q (q_ldN Tryd.underlying24 rfl Tryd.ti24 rfl LenC.h) rfl ?_
    refine wpl_t0 (t_stA Tryd.ti24 rfl rfl LenC.h zz3 LenC.h) (fun _ => ?_)
    refine wpl_nil <| ex_then <| wpc_ret ?_
    refine retv1 (.inl rfl) rfl (rv_agg Tryd.underlying24 rfl Tryd.ti24 rfl (fun w h => h.atB) zz0) ?_
    exact fun w h => ⟨zz50, h.below⟩
  ·
   simp only [decide_eq_false_iff_not] at hc13
   have h64 : ¬ 64 ≤ widF f - k := by omega
   refine wpc_region <| wpl_q (q_field Tryd.underlying24 rfl Tryd.ti22 rfl rfl _ rfl) rfl ?_
   refine wpl_q (q_ld Tryd.underlying22 rfl rfl zz34) rfl ?_
   refine wpl_q (q_pure rfl) rfl ?_
   refine wpl_q (q64_shl rfl rfl zz33 _ rfl) rfl ?_
   refine wpl_q (q_field Tryd.underlying24 rfl Tryd.ti22 rfl rfl _ rfl) rfl ?_
   refine wpl_t0 (t_st1 Tryd.ti22 rfl rfl rfl zz7 [.int .u64 ((18446744073709551615 : UInt64).toNat : Int), .int .u64 ((sl64 18446744073709551615 (widF f - k)).toNat : Int)] rfl) (fun _ => ?_)
   refine wpl_nil <| ex_then <| wpc_seq <| wpc_seq <| wpc_region <| wpl_q (q_pure rfl) rfl ?_
   refine wpl_q (q8_eql (b := (4 : UInt8)) rfl rfl) rfl ?_
   refine wpl_nil <| ex_then ?_
   refine wpc_cond rfl (fun hc26 => ?_) (fun hc26 => ?_)
   ·
    have h4 : f = 4 := by simpa using hc26
    refine wpc_region <| wpl_q (q_field Tryd.underlying24 rfl Tryd.ti22 rfl rfl _ rfl) rfl ?_
    refine wpl_q (q_ld Tryd.underlying22 rfl rfl zz34) rfl ?_
    refine wpl_q (q64_and (b := (4294967295 : UInt64)) rfl rfl) rfl ?_
    refine wpl_re 29 rfl (congrArg (fun x : UInt64 => Value.int .u64 (x.toNat : Int)) (show _ = (maskF f (widF f - k)).2 by unfold maskF; rw [if_pos h4]; first | rw [if_pos h64] | rw [if_neg h64])) ?_
    refine wpl_q (q_build (cs := [.int .u64 ((0 : UInt64).toNat : Int), .int .u64 (((maskF f (widF f - k)).2).toNat : Int)]) rfl rfl) rfl ?_
    refine wpl_t0 (t_stA Tryd.ti24 rfl rfl LenC.h zz3 LenC.h) (fun _ => ?_)
    refine wpl_nil <| ex_then <| wpc_seq <| wpc_region <| wpl_q (q_ldN Tryd.underlying24 rfl Tryd.ti24 rfl LenC.h) rfl ?_
    refine wpl_t0 (t_stA Tryd.ti24 rfl rfl LenC.h zz3 LenC.h) (fun _ => ?_)
    refine wpl_nil <| ex_then <| wpc_ret ?_
    refine retv1 (.inl rfl) rfl (rv_agg Tryd.underlying24 rfl Tryd.ti24 rfl (fun w h => h.atB) zz0) ?_
    exact fun w h => ⟨zz50, h.below⟩
   ·
    have h4 : ¬ f = 4 := by simpa using hc26
    refine wpc_skip <| ex_then <| wpc_seq <| wpc_region <| wpl_q (q_ldN Tryd.underlying24 rfl Tryd.ti24 rfl LenC.h) rfl ?_
    refine wpl_t0 (t_stA Tryd.ti24 rfl rfl LenC.h zz3 LenC.h) (fun _ => ?_)
    refine wpl_nil <| ex_then <| wpc_ret ?_
    refine retv1 (.inl rfl) rfl (rv_agg Tryd.underlying24 rfl Tryd.ti24 rfl (fun w h => h.atB) zz0) ?_
    exact fun w h => ⟨zz50, h.below⟩
end Go.Proofs.YtjpfhkjmjnjggaaDoor
namespace Go.Proofs.YtjpfhkjmjnjggaaDoor
open Go Go.PL Go.RowKit
theorem numCheck (f : UInt8) (hi lo : UInt64) (ln : Int) (w : World)   :
    Calls Tryd.prog 42 [.agg (pfL f hi lo ln).toArray].toArray w (Pur w (.int .i64 (pfxF f hi lo ln))) := by
  refine enter (m := 39) (R := Mem w [] [] []) Tryd.func42 rfl rfl (Nat.le_of_ble_eq_true rfl) (Mem.start w) ?_
  refine wpc_seq <| wpc_region ?_
  refine wpl_t (t_box rfl (pfL f hi lo ln) rfl) rfl (fun b1 => ?_)
  refine wpl_q (q_pure rfl) rfl <| wpl_nil <| ex_then <| wpc_seq <| wpc_seq <| wpc_region <| wpl_q (q_field Tryd.underlying26 rfl Tryd.ti5 rfl rfl _ rfl) rfl ?_
  refine wpl_q (q_ld Tryd.underlying5 rfl rfl zz39) rfl ?_
  refine wpl_t (t_pur (v := .int .i64 ((widF f : Nat) : Int)) Tryd.hb61 rfl fun w h => width f w) rfl (fun b5 => ?_)
  refine wpl_q (q_pure rfl) rfl <| wpl_nil <| ex_then ?_
  refine wpc_cond rfl (fun hc6 => ?_) (fun hc6 => ?_)
  ·
   have hw0 : widF f = 0 := by simpa using hc6
   have hR : pfxF f hi lo ln = 2 := by rw [pfxF, if_pos hw0]
   refine wpc_seq <| wpc_region <| wpl_q (q_pure rfl) rfl <| wpl_nil <| ex_then <| wpc_ret ?_
   refine ex_then_ret ?_
   refine ret1 (.inl rfl) rfl rfl ?_
   exact fun w h => ⟨by rw [hR], h.below⟩
  ·
   have hw0 : ¬ widF f = 0 := by simpa using hc6
   refine wpc_skip <| ex_then <| wpc_seq <| wpc_seq ?_
   refine wpc_draw 99 zz5 (fun _ h => h.drew) ?_
   refine wpd_p 0 rfl zz5 trivial (q_field Tryd.underlying26 rfl Tryd.ti5 rfl rfl _ rfl) rfl sk0 ?_
   refine wpd_q 1 rfl zz5 trivial (q_ld Tryd.underlying5 rfl rfl zz39) rfl (fun _ h => h) ?_
   refine wpd_p 2 rfl zz5 trivial (q_field Tryd.underlying26 rfl Tryd.ti24 rfl rfl _ rfl) rfl sk0 ?_
   refine wpd_q 3 rfl zz5 trivial (q_ldP Tryd.underlying24 rfl Tryd.ti24 rfl (adL hi lo) rfl zz0) rfl (fun _ h => h) ?_
   refine wpd_t 4 rfl zz5 trivial (t_pur Tryd.hb62 rfl fun w h => checkAddr f hi lo w) rfl (fun _ => sk0) (fun b11 => ?_)
   refine wpd_p 5 rfl zz5 trivial (q_pure rfl) rfl sk0 ?_
   refine wpd_p 6 rfl zz5 trivial (q_pure rfl) rfl sk0 ?_
   refine wpd_bool2 13 12 rfl rfl (fun hb13 => ?_) (fun hb13 => ?_)
   ·
    have hca : caF f hi lo = false := by simpa using hb13
    have hR : pfxF f hi lo ln = 8 := by rw [pfxF, if_neg hw0, if_pos (.inl hca)]
    refine wpd_off 7 rfl zz5 ⟨_, _, rfl, rfl, rfl⟩ rfl sk0 ?_
    refine wpd_off 8 rfl zz5 ⟨_, _, rfl, rfl, rfl⟩ rfl sk0 ?_
    refine wpd_off 9 rfl zz5 ⟨_, _, rfl, rfl, rfl⟩ rfl sk0 ?_
    refine wpd_p 10 rfl zz5 trivial (q_pure rfl) rfl sk0 ?_
    refine wpd_p 11 rfl zz5 trivial (q_pure rfl) rfl sk0 ?_
    refine wpd_off 12 rfl zz5 ⟨_, _, rfl, rfl, rfl⟩ rfl sk0 ?_
    refine wpd_off 13 rfl zz5 ⟨_, _, rfl, rfl, rfl⟩ rfl sk0 ?_
    refine wpd_off 14 rfl zz5 ⟨_, _, rfl, rfl, rfl⟩ rfl sk0 ?_
    refine wpd_off 15 rfl zz5 ⟨_, _, rfl, rfl, rfl⟩ rfl sk0 ?_
    refine wpd_off 16 rfl zz5 ⟨_, _, rfl, rfl, rfl⟩ rfl sk0 ?_
    refine wpd_off 17 rfl zz5 ⟨_, _, rfl, rfl, rfl⟩ rfl sk0 ?_
    refine wpd_p 18 rfl zz5 trivial (q_pure rfl) rfl sk0 ?_
    refine wpd_p 19 rfl zz5 trivial (q_pure rfl) rfl sk0 ?_
    refine wpd_off 20 rfl zz5 ⟨_, _, rfl, rfl, rfl⟩ rfl sk0 ?_
    refine wpd_off 21 rfl zz5 ⟨_, _, rfl, rfl, rfl⟩ rfl sk0 ?_
    refine wpd_off 22 rfl zz5 ⟨_, _, rfl, rfl, rfl⟩ rfl sk0 ?_
    refine wpd_off 23 rfl zz5 ⟨_, _, rfl, rfl, rfl⟩ rfl sk0 ?_
    refine wpd_off 24 rfl zz5 ⟨_, _, rfl, rfl, rfl⟩ rfl sk0 ?_
    refine wpd_off 25 rfl zz5 ⟨_, _, rfl, rfl, rfl⟩ rfl sk0 ?_
    refine wpd_off 26 rfl zz5 ⟨_, _, rfl, rfl, rfl⟩ rfl sk0 ?_
    refine wpd_off 27 rfl zz5 ⟨_, _, rfl, rfl, rfl⟩ rfl sk0 ?_
    refine wpd_off 28 rfl zz5 ⟨_, _, rfl, rfl, rfl⟩ rfl sk0 ?_
    refine wpd_off 29 rfl zz5 ⟨_, _, rfl, rfl, rfl⟩ rfl sk0 ?_
    refine wpd_off 30 rfl zz5 ⟨_, _, rfl, rfl, rfl⟩ rfl sk0 ?_
    refine wpd_p 31 rfl zz5 trivial (q_pure rfl) rfl sk0 ?_
    refine wpd_done zz5 ?_
    refine ex_then ?_
    refine wpc_cond_t rfl ?_
    refine wpc_seq <| wpc_region <| wpl_q (q_pure rfl) rfl <| wpl_nil <| ex_then <| wpc_ret ?_
    refine ex_then_ret ?_
    refine ret1 (.inl rfl) rfl rfl ?_
    exact fun w h => ⟨by rw [hR], h.below⟩
   ·
    have hca : caF f hi lo = true := by simpa using hb13
    refine wpd_p 7 rfl zz5 ⟨_, rfl, rfl⟩ (q_field Tryd.underlying26 rfl Tryd.ti3 rfl rfl _ rfl) rfl sk0 ?_
    refine wpd_q 8 rfl zz5 ⟨_, rfl, rfl⟩ (q_ld Tryd.underlying3 rfl rfl zz32) rfl (fun _ h => h) ?_
    refine wpd_p 9 rfl zz5 ⟨_, rfl, rfl⟩ (q_pure rfl) rfl sk0 ?_
    refine wpd_p 10 rfl zz5 trivial (q_pure rfl) rfl sk0 ?_
    refine wpd_p 11 rfl zz5 trivial (q_pure rfl) rfl sk0 ?_
    refine wpd_bool2 18 16 rfl rfl (fun hb18 => ?_) (fun hb18 => ?_)
    ·
     simp only [decide_eq_true_eq] at hb18
     have hR : pfxF f hi lo ln = 8 := by rw [pfxF, if_neg hw0, if_pos (.inr (.inl hb18))]
     refine wpd_off 12 rfl zz5 ⟨_, _, rfl, rfl, rfl⟩ rfl sk0 ?_
     refine wpd_off 13 rfl zz5 ⟨_, _, rfl, rfl, rfl⟩ rfl sk0 ?_
     refine wpd_off 14 rfl zz5 ⟨_, _, rfl, rfl, rfl⟩ rfl sk0 ?_
     refine wpd_off 15 rfl zz5 ⟨_, _, rfl, rfl, rfl⟩ rfl sk0 ?_
     refine wpd_off 16 rfl zz5 ⟨_, _, rfl, rfl, rfl⟩ rfl sk0 ?_
     refine wpd_off 17 rfl zz5 ⟨_, _, rfl, rfl, rfl⟩ rfl sk0 ?_
     refine wpd_p 18 rfl zz5 trivial (q_pure rfl) rfl sk0 ?_
     refine wpd_p 19 rfl zz5 trivial (q_pure rfl) rfl sk0 ?_
     refine wpd_off 20 rfl zz5 ⟨_, _, rfl, rfl, rfl⟩ rfl sk0 ?_
     refine wpd_off 21 rfl zz5 ⟨_, _, rfl, rfl, rfl⟩ rfl sk0 ?_
     refine wpd_off 22 rfl zz5 ⟨_, _, rfl, rfl, rfl⟩ rfl sk0 ?_
     refine wpd_off 23 rfl zz5 ⟨_, _, rfl, rfl, rfl⟩ rfl sk0 ?_
     refine wpd_off 24 rfl zz5 ⟨_, _, rfl, rfl, rfl⟩ rfl sk0 ?_
     refine wpd_off 25 rfl zz5 ⟨_, _, rfl, rfl, rfl⟩ rfl sk0 ?_
     refine wpd_off 26 rfl zz5 ⟨_, _, rfl, rfl, rfl⟩ rfl sk0 ?_
     refine wpd_off 27 rfl zz5 ⟨_, _, rfl, rfl, rfl⟩ rfl sk0 ?_
     refine wpd_off 28 rfl zz5 ⟨_, _, rfl, rfl, rfl⟩ rfl sk0 ?_
     refine wpd_off 29 rfl zz5 ⟨_, _, rfl, rfl, rfl⟩ rfl sk0 ?_
     refine wpd_off 30 rfl zz5 ⟨_, _, rfl, rfl, rfl⟩ rfl sk0 ?_
     refine wpd_p 31 rfl zz5 trivial (q_pure rfl) rfl sk0 ?_
     refine wpd_done zz5 ?_
     refine ex_then ?_
     refine wpc_cond_t rfl ?_
     refine wpc_seq <| wpc_region <| wpl_q (q_pure rfl) rfl <| wpl_nil <| ex_then <| wpc_ret ?_
     refine ex_then_ret ?_
     refine ret1 (.inl rfl) rfl rfl ?_
     exact fun w h => ⟨by rw [hR], h.below⟩
    ·
     simp only [decide_eq_false_iff_not] at hb18
     refine wpd_p 12 rfl zz5 ⟨_, rfl, rfl⟩ (q_field Tryd.underlying26 rfl Tryd.ti3 rfl rfl _ rfl) rfl sk0 ?_
     refine wpd_q 13 rfl zz5 ⟨_, rfl, rfl⟩ (q_ld Tryd.underlying3 rfl rfl zz32) rfl (fun _ h => h) ?_
     refine wpd_p 14 rfl zz5 ⟨_, rfl, rfl⟩ (q_field Tryd.underlying26 rfl Tryd.ti5 rfl rfl _ rfl) rfl sk0 ?_
     refine wpd_q 15 rfl zz5 ⟨_, rfl, rfl⟩ (q_ld Tryd.underlying5 rfl rfl zz39) rfl (fun _ h => h) ?_
     refine wpd_t 16 rfl zz5 ⟨_, rfl, rfl⟩ (t_pur (v := .int .i64 ((widF f : Nat) : Int)) Tryd.hb61 rfl fun w h => width f w) rfl (fun _ => sk0) (fun b23 => ?_)
     refine wpd_p 17 rfl zz5 ⟨_, rfl, rfl⟩ (q_pure rfl) rfl sk0 ?_
     refine wpd_p 18 rfl zz5 trivial (q_pure rfl) rfl sk0 ?_
     refine wpd_p 19 rfl zz5 trivial (q_pure rfl) rfl sk0 ?_
     refine wpd_bool2 26 24 rfl rfl (fun hb26 => ?_) (fun hb26 => ?_)
     ·
      simp only [decide_eq_true_eq] at hb26
      have hR : pfxF f hi lo ln = 8 := by rw [pfxF, if_neg hw0, if_pos (.inr (.inr zz13))]
      refine wpd_off 20 rfl zz5 ⟨_, _, rfl, rfl, rfl⟩ rfl sk0 ?_
      refine wpd_off 21 rfl zz5 ⟨_, _, rfl, rfl, rfl⟩ rfl sk0 ?_
      refine wpd_off 22 rfl zz5 ⟨_, _, rfl, rfl, rfl⟩ rfl sk0 ?_
      refine wpd_off 23 rfl zz5 ⟨_, _, rfl, rfl, rfl⟩ rfl sk0 ?_
      refine wpd_off 24 rfl zz5 ⟨_, _, rfl, rfl, rfl⟩ rfl sk0 ?_
      refine wpd_off 25 rfl zz5 ⟨_, _, rfl, rfl, rfl⟩ rfl sk0 ?_
      refine wpd_off 26 rfl zz5 ⟨_, _, rfl, rfl, rfl⟩ rfl sk0 ?_
      refine wpd_off 27 rfl zz5 ⟨_, _, rfl, rfl, rfl⟩ rfl sk0 ?_
      refine wpd_off 28 rfl zz5 ⟨_, _, rfl, rfl, rfl⟩ rfl sk0 ?_
      refine wpd_off 29 rfl zz5 ⟨_, _, rfl, rfl, rfl⟩ rfl sk0 ?_
      refine wpd_off 30 rfl zz5 ⟨_, _, rfl, rfl, rfl⟩ rfl sk0 ?_
      refine wpd_p 31 rfl zz5 trivial (q_pure rfl) rfl sk0 ?_
      refine wpd_done zz5 ?_
      refine ex_then ?_
      refine wpc_cond_t rfl ?_
      refine wpc_seq <| wpc_region <| wpl_q (q_pure rfl) rfl <| wpl_nil <| ex_then <| wpc_ret ?_
      refine ex_then_ret ?_
      refine ret1 (.inl rfl) rfl rfl ?_
      exact fun w h => ⟨by rw [hR], h.below⟩
     ·
      simp only [decide_eq_false_iff_not] at hb26
      obtain ⟨k, rfl⟩ : ∃ k : Nat, ln = (k : Int) := ⟨ln.toNat, zz13⟩
      have hB : ¬ (caF f hi lo = false ∨ (k : Int) < 0 ∨ ((widF f : Nat) : Int) < (k : Int)) := by rintro (h | h | h); rw [hca] at h; cases h; exact hb18 h; omega
      have hmk := mask_ok (n := widF f - k) hca zz13 hw0
      refine wpd_p 20 rfl zz5 ⟨_, rfl, rfl⟩ (q_field Tryd.underlying26 rfl Tryd.ti24 rfl rfl _ rfl) rfl sk0 ?_
      refine wpd_q 21 rfl zz5 ⟨_, rfl, rfl⟩ (q_ldP Tryd.underlying24 rfl Tryd.ti24 rfl (adL hi lo) rfl zz0) rfl (fun _ h => h) ?_
      refine wpd_p 22 rfl zz5 ⟨_, rfl, rfl⟩ (q_field Tryd.underlying26 rfl Tryd.ti5 rfl rfl _ rfl) rfl sk0 ?_
      refine wpd_q 23 rfl zz5 ⟨_, rfl, rfl⟩ (q_ld Tryd.underlying5 rfl rfl zz39) rfl (fun _ h => h) ?_
      refine wpd_p 24 rfl zz5 ⟨_, rfl, rfl⟩ (q_field Tryd.underlying26 rfl Tryd.ti3 rfl rfl _ rfl) rfl sk0 ?_
      refine wpd_q 25 rfl zz5 ⟨_, rfl, rfl⟩ (q_ld Tryd.underlying3 rfl rfl zz32) rfl (fun _ h => h) ?_
      refine wpd_p 28 rfl zz5 ⟨_, rfl, rfl⟩ (q_field Tryd.underlying26 rfl Tryd.ti24 rfl rfl _ rfl) rfl sk0 ?_
      refine wpd_q 29 rfl zz5 ⟨_, rfl, rfl⟩ (q_ldP Tryd.underlying24 rfl Tryd.ti24 rfl (adL hi lo) rfl zz0) rfl (fun _ h => h) ?_
      refine wpd_t 26 rfl zz5 ⟨_, rfl, rfl⟩ (t_pur Tryd.hb64 rfl fun w h => mask f k w zz13) rfl (fun _ => sk0) (fun b33 => ?_)
      refine wpd_t 27 rfl zz5 ⟨_, rfl, rfl⟩ (t_pur Tryd.hb63 rfl fun w h => and_ hi lo _ _ w) rfl (fun _ => sk0) (fun b34 => ?_)
      refine wpd_p 30 rfl zz5 ⟨_, rfl, rfl⟩ (q_neAddr (a := hi &&& (maskF f (widF f - k)).1) (b := lo &&& (maskF f (widF f - k)).2) (c := hi) (d := lo) rfl rfl) rfl sk0 ?_
      refine wpd_p 31 rfl zz5 trivial (q_pure rfl) rfl sk0 ?_
      refine wpd_done zz5 ?_
      refine ex_then ?_
      refine wpc_cond rfl (fun hc38 => ?_) (fun hc38 => ?_)
      ·
       first | (have hR : pfxF f hi lo ln = 8 := hR) | (have hR : pfxF f hi lo (k : Int) = 8 := by rw [pfxF, if_neg hw0, if_neg hB, if_neg (fun h => by rw [Int.toNat_natCast] at h; simp [hmk.2 h] at hc38)])
       refine wpc_seq <| wpc_region <| wpl_q (q_pure rfl) rfl <| wpl_nil <| ex_then <| wpc_ret ?_
       refine ex_then_ret ?_
       refine ret1 (.inl rfl) rfl rfl ?_
       exact fun w h => ⟨by rw [hR], h.below⟩
      ·
       have hR : pfxF f hi lo (k : Int) = 0 := by rw [pfxF, if_neg hw0, if_neg hB, if_pos (by rw [Int.toNat_natCast]; exact hmk.1 (by simpa using hc38))]
       refine wpc_skip <| ex_then <| wpc_seq <| wpc_region <| wpl_q (q_pure rfl) rfl <| wpl_nil <| ex_then <| wpc_ret ?_
       refine ret1 (.inl rfl) rfl rfl ?_
       exact fun w h => ⟨by rw [hR], h.below⟩
section
variable {P : Program} {n : Cx} {R : World → Prop} {L : Slots}
theorem q64_quo {t t' : TypeId} {x y : Operand} {a b : UInt64} (hx : ev L x = some (.int .u64 a.toNat)) (hy : ev L y = some (.int .u64 b.toNat)) (h0 : b.toNat ≠ 0) : QOp P n R L (.binOp .quo t x y t') (.int .u64 (a / b).toNat) := by
  have := q_quo (P := P) (n := n) (R := R) (t := t) (t' := t') hx hy zz13
  have e : wk .u64 ((a.toNat : Int).tdiv b.toNat) = ((a / b).toNat : Nat) := by
    have h1 := (a / b).toNat_lt
    rw [UInt64.toNat_div] at h1 ⊢
    have h3 : ((a.toNat : Int).tdiv b.toNat) = ((a.toNat / b.toNat : Nat) : Int) := rfl
    rw [h3]; clear h3 this
    generalize a.toNat / b.toNat = q at *
    simp only [wk]; omega
  rwa [e] at this
theorem q64_rem {t t' : TypeId} {x y : Operand} {a b : UInt64} (hx : ev L x = some (.int .u64 a.toNat)) (hy : ev L y = some (.int .u64 b.toNat)) (h0 : b.toNat ≠ 0) : QOp P n R L (.binOp .rem t x y t') (.int .u64 (a % b).toNat) := by
  have := q_rem (P := P) (n := n) (R := R) (t := t) (t' := t') hx hy zz13
  rw [UInt64.toNat_mod]
  exact this
end
def powU (n : Nat) : UInt64 := UInt64.ofNat (2 ^ n)
theorem powU_toNat {n : Nat} (h : n ≤ 63) : (powU n).toNat = 2 ^ n := by
  unfold powU
  rw [UInt64.toNat_ofNat']
  exact Nat.mod_eq_of_lt (Nat.pow_lt_pow_right zz17 zz13)
theorem powU_succ {n : Nat} (h : n + 1 ≤ 63) : powU n + powU n = powU (n + 1) := by
  apply UInt64.toNat_inj.1
  have h1 : 2 ^ (n + 1) < 2 ^ 64 := Nat.pow_lt_pow_right zz17 zz13
  rw [UInt64.toNat_add, powU_toNat zz13, powU_toNat h, Nat.pow_succ] at *
  rw [← Nat.mul_two]
  exact Nat.mod_eq_of_lt h1
theorem powU_ne {n : Nat} (h : n ≤ 63) : (powU n).toNat ≠ 0 := by
  rw [powU_toNat h]
  have h2 : 0 < 2 ^ n := Nat.pow_pos zz17
  omega
theorem bit_u (x : UInt64) {n : Nat} (h : n ≤ 63) : ((x / powU n) % 2).toNat = x.toNat / 2 ^ n % 2 := by
  rw [UInt64.toNat_mod, UInt64.toNat_div, powU_toNat h]; rfl
def bitsF (w : Nat) (hi lo : UInt64) (i : Nat) : List Nat := (List.range i).map fun j => bitF hi lo (w - 1 - j)
theorem bitsF_len (w : Nat) (hi lo : UInt64) (i : Nat) : (bitsF w hi lo i).length = i := by simp [bitsF]
theorem bitsF_succ (w : Nat) (hi lo : UInt64) (i : Nat) : bitsF w hi lo (i + 1) = bitsF w hi lo i ++ [bitF hi lo (w - 1 - i)] := by simp [bitsF, List.range_succ]
theorem bitsF_get (w : Nat) (hi lo : UInt64) {i n : Nat} (h : i < n) : (bitsF w hi lo n).getD i 0 = bitF hi lo (w - 1 - i) := by
  rw [List.getD_eq_getElem?_getD, bitsF, List.getElem?_map, List.getElem?_range h]; rfl
theorem refPower1 (n : Nat) (w : World)  (hn : n ≤ 63) :
    Calls Tryd.prog 91 [.int .i64 ((n : Nat) : Int)].toArray w (Pur w (.int .u64 ((powU n).toNat : Int))) := by
  refine enter (m := 14) (R := Mem w [] [] []) Tryd.func91 rfl rfl (Nat.le_of_ble_eq_true rfl) (Mem.start w) ?_
  refine wpc_seq <| wpc_region <| wpl_q (q_pure rfl) rfl <| wpl_nil <| ex_then <| wpc_seq <| wpc_region <| wpl_q (q_pure rfl) rfl <| wpl_nil <| ex_then <| wpc_seq <| wpc_seq ?_
  refine wpc_region <| wpl_q (q_pure rfl) rfl <| wpl_nil <| ex_then <| wpc_block ?_
  refine wpc_loopc (ι := { x : Nat // (x ≤ n) }) [(0, _)] (fun x Lc => (4, .int .i64 ((x.1 : Nat) : Int)) :: (3, .int .u64 ((powU x.1).toNat : Int)) :: Lc) (fun x => Mem w [] [] []) (fun x => n - x.1) ⟨0, (Nat.zero_le _)⟩ zz10 ?_ ?_
  ·
   exact fun w h => h
  ·
   rintro ⟨i, hi0⟩; try dsimp only
   have hi0 : i ≤ n := hi0
   refine wpc_seq <| wpc_seq <| wpc_region <| wpl_q (q_pure rfl) rfl <| wpl_q (q_pure rfl) rfl <| wpl_q (q_pure rfl) rfl <| wpl_nil <| ex_then ?_
   refine wpc_cond rfl (fun hc7 => ?_) (fun hc7 => ?_)
   ·
    simp only [decide_eq_true_eq] at hc7
    refine wpc_skip <| ex_then <| wpc_seq <| wpc_block <| wpc_region <| wpl_q (q_pure rfl) rfl <| wpl_q (q_pure rfl) rfl <| wpl_q (q64_add rfl rfl) rfl ?_
    refine wpl_re 12 rfl (congrArg (fun x : UInt64 => Value.int .u64 (x.toNat : Int)) (powU_succ (n := i) zz13)) ?_
    refine wpl_q (q_pure rfl) rfl <| wpl_nil <| ex_block <| ex_then <| wpc_region <| wpl_q (q_pure rfl) rfl ?_
    refine wpl_q (q_addN (b := 1) rfl rfl zz2) rfl ?_
    refine wpl_q (q_pure rfl) rfl <| wpl_nil ?_
    refine ex_again ⟨i + 1, zz13⟩ ?_ ?_ ?_
    ·
     exact zz10
    ·
     exact fun w h => h
    ·
     (show n - (i + 1) < n - i); omega
   ·
    simp only [decide_eq_false_iff_not] at hc7
    obtain rfl : i = n := by omega
    refine wpc_exit ?_
    refine ex_then_exit ?_
    refine ex_then_exit ?_
    refine ex_block_hit ?_
    refine ex_then <| wpc_seq <| wpc_region <| wpl_q (q_pure rfl) rfl <| wpl_q (q_pure rfl) rfl <| wpl_nil <| ex_then <| wpc_ret ?_
    refine ret1 (.inl rfl) rfl rfl ?_
    exact fun w h => ⟨rfl, h.below⟩
theorem refBits (f : UInt8) (hi lo : UInt64) (w : World)   :
    Calls Tryd.prog 68 [.int .u8 f.toNat, .agg (adL hi lo).toArray].toArray w (GivesP w (fun v => SV v (widF f)) (fun v => v) (fun v => [.row v (widF f) 3 1 (vns (bitsF (widF f) hi lo (widF f)))]) (fun _ => [])) := by
  have hwl := widF_le f
  refine enter (m := 39) (R := Mem w [] [] []) Tryd.func68 rfl rfl (Nat.le_of_ble_eq_true rfl) (Mem.start w) ?_
  refine wpc_seq <| wpc_region ?_
  refine wpl_t (t_box rfl (adL hi lo) rfl) rfl (fun b3 => ?_)
  refine wpl_q (q_pure rfl) rfl <| wpl_nil <| ex_then <| wpc_seq <| wpc_region <| wpl_q (q_pure rfl) rfl <| wpl_nil <| ex_then <| wpc_seq <| wpc_region <| wpl_q (q_pure rfl) rfl ?_
  refine wpl_t (t_pur (v := .int .i64 ((widF f : Nat) : Int)) Tryd.hb66 rfl fun w h => refWidth f w) rfl (fun b11 => ?_)
  refine wpl_q (q_pure rfl) rfl <| wpl_nil <| ex_then <| wpc_seq <| wpc_seq <| wpc_region <| wpl_q (q_pure rfl) rfl <| wpl_nil <| ex_then <| wpc_block ?_
  refine wpc_loopc (ι := { x : Nat × Value // (x.1 ≤ widF f) ∧ (SV x.2 x.1) }) [(3, _), (6, _)] (fun x Lc => (7, .int .i64 ((x.1.1 : Nat) : Int)) :: (5, x.1.2) :: Lc) (fun x => Mem w [] [.row x.1.2 x.1.1 3 1 (vns (bitsF (widF f) hi lo x.1.1)), .blk b3 24 (adL hi lo)] []) (fun x => widF f - x.1.1) ⟨(0, .slice none 0 0), ⟨Nat.zero_le _, SV.nil⟩⟩ zz10 ?_ ?_
  ·
   exact fun w1 h => (show Mem w [] [.row (.slice none 0 0) 0 3 1 [], .blk b3 24 (adL hi lo)] [] w1 from h.nilRow 3 1)
  ·
   rintro ⟨⟨i, bv⟩, ⟨hi0, hi1⟩⟩; try dsimp only
   have hi0 : i ≤ widF f := hi0; have hi1 : SV bv i := hi1
   refine wpc_seq <| wpc_seq <| wpc_region <| wpl_q (q_pure rfl) rfl <| wpl_q (q_pure rfl) rfl <| wpl_q (q_pure rfl) rfl <| wpl_nil <| ex_then ?_
   refine wpc_cond rfl (fun hc14 => ?_) (fun hc14 => ?_)
   ·
    simp only [decide_eq_true_eq] at hc14
    have hiw : i < widF f := by omega
    refine wpc_skip <| ex_then <| wpc_seq <| wpc_block <| wpc_seq <| wpc_region <| wpl_q (q_pure rfl) rfl ?_
    refine wpl_q (q_subN (b := 1) rfl rfl zz13 zz2) rfl ?_
    refine wpl_q (q_pure rfl) rfl ?_
    refine wpl_q (q_subN rfl rfl zz13 zz2) rfl ?_
    refine wpl_q (q_pure rfl) rfl <| wpl_nil <| ex_then <| wpc_seq <| wpc_region <| wpl_q (q_field Tryd.underlying24 rfl Tryd.ti22 rfl rfl _ rfl) rfl ?_
    refine wpl_q (q_ld Tryd.underlying22 rfl rfl zz34) rfl ?_
    refine wpl_q (q_pure rfl) rfl <| wpl_nil <| ex_then <| wpc_seq <| wpc_seq <| wpc_region <| wpl_q (q_pure rfl) rfl <| wpl_q (q_pure rfl) rfl <| wpl_nil <| ex_then ?_
    refine wpc_cond rfl (fun hc24 => ?_) (fun hc24 => ?_)
    ·
     simp only [decide_eq_true_eq] at hc24
     have hbf : bitF hi lo (widF f - 1 - i) = hi.toNat / 2 ^ (widF f - 1 - i - 64) % 2 := by rw [bitF, if_pos zz13]
     refine wpc_seq <| wpc_region <| wpl_q (q_field Tryd.underlying24 rfl Tryd.ti22 rfl rfl _ rfl) rfl ?_
     refine wpl_q (q_ld Tryd.underlying22 rfl rfl zz34) rfl ?_
     refine wpl_q (q_pure rfl) rfl <| wpl_nil <| ex_then <| wpc_region <| wpl_q (q_pure rfl) rfl ?_
     refine wpl_q (q_subN (b := 64) rfl rfl zz13 zz2) rfl ?_
     refine wpl_q (q_pure rfl) rfl <| wpl_nil <| ex_then <| wpc_region <| wpl_q (q_pure rfl) rfl <| wpl_q (q_pure rfl) rfl <| wpl_q (q_pure rfl) rfl ?_
     refine wpl_t (t_pur Tryd.hb91 rfl fun w h => refPower1 _ w zz13) rfl (fun b32 => ?_)
     refine wpl_q (q64_quo rfl rfl (powU_ne zz13)) rfl ?_
     refine wpl_q (q64_rem (b := (2 : UInt64)) rfl rfl zz17) rfl ?_
     refine wpl_q (q64_intN Tryd.underlying22 Tryd.underlying3 rfl (by rw [bit_u _ zz13]; omega)) rfl ?_
     refine wpl_re 35 rfl (congrArg (fun n : Nat => Value.int .i64 (n : Int)) (show _ = bitF hi lo (widF f - 1 - i) by rw [hbf]; exact bit_u _ zz13)) ?_
     refine wpl_tp (t_bsV (vns [_]) Tryd.underlying124 Tryd.ti3 rfl rfl zz17 zz17 rfl (vns_one _)) rfl (fun b36 p36 => ?_)
     refine wpl_tp (t_apW Tryd.underlying124 Tryd.ti3 rfl zz17 rfl rfl (fun w h => zz9) (vns_one _) zz2 zz2 (vns (bitsF (widF f) hi lo (i + 1))) (by rw [bitsF_succ]; exact (vns_append _ _).symm)) rfl (fun b37 p37 => ?_)
     refine wpl_q (q_pure rfl) rfl <| wpl_nil <| ex_block <| ex_then <| wpc_region <| wpl_q (q_pure rfl) rfl ?_
     refine wpl_q (q_addN (b := 1) rfl rfl zz2) rfl ?_
     refine wpl_q (q_pure rfl) rfl <| wpl_nil ?_
     refine ex_again ⟨(i + 1, b37), ⟨by dsimp only; omega, p37⟩⟩ ?_ ?_ ?_
     ·
      exact zz10
     ·
      exact fun w h => by
        dsimp only
        exact h.sel
     ·
      (show widF f - (i + 1) < widF f - i); omega
    ·
     simp only [decide_eq_false_iff_not] at hc24
     have hbf : bitF hi lo (widF f - 1 - i) = lo.toNat / 2 ^ (widF f - 1 - i) % 2 := by rw [bitF, if_neg zz13]
     refine wpc_skip <| ex_then <| wpc_region <| wpl_q (q_pure rfl) rfl <| wpl_q (q_pure rfl) rfl <| wpl_q (q_pure rfl) rfl ?_
     refine wpl_t (t_pur Tryd.hb91 rfl fun w h => refPower1 _ w zz13) rfl (fun b32 => ?_)
     refine wpl_q (q64_quo rfl rfl (powU_ne zz13)) rfl ?_
     refine wpl_q (q64_rem (b := (2 : UInt64)) rfl rfl zz17) rfl ?_
     refine wpl_q (q64_intN Tryd.underlying22 Tryd.underlying3 rfl (by rw [bit_u _ zz13]; omega)) rfl ?_
     refine wpl_re 35 rfl (congrArg (fun n : Nat => Value.int .i64 (n : Int)) (show _ = bitF hi lo (widF f - 1 - i) by rw [hbf]; exact bit_u _ zz13)) ?_
     refine wpl_tp (t_bsV (vns [_]) Tryd.underlying124 Tryd.ti3 rfl rfl zz17 zz17 rfl (vns_one _)) rfl (fun b36 p36 => ?_)
     refine wpl_tp (t_apW Tryd.underlying124 Tryd.ti3 rfl zz17 rfl rfl (fun w h => zz9) (vns_one _) zz2 zz2 (vns (bitsF (widF f) hi lo (i + 1))) (by rw [bitsF_succ]; exact (vns_append _ _).symm)) rfl (fun b37 p37 => ?_)
     refine wpl_q (q_pure rfl) rfl <| wpl_nil <| ex_block <| ex_then <| wpc_region <| wpl_q (q_pure rfl) rfl ?_
     refine wpl_q (q_addN (b := 1) rfl rfl zz2) rfl ?_
     refine wpl_q (q_pure rfl) rfl <| wpl_nil ?_
     refine ex_again ⟨(i + 1, b37), ⟨by dsimp only; omega, p37⟩⟩ ?_ ?_ ?_
     ·
      exact zz10
     ·
      exact fun w h => by
        dsimp only
        exact h.sel
     ·
      (show widF f - (i + 1) < widF f - i); omega
   ·
    simp only [decide_eq_false_iff_not] at hc14
    obtain rfl : i = widF f := by omega
    refine wpc_exit ?_
    refine ex_then_exit ?_
    refine ex_then_exit ?_
    refine ex_block_hit ?_
    refine ex_then <| wpc_seq <| wpc_region <| wpl_q (q_pure rfl) rfl <| wpl_q (q_pure rfl) rfl <| wpl_nil <| ex_then <| wpc_ret ?_
    refine ret1 (.inl rfl) rfl rfl ?_
    exact fun w h => ⟨bv, hi1, rfl, h.below, h.made (.keep .nil) .nil⟩
theorem refCheck1 (f : UInt8) (hi lo : UInt64) (ln : Int) (w : World)   :
    Calls Tryd.prog 44 [.agg (pfL f hi lo ln).toArray].toArray w (Pur w (.int .i64 (pfxF f hi lo ln))) := by
  have hwl := widF_le f
  refine enter (m := 45) (R := Mem w [] [] []) Tryd.func44 rfl rfl (Nat.le_of_ble_eq_true rfl) (Mem.start w) ?_
  refine wpc_seq <| wpc_region ?_
  refine wpl_t (t_box rfl (pfL f hi lo ln) rfl) rfl (fun b1 => ?_)
  refine wpl_q (q_pure rfl) rfl <| wpl_nil <| ex_then <| wpc_seq <| wpc_region <| wpl_q (q_field Tryd.underlying26 rfl Tryd.ti5 rfl rfl _ rfl) rfl ?_
  refine wpl_q (q_ld Tryd.underlying5 rfl rfl zz39) rfl ?_
  refine wpl_t (t_pur (v := .int .i64 ((widF f : Nat) : Int)) Tryd.hb66 rfl fun w h => refWidth f w) rfl (fun b8 => ?_)
  refine wpl_q (q_pure rfl) rfl <| wpl_nil <| ex_then <| wpc_seq <| wpc_seq <| wpc_region <| wpl_q (q_pure rfl) rfl <| wpl_q (q_pure rfl) rfl <| wpl_nil <| ex_then ?_
  refine wpc_cond rfl (fun hc10 => ?_) (fun hc10 => ?_)
  ·
   have hw0 : widF f = 0 := by simpa using hc10
   have hR : pfxF f hi lo ln = 2 := by rw [pfxF, if_pos hw0]
   refine wpc_seq <| wpc_region <| wpl_q (q_pure rfl) rfl <| wpl_nil <| ex_then <| wpc_ret ?_
   refine ex_then_ret ?_
   refine ret1 (.inl rfl) rfl rfl ?_
   exact fun w h => ⟨by rw [hR], h.below⟩
  ·
   have hw0 : ¬ widF f = 0 := by simpa using hc10
   refine wpc_skip <| ex_then <| wpc_seq <| wpc_seq <| wpc_region <| wpl_q (q_field Tryd.underlying26 rfl Tryd.ti5 rfl rfl _ rfl) rfl ?_
   refine wpl_q (q_ld Tryd.underlying5 rfl rfl zz39) rfl ?_
   refine wpl_q (q_field Tryd.underlying26 rfl Tryd.ti24 rfl rfl _ rfl) rfl ?_
   refine wpl_q (q_ldP Tryd.underlying24 rfl Tryd.ti24 rfl (adL hi lo) rfl zz0) rfl ?_
   refine wpl_t (t_pur Tryd.hb67 rfl fun w h => refCheckAddr f hi lo w) rfl (fun b15 => ?_)
   refine wpl_q (q_pure rfl) rfl <| wpl_q (q_pure rfl) rfl ?_
   refine wpl_bool2 17 16 rfl rfl (fun hb17 => ?_) (fun hb17 => ?_)
   ·
    have hca : caF f hi lo = false := by simpa using hb17
    have hR : pfxF f hi lo ln = 8 := by rw [pfxF, if_neg hw0, if_pos (.inl hca)]
    refine wpl_off rfl rfl rfl rfl <| wpl_off rfl rfl rfl rfl <| wpl_off rfl rfl rfl rfl <| wpl_q (q_pure rfl) rfl <| wpl_q (q_pure rfl) rfl <| wpl_off rfl rfl rfl rfl <| wpl_off rfl rfl rfl rfl <| wpl_off rfl rfl rfl rfl <| wpl_off rfl rfl rfl rfl <| wpl_q (q_pure rfl) rfl <| wpl_nil <| ex_then ?_
    refine wpc_cond_t rfl ?_
    refine wpc_seq <| wpc_region <| wpl_q (q_pure rfl) rfl <| wpl_nil <| ex_then <| wpc_ret ?_
    refine ex_then_ret ?_
    refine ret1 (.inl rfl) rfl rfl ?_
    exact fun w h => ⟨by rw [hR], h.below⟩
   ·
    have hca : caF f hi lo = true := by simpa using hb17
    refine wpl_on rfl rfl <| wpl_q (q_field Tryd.underlying26 rfl Tryd.ti3 rfl rfl _ rfl) rfl <| wpl_on rfl rfl ?_
    refine wpl_q (q_ld Tryd.underlying3 rfl rfl zz32) rfl ?_
    refine wpl_on rfl rfl <| wpl_q (q_pure rfl) rfl <| wpl_q (q_pure rfl) rfl <| wpl_q (q_pure rfl) rfl ?_
    refine wpl_bool2 22 20 rfl rfl (fun hb22 => ?_) (fun hb22 => ?_)
    ·
     try simp only [decide_eq_true_eq] at hb22
     have hR : pfxF f hi lo ln = 8 := by rw [pfxF, if_neg hw0, if_pos (.inr (.inl hb22))]
     refine wpl_off rfl rfl rfl rfl <| wpl_off rfl rfl rfl rfl <| wpl_off rfl rfl rfl rfl <| wpl_off rfl rfl rfl rfl <| wpl_q (q_pure rfl) rfl <| wpl_nil <| ex_then ?_
     refine wpc_cond_t rfl ?_
     refine wpc_seq <| wpc_region <| wpl_q (q_pure rfl) rfl <| wpl_nil <| ex_then <| wpc_ret ?_
     refine ex_then_ret ?_
     refine ret1 (.inl rfl) rfl rfl ?_
     exact fun w h => ⟨by rw [hR], h.below⟩
    ·
     try simp only [decide_eq_false_iff_not] at hb22
     refine wpl_on rfl rfl <| wpl_q (q_field Tryd.underlying26 rfl Tryd.ti3 rfl rfl _ rfl) rfl <| wpl_on rfl rfl ?_
     refine wpl_q (q_ld Tryd.underlying3 rfl rfl zz32) rfl ?_
     refine wpl_on rfl rfl <| wpl_q (q_pure rfl) rfl <| wpl_on rfl rfl <| wpl_q (q_pure rfl) rfl <| wpl_q (q_pure rfl) rfl <| wpl_nil <| ex_then ?_
     refine wpc_cond rfl (fun hc27 => ?_) (fun hc27 => ?_)
     ·
      simp only [decide_eq_true_eq] at hc27
      have hR : pfxF f hi lo ln = 8 := by rw [pfxF, if_neg hw0, if_pos (.inr (.inr zz13))]
      refine wpc_seq <| wpc_region <| wpl_q (q_pure rfl) rfl <| wpl_nil <| ex_then <| wpc_ret ?_
      refine ex_then_ret ?_
      refine ret1 (.inl rfl) rfl rfl ?_
      exact fun w h => ⟨by rw [hR], h.below⟩
     ·
      simp only [decide_eq_false_iff_not] at hc27
      obtain ⟨k, rfl⟩ : ∃ k : Nat, ln = (k : Int) := ⟨ln.toNat, zz13⟩
      have hB : ¬ (caF f hi lo = false ∨ (k : Int) < 0 ∨ ((widF f : Nat) : Int) < (k : Int)) := by rintro (h | h | h); rw [hca] at h; cases h; exact hb22 h; omega
      refine wpc_skip <| ex_then <| wpc_seq <| wpc_region <| wpl_q (q_field Tryd.underlying26 rfl Tryd.ti5 rfl rfl _ rfl) rfl ?_
      refine wpl_q (q_ld Tryd.underlying5 rfl rfl zz39) rfl ?_
      refine wpl_q (q_field Tryd.underlying26 rfl Tryd.ti24 rfl rfl _ rfl) rfl ?_
      refine wpl_q (q_ldP Tryd.underlying24 rfl Tryd.ti24 rfl (adL hi lo) rfl zz0) rfl ?_
      refine wpl_tp (t_callP1 Tryd.hb68 rfl fun w h => refBits f hi lo w) rfl (fun b32 p32 => ?_)
      refine wpl_q (q_pure rfl) rfl <| wpl_nil <| ex_then <| wpc_seq <| wpc_seq <| wpc_region <| wpl_q (q_field Tryd.underlying26 rfl Tryd.ti3 rfl rfl _ rfl) rfl ?_
      refine wpl_q (q_ld Tryd.underlying3 rfl rfl zz32) rfl ?_
      refine wpl_q (q_pure rfl) rfl <| wpl_nil <| ex_then <| wpc_block ?_
      refine wpc_loopc (ι := { x : Nat // (k ≤ x) ∧ (x ≤ widF f) ∧ (∀ j, k ≤ j → j < x → bitF hi lo (widF f - 1 - j) = 0) }) [(3, _), (4, _)] (fun x Lc => (5, .int .i64 ((x.1 : Nat) : Int)) :: Lc) (fun x => Mem w [] [.row b32 (widF f) 3 1 (vns (bitsF (widF f) hi lo (widF f))), .blk b1 26 (pfL f hi lo (k : Int))] []) (fun x => widF f - x.1) ⟨k, ⟨Nat.le_refl _, zz13, fun j h1 h2 => zz13⟩⟩ zz10 ?_ ?_
      ·
       exact fun w h => h
      ·
       rintro ⟨i, ⟨hi0, hi1, hi2⟩⟩; try dsimp only
       have hi0 : k ≤ i := hi0; have hi1 : i ≤ widF f := hi1; have hi2 : ∀ j, k ≤ j → j < i → bitF hi lo (widF f - 1 - j) = 0 := hi2
       refine wpc_seq <| wpc_seq <| wpc_region <| wpl_q (q_pure rfl) rfl <| wpl_q (q_pure rfl) rfl <| wpl_q (q_pure rfl) rfl <| wpl_nil <| ex_then ?_
       refine wpc_cond rfl (fun hc37 => ?_) (fun hc37 => ?_)
       ·
        simp only [decide_eq_true_eq] at hc37
        have hiw : i < widF f := by omega
        refine wpc_skip <| ex_then <| wpc_seq <| wpc_block <| wpc_seq <| wpc_region <| wpl_q (q_pure rfl) rfl <| wpl_q (q_pure rfl) rfl ?_
        refine wpl_q (q_idxW1 Tryd.underlying124 Tryd.ti3 rfl rfl zz4 zz2) rfl ?_
        refine wpl_q (q_ldW Tryd.underlying3 rfl rfl (fun w h => zz9) (vns_get (by rw [bitsF_len]; exact hiw))) rfl ?_
        refine wpl_q (q_pure rfl) rfl <| wpl_nil <| ex_then ?_
        refine wpc_cond rfl (fun hc44 => ?_) (fun hc44 => ?_)
        ·
         have hnz : ¬ bitF hi lo (widF f - 1 - i) = 0 := by rw [← bitsF_get (widF f) hi lo hiw]; intro e; rw [e] at hc44; simp at hc44
         have hR : pfxF f hi lo (k : Int) = 8 := by rw [pfxF, if_neg hw0, if_neg hB, if_neg (fun h => hnz (h _ (by rw [Int.toNat_natCast]; omega)))]
         refine wpc_seq <| wpc_region <| wpl_q (q_pure rfl) rfl <| wpl_nil <| ex_then <| wpc_ret ?_
         refine ex_block_ret ?_
         refine ex_then_ret ?_
         refine ex_then_ret ?_
         refine ex_block_ret ?_
         refine ex_then_ret ?_
         refine ret1 (.inl rfl) rfl rfl ?_
         exact fun w h => ⟨by rw [hR], h.below⟩
        ·
         have hz : bitF hi lo (widF f - 1 - i) = 0 := by rw [← bitsF_get (widF f) hi lo hiw]; simpa using hc44
         refine wpc_skip <| ex_block <| ex_then <| wpc_region <| wpl_q (q_pure rfl) rfl ?_
         refine wpl_q (q_addN (b := 1) rfl rfl zz2) rfl ?_
         refine wpl_q (q_pure rfl) rfl <| wpl_nil ?_
         refine ex_again ⟨i + 1, ⟨zz13, zz13, fun j h1 h2 => by rcases Nat.lt_or_ge j i with h | h; exact hi2 j h1 h; obtain rfl : j = i := zz13; exact hz⟩⟩ ?_ ?_ ?_
         ·
          exact zz10
         ·
          exact fun w h => h
         ·
          (show widF f - (i + 1) < widF f - i); omega
       ·
        simp only [decide_eq_false_iff_not] at hc37
        have hR : pfxF f hi lo (k : Int) = 0 := by
          rw [pfxF, if_neg hw0, if_neg hB, if_pos]
          rw [Int.toNat_natCast]
          intro j hj
          have q := hi2 (widF f - 1 - j) zz13 zz13
          rwa [show widF f - 1 - (widF f - 1 - j) = j from zz13] at q
        refine wpc_exit ?_
        refine ex_then_exit ?_
        refine ex_then_exit ?_
        refine ex_block_hit ?_
        refine ex_then <| wpc_seq <| wpc_region <| wpl_q (q_pure rfl) rfl <| wpl_nil <| ex_then <| wpc_ret ?_
        refine ret1 (.inl rfl) rfl rfl ?_
        exact fun w h => ⟨by rw [hR], h.below⟩
end Go.Proofs.YtjpfhkjmjnjggaaDoor
namespace Go.Proofs.YtjpfhkjmjnjggaaDoor
open Go Go.PL Go.RowKit
abbrev S16 := { l : List UInt8 // l.length = 16 }
structure Hop where
  sy : UInt32
  cnt : UInt8
  fl : UInt8
  to : UInt32
  root : S16
  ht : Int
  ix : Int
  cv : Value
  chs : List (List UInt8)
  pv : Value
  ps : List (List UInt8)
def Hop.z : Hop := ⟨0, 0, 0, 0, ⟨List.replicate 16 0, rfl⟩, 0, 0, .slice none 0 0, [], .slice none 0 0, []⟩
def Hop.key (h : Hop) : List Value := v8s h.root.1 ++ [.int .i64 h.ht]
def Hop.sig (h : Hop) : List Value := [.int .i64 h.ix, h.cv, h.pv]
def Hop.c (h : Hop) : List Value := .int .u32 (h.sy.toNat : Int) :: .int .u8 (h.cnt.toNat : Int) :: .int .u8 (h.fl.toNat : Int) :: .int .u32 (h.to.toNat : Int) :: (v8s h.root.1 ++ [.int .i64 h.ht, .int .i64 h.ix, h.cv, h.pv])
theorem S16.len (r : S16) : (v8s r.1).length = 16 := by rw [v8s_length, r.2]
theorem Hop.c_length (h : Hop) : h.c.length = 24 := by simp [Hop.c, v8s_length, h.root.2]
instance lenC_hop {h : Hop} : LenC h.c 24 := ⟨h.c_length⟩
theorem Hop.c_sy (h : Hop) : h.c[0]? = some (.int .u32 (h.sy.toNat : Int)) := rfl
theorem Hop.c_cnt (h : Hop) : h.c[1]? = some (.int .u8 (h.cnt.toNat : Int)) := rfl
theorem Hop.c_fl (h : Hop) : h.c[2]? = some (.int .u8 (h.fl.toNat : Int)) := rfl
theorem Hop.c_to (h : Hop) : h.c[3]? = some (.int .u32 (h.to.toNat : Int)) := rfl
theorem Hop.c_at (h : Hop) (j : Nat) : h.c[20 + j]? = ([.int .i64 h.ht, .int .i64 h.ix, h.cv, h.pv] : List Value)[j]? := by
  have e : 20 + j = (v8s h.root.1).length + j + 4 := by rw [S16.len]; omega
  rw [e]
  show (v8s h.root.1 ++ [.int .i64 h.ht, .int .i64 h.ix, h.cv, h.pv])[(v8s h.root.1).length + j]? = _
  rw [List.getElem?_append_right zz13]
  congr 1
  omega
theorem Hop.c_ht (h : Hop) : h.c[20]? = some (.int .i64 h.ht) := h.c_at 0
theorem Hop.c_ix (h : Hop) : h.c[21]? = some (.int .i64 h.ix) := h.c_at 1
theorem Hop.c_cv (h : Hop) : h.c[22]? = some h.cv := h.c_at 2
theorem Hop.c_pv (h : Hop) : h.c[23]? = some h.pv := h.c_at 3
theorem Hop.c_drop4 (h : Hop) : h.c.drop 4 = v8s h.root.1 ++ [.int .i64 h.ht, .int .i64 h.ix, h.cv, h.pv] := rfl
theorem Hop.c_root (h : Hop) : (h.c.drop 4).take 16 = v8s h.root.1 := by rw [h.c_drop4, List.take_left' (S16.len _)]
theorem Hop.c_key (h : Hop) : (h.c.drop 4).take 17 = h.key := by
  rw [h.c_drop4, List.take_append, S16.len, List.take_of_length_le (by rw [S16.len]; decide)]; rfl
theorem Hop.c_sig (h : Hop) : (h.c.drop 21).take 3 = h.sig := by
  have e : h.c.drop 21 = (h.c.drop 4).drop 17 := by rw [List.drop_drop]
  rw [e, h.c_drop4, show 17 = (v8s h.root.1).length + 1 by rw [S16.len], ← List.drop_drop, List.drop_left]; rfl
theorem Hop.key_length (h : Hop) : h.key.length = 17 := by rw [Hop.key, List.length_append, S16.len]; rfl
def Hop.sv (h : Hop) : Prop := SV h.cv h.chs.length ∧ SV h.pv h.ps.length
theorem Hop.sv.one {h : Hop} (hs : h.sv) : OneC h.c := ⟨by
  intro u hu
  simp only [Hop.c, List.mem_cons, List.mem_append, List.not_mem_nil, or_false] at hu
  rcases hu with rfl | rfl | rfl | rfl | hu | rfl | rfl | rfl | rfl
  · rfl
  · rfl
  · rfl
  · rfl
  · exact v8s_one _ u hu
  · rfl
  · rfl
  · exact hs.1.one
  · exact hs.2.one⟩
def Hop.seen (r : Rd) (h : Hop) : Prop := Seen r h.cv h.chs.length 16 (v8s h.chs.flatten) ∧ (∀ x ∈ h.chs, x.length = 16) ∧ Seen r h.pv h.ps.length 16 (v8s h.ps.flatten) ∧ ∀ x ∈ h.ps, x.length = 16
theorem Hop.seen.sv {r : Rd} {h : Hop} (hs : h.seen r) : h.sv := ⟨hs.1.sv, hs.2.2.1.sv⟩
theorem Hop.seen.mono {r r' : Rd} (hr : ∀ a v, r a = some v → r' a = some v) {h : Hop} (hs : h.seen r) : h.seen r' := ⟨hs.1.mono hr, hs.2.1, hs.2.2.1.mono hr, hs.2.2.2⟩
abbrev hcs (l : List Hop) : List Value := (l.map Hop.c).flatten
theorem getD_memO {l : List Hop} {i : Nat} (h : i < l.length) : l.getD i Hop.z ∈ l := by
  rw [List.getD_eq_getElem?_getD, List.getElem?_eq_getElem h]; exact List.getElem_mem h
structure Pth where
  pf : UInt8
  pa : UInt64
  pb : UInt64
  pl : Int
  hv : Value
  hs : List Hop
def Pth.c (p : Pth) : List Value := [.int .u8 (p.pf.toNat : Int), .int .u64 (p.pa.toNat : Int), .int .u64 (p.pb.toNat : Int), .int .i64 p.pl, p.hv]
def Pth.z : Pth := ⟨0, 0, 0, 0, .slice none 0 0, []⟩
def Pth.sv (p : Pth) : Prop := SV p.hv p.hs.length
theorem Pth.sv.one {p : Pth} (h : p.sv) : OneC p.c := OneC.cons rfl (OneC.cons rfl (OneC.cons rfl (OneC.cons rfl (OneC.cons (SV.one h) oneC_nil))))
instance oneC_pthz : OneC Pth.z.c := Pth.sv.one SV.nil
def Pth.seen (r : Rd) (p : Pth) : Prop := Seen r p.hv p.hs.length 24 (hcs p.hs) ∧ ∀ h ∈ p.hs, h.seen r
theorem Pth.seen.mono {r r' : Rd} (hr : ∀ a v, r a = some v → r' a = some v) {p : Pth} (hs : p.seen r) : p.seen r' := ⟨hs.1.mono hr, fun h hh => (hs.2 h hh).mono hr⟩
theorem Pth.seen.old {w0 w : World} {M : List Ent} {S : List Fact} {p : Pth} (hs : p.seen w0.cell?) (h : Mem w0 [] M S w) : p.seen w.cell? := hs.mono fun _ _ hc => h.cell_old hc
theorem Hop.seen.old {w0 w : World} {M : List Ent} {S : List Fact} {p : Hop} (hs : p.seen w0.cell?) (h : Mem w0 [] M S w) : p.seen w.cell? := hs.mono fun _ _ hc => h.cell_old hc
def badH (hs : List Hop) (i : Nat) : Prop := 1 < (hs.getD i Hop.z).fl.toNat ∨ checkF (hs.getD i Hop.z).ht (hs.getD i Hop.z).ix (hs.getD i Hop.z).chs.length (hs.getD i Hop.z).ps.length ≠ 0 ∨ (0 < i ∧ (hs.getD i Hop.z).sy ≠ (hs.getD (i - 1) Hop.z).to)
instance {hs : List Hop} {i : Nat} : Decidable (badH hs i) := by unfold badH; exact inferInstance
def chkP (p : Pth) : Int := if 30 < p.hs.length then 4 else if pfxF p.pf p.pa p.pb p.pl ≠ 0 then pfxF p.pf p.pa p.pb p.pl else if p.hs.length = 0 ∨ ¬ (∀ i, i < p.hs.length → ¬ badH p.hs i) then 8 else 0
end Go.Proofs.YtjpfhkjmjnjggaaDoor
namespace Go.Proofs.YtjpfhkjmjnjggaaDoor
open Go Go.PL Go.RowKit
section
variable {H : Type} {enc : TypeId × Value → H} {w : World} {base : Nat} {sp : Nat → Bool} {held : Bool}
theorem opensAddr : Opens enc Tryd.prog w base sp held 24 (fun (a : UInt64 × UInt64) c _ => c = adL a.1 a.2) := by
  intro n c y h
  obtain ⟨⟨a, b, _⟩, x0, y0, d0, e0, h0, x1, y1, d1, e1, h1, h2⟩ := opens_struct Tryd.underlying24 (fin := 2) zz5 (OpensFs.cons (s := 1) rfl zz5 (opens_u64 Tryd.underlying22) (OpensFs.cons (s := 1) rfl zz5 (opens_u64 Tryd.underlying22) (OpensFs.nil _))) n c y h
  dsimp only at h0 h1 h2
  refine ⟨(a, b), ?_⟩
  rw [e0, e1, h0, h1, h2]; rfl
theorem opensPfx : Opens enc Tryd.prog w base sp held 26 (fun (a : UInt8 × UInt64 × UInt64 × Int) c _ => c = pfL a.1 a.2.1 a.2.2.1 a.2.2.2) := by
  intro n c y h
  obtain ⟨⟨f, ⟨a, b⟩, l, _⟩, x0, y0, d0, e0, h0, x1, y1, d1, e1, h1, x2, y2, d2, e2, h2, h3⟩ := opens_struct Tryd.underlying26 (fin := 4) zz5 (OpensFs.cons (s := 1) rfl zz5 (opens_u8 Tryd.underlying5) (OpensFs.cons (s := 2) rfl zz5 opensAddr (OpensFs.cons (s := 1) rfl zz5 (opens_i64 Tryd.underlying3) (OpensFs.nil _)))) n c y h
  dsimp only at h0 h1 h2 h3
  refine ⟨(f, a, b, l), ?_⟩
  rw [e0, e1, e2, h0, h1, h2.1, h3]; rfl
theorem opensKey : Opens enc Tryd.prog w base sp held 63 (fun (a : S16 × Int) c _ => c = v8s a.1.1 ++ [.int .i64 a.2]) := by
  intro n c y h
  obtain ⟨⟨r, t, _⟩, x0, y0, d0, e0, h0, x1, y1, d1, e1, h1, h2⟩ := opens_struct Tryd.underlying63 (fin := 17) zz5 (OpensFs.cons (s := 16) rfl zz5 (opens_arr Tryd.underlying61 zz5 zz5 (opens_u8 Tryd.underlying5)) (OpensFs.cons (s := 1) rfl zz5 (opens_i64 Tryd.underlying3) (OpensFs.nil _))) n c y h
  dsimp only at h0 h1 h2
  have e : c = v8s r ++ [.int .i64 t] := by rw [e0, e1, h0.1, h1.1, h2]; rfl
  exact ⟨(⟨r, h0.2⟩, t), e⟩
abbrev VL := Value × List (List UInt8)
theorem opensSig : Opens enc Tryd.prog w base sp held 66 (fun (a : Int × VL × VL) c _ => c = [.int .i64 a.1, a.2.1.1, a.2.2.1] ∧ (Seen w.cell? a.2.1.1 a.2.1.2.length 16 (v8s a.2.1.2.flatten) ∧ ∀ x ∈ a.2.1.2, x.length = 16) ∧ Seen w.cell? a.2.2.1 a.2.2.2.length 16 (v8s a.2.2.2.flatten) ∧ ∀ x ∈ a.2.2.2, x.length = 16) := by
  intro n c y h
  obtain ⟨⟨i, p, q, _⟩, x0, y0, d0, e0, h0, x1, y1, d1, e1, h1, x2, y2, d2, e2, h2, h3⟩ := opens_struct Tryd.underlying66 (fin := 3) zz5 (OpensFs.cons (s := 1) rfl zz5 (opens_i64 Tryd.underlying3) (OpensFs.cons (s := 1) rfl zz5 (opens_arrs Tryd.underlying64 Tryd.underlying61 Tryd.underlying5 zz5 zz5) (OpensFs.cons (s := 1) rfl zz5 (opens_arrs Tryd.underlying64 Tryd.underlying61 Tryd.underlying5 zz5 zz5) (OpensFs.nil _)))) n c y h
  dsimp only at h0 h1 h2 h3
  refine ⟨(i, p, q), ?_, ⟨h1.2.1, h1.2.2⟩, h2.2.1, h2.2.2⟩
  rw [e0, e1, e2, h0.1, h1.1, h2.1, h3]; rfl
theorem opensHop : Opens enc Tryd.prog w base sp held 68 (fun (a : Hop) c _ => c = a.c ∧ a.seen w.cell?) := by
  intro n c y h
  obtain ⟨⟨sy, cnt, fl, to, ⟨r, t⟩, ⟨i, p, q⟩, _⟩, x0, y0, d0, e0, h0, x1, y1, d1, e1, h1, x2, y2, d2, e2, h2, x3, y3, d3, e3, h3, x4, y4, d4, e4, h4, x5, y5, d5, e5, h5, h6⟩ := opens_struct Tryd.underlying68 (fin := 24) zz5 (OpensFs.cons (s := 1) rfl zz5 (opens_u32 Tryd.underlying49) (OpensFs.cons (s := 1) rfl zz5 (opens_u8 Tryd.underlying5) (OpensFs.cons (s := 1) rfl zz5 (opens_u8 Tryd.underlying5) (OpensFs.cons (s := 1) rfl zz5 (opens_u32 Tryd.underlying49) (OpensFs.cons (s := 17) rfl zz5 opensKey (OpensFs.cons (s := 3) rfl zz5 opensSig (OpensFs.nil _))))))) n c y h
  dsimp only at h0 h1 h2 h3 h4 h5 h6
  refine ⟨⟨sy, cnt, fl, to, r, t, i, p.1, p.2, q.1, q.2⟩, ?_, h5.2.1.1, h5.2.1.2, h5.2.2.1, h5.2.2.2⟩
  rw [e0, e1, e2, e3, e4, e5, h0, h1, h2, h3, h4, h5.1, h6]
  simp [Hop.c]
theorem opensHops : Opens enc Tryd.prog w base sp held 27 (fun (p : Value × List Hop) c _ => c = [p.1] ∧ Seen w.cell? p.1 p.2.length 24 (hcs p.2) ∧ ∀ h ∈ p.2, h.seen w.cell?) := by
  intro n cs y h
  obtain ⟨⟨v, qs⟩, h1, h2, h3, _⟩ := opens_slice Tryd.underlying27 (sz := 24) zz5 opensHop n cs y h
  refine ⟨(v, qs.map (·.1)), h1, ?_, fun h hh => ?_⟩
  · have e : (qs.map (·.2.1)).flatten = hcs (qs.map (·.1)) := by
      rw [hcs, List.map_map]
      congr 1
      exact List.map_congr_left fun q hq => (h3 q hq).1.1
    dsimp only at h2 ⊢
    rw [List.length_map, ← e]; exact h2
  · obtain ⟨q, hq, rfl⟩ := List.mem_map.1 hh
    exact (h3 q hq).1.2
theorem opensPth : Opens enc Tryd.prog w base sp held 29 (fun (a : Pth) c _ => c = a.c ∧ a.seen w.cell?) := by
  intro n c y h
  obtain ⟨⟨⟨f, a, b, l⟩, ⟨v, hs⟩, _⟩, x0, y0, d0, e0, h0, x1, y1, d1, e1, h1, h2⟩ := opens_struct Tryd.underlying29 (fin := 5) zz5 (OpensFs.cons (s := 4) rfl zz5 opensPfx (OpensFs.cons (s := 1) rfl zz5 opensHops (OpensFs.nil _))) n c y h
  dsimp only at h0 h1 h2
  refine ⟨⟨f, a, b, l, v, hs⟩, ?_, h1.2.1, h1.2.2⟩
  rw [e0, e1, h0, h1.1, h2]; rfl
end
end Go.Proofs.YtjpfhkjmjnjggaaDoor
namespace Go.Proofs.YtjpfhkjmjnjggaaDoor
open Go Go.PL Go.RowKit
theorem chk_many {p : Pth} (h : 30 < p.hs.length) : chkP p = 4 := if_pos h
theorem chk_pfx {p : Pth} (h : ¬ 30 < p.hs.length) (h2 : pfxF p.pf p.pa p.pb p.pl ≠ 0) : chkP p = pfxF p.pf p.pa p.pb p.pl := (if_neg h).trans (if_pos h2)
theorem chk_none {p : Pth} (h : ¬ 30 < p.hs.length) (h2 : ¬ pfxF p.pf p.pa p.pb p.pl ≠ 0) (h3 : p.hs.length = 0) : chkP p = 8 := (if_neg h).trans ((if_neg h2).trans (if_pos (.inl h3)))
theorem chk_bad {p : Pth} (h : ¬ 30 < p.hs.length) (h2 : ¬ pfxF p.pf p.pa p.pb p.pl ≠ 0) {i : Nat} (hi : i < p.hs.length) (h3 : badH p.hs i) : chkP p = 8 := (if_neg h).trans ((if_neg h2).trans (if_pos (.inr fun hh => hh i hi h3)))
theorem chk_ok {p : Pth} (h : ¬ 30 < p.hs.length) (h2 : ¬ pfxF p.pf p.pa p.pb p.pl ≠ 0) (h0 : ¬ p.hs.length = 0) (h3 : ∀ i, i < p.hs.length → ¬ badH p.hs i) : chkP p = 0 := (if_neg h).trans ((if_neg h2).trans (if_neg (by rintro (h | h); exact h0 h; exact h h3)))
theorem chk_inv {p : Pth} (h : chkP p = 0) : p.hs.length ≤ 30 ∧ pfxF p.pf p.pa p.pb p.pl = 0 ∧ p.hs.length ≠ 0 ∧ ∀ i, i < p.hs.length → ¬ badH p.hs i := by
  unfold chkP at h
  split at h
  · cases h
  · split at h
    · exact absurd h ‹_›
    · split at h
      · cases h
      · rename_i h1 h2 h3
        rw [not_or, Decidable.not_not] at h3
        exact ⟨zz13, Decidable.not_not.1 h2, h3.1, h3.2⟩
theorem hopCheck (p : Pth) (w : World) (hp : p.seen w.cell?)  :
    Calls Tryd.prog 17 [.agg p.c.toArray].toArray w (Pur w (.int .i64 (chkP p))) := by
  obtain ⟨pf, pa, pb, pl, hv, hs⟩ := p
  have hh : Seen w.cell? hv hs.length 24 (hcs hs) := hp.1
  have hq : ∀ h ∈ hs, h.seen w.cell? := hp.2
  have svh := hh.sv
  have lh := svh.le
  simp only [maxLen] at lh
  refine enter (m := 57) (R := Mem w [] [] []) Tryd.func17 rfl rfl (Nat.le_of_ble_eq_true rfl) (Mem.start w) ?_
  refine wpc_seq <| wpc_region ?_
  refine wpl_t (t_box rfl [.int .u8 (pf.toNat : Int), .int .u64 (pa.toNat : Int), .int .u64 (pb.toNat : Int), .int .i64 pl, hv] rfl) rfl (fun b1 => ?_)
  refine wpl_q (q_pure rfl) rfl <| wpl_nil <| ex_then <| wpc_seq <| wpc_seq <| wpc_region <| wpl_q (q_field Tryd.underlying29 rfl Tryd.ti27 rfl rfl _ rfl) rfl <| wpl_q (q_ld Tryd.underlying27 rfl rfl rfl) rfl ?_
  refine wpl_q (q_lenW Tryd.underlying27 rfl zz4) rfl ?_
  refine wpl_q (q_pure rfl) rfl <| wpl_nil <| ex_then ?_
  refine wpc_cond rfl (fun hc9 => ?_) (fun hc9 => ?_)
  ·
   simp only [decide_eq_true_eq] at hc9
   have hR : chkP ⟨pf, pa, pb, pl, hv, hs⟩ = 4 := chk_many (p := ⟨pf, pa, pb, pl, hv, hs⟩) (by show 30 < hs.length; omega)
   refine wpc_seq <| wpc_region <| wpl_q (q_pure rfl) rfl <| wpl_nil <| ex_then <| wpc_ret ?_
   refine ex_then_ret ?_
   refine ret1 (.inl rfl) rfl rfl ?_
   exact fun w h => ⟨by rw [hR], h.below⟩
  ·
   simp only [decide_eq_false_iff_not] at hc9
   have hn30 : ¬ 30 < hs.length := by omega
   refine wpc_skip <| ex_then <| wpc_seq <| wpc_region <| wpl_q (q_field Tryd.underlying29 rfl Tryd.ti26 rfl rfl _ rfl) rfl ?_
   refine wpl_q (q_ldP Tryd.underlying26 rfl Tryd.ti26 rfl (pfL pf pa pb pl) rfl zz0) rfl ?_
   refine wpl_t (t_pur Tryd.hb42 rfl fun w h => numCheck pf pa pb pl w) rfl (fun b12 => ?_)
   refine wpl_q (q_pure rfl) rfl <| wpl_nil <| ex_then <| wpc_seq <| wpc_seq <| wpc_region <| wpl_q (q_pure rfl) rfl <| wpl_q (q_pure rfl) rfl <| wpl_nil <| ex_then ?_
   refine wpc_cond rfl (fun hc14 => ?_) (fun hc14 => ?_)
   ·
    have hpx : pfxF pf pa pb pl ≠ 0 := by simpa using hc14
    have hR : chkP ⟨pf, pa, pb, pl, hv, hs⟩ = pfxF pf pa pb pl := chk_pfx (p := ⟨pf, pa, pb, pl, hv, hs⟩) hn30 hpx
    refine wpc_seq <| wpc_region <| wpl_q (q_pure rfl) rfl <| wpl_q (q_pure rfl) rfl <| wpl_nil <| ex_then <| wpc_ret ?_
    refine ex_then_ret ?_
    refine ret1 (.inl rfl) rfl rfl ?_
    exact fun w h => ⟨by rw [hR], h.below⟩
   ·
    have hpx : ¬ pfxF pf pa pb pl ≠ 0 := by simpa using hc14
    refine wpc_skip <| ex_then <| wpc_seq <| wpc_seq <| wpc_region <| wpl_q (q_field Tryd.underlying29 rfl Tryd.ti27 rfl rfl _ rfl) rfl <| wpl_q (q_ld Tryd.underlying27 rfl rfl rfl) rfl ?_
    refine wpl_q (q_lenW Tryd.underlying27 rfl zz4) rfl ?_
    refine wpl_q (q_pure rfl) rfl <| wpl_nil <| ex_then ?_
    refine wpc_cond rfl (fun hc19 => ?_) (fun hc19 => ?_)
    ·
     have h0 : hs.length = 0 := by simpa using hc19
     have hR : chkP ⟨pf, pa, pb, pl, hv, hs⟩ = 8 := chk_none (p := ⟨pf, pa, pb, pl, hv, hs⟩) hn30 hpx h0
     refine wpc_seq <| wpc_region <| wpl_q (q_pure rfl) rfl <| wpl_nil <| ex_then <| wpc_ret ?_
     refine ex_then_ret ?_
     refine ret1 (.inl rfl) rfl rfl ?_
     exact fun w h => ⟨by rw [hR], h.below⟩
    ·
     have h0 : ¬ hs.length = 0 := by simpa using hc19
     refine wpc_skip <| ex_then <| wpc_seq <| wpc_seq <| wpc_region <| wpl_q (q_field Tryd.underlying29 rfl Tryd.ti27 rfl rfl _ rfl) rfl <| wpl_q (q_ld Tryd.underlying27 rfl rfl rfl) rfl ?_
     refine wpl_q (q_lenW Tryd.underlying27 rfl zz4) rfl ?_
     refine wpl_q (q_pure rfl) rfl <| wpl_nil <| ex_then <| wpc_block ?_
     refine wpc_loopc (ι := { x : Nat // (x ≤ hs.length) ∧ (∀ j, j < x → ¬ badH hs j) }) [(1, _), (21, _), (22, _)] (fun x Lc => (23, .int .i64 ((x.1 : Nat) : Int)) :: Lc) (fun x => Mem w [] [.blk b1 29 [.int .u8 (pf.toNat : Int), .int .u64 (pa.toNat : Int), .int .u64 (pb.toNat : Int), .int .i64 pl, hv]] []) (fun x => hs.length - x.1) ⟨0, ⟨Nat.zero_le _, fun j hj => zz13⟩⟩ zz10 ?_ ?_
     ·
      exact fun w h => h.sub SubC.h .nil
     ·
      rintro ⟨i, ⟨hi0, hi1⟩⟩; try dsimp only
      have hi0 : i ≤ hs.length := hi0; have hi1 : ∀ j, j < i → ¬ badH hs j := hi1
      refine wpc_seq <| wpc_region <| wpl_q (q_pure rfl) rfl <| wpl_nil <| ex_then <| wpc_seq ?_
      refine wpc_cond rfl (fun hc24 => ?_) (fun hc24 => ?_)
      ·
       simp only [decide_eq_true_eq] at hc24
       have hil : i < hs.length := by omega
       have hsi := hq _ (getD_memO hil)
       haveI := hsi.sv.one
       refine wpc_skip <| ex_then <| wpc_seq <| wpc_block <| wpc_seq <| wpc_region <| wpl_q (q_pure rfl) rfl ?_
       refine wpl_q (q_idxW Tryd.underlying27 Tryd.ti68 rfl rfl zz4 zz2) rfl ?_
       refine wpl_q (q_ldWN Tryd.underlying68 rfl Tryd.ti68 rfl (fun w h => h.seen_old hh) (hs.getD i Hop.z).c (cat_part Hop.c_length Hop.z hil) (Hop.c_length _)) rfl ?_
       refine wpl_t (t_alloc Tryd.ti68 Hop.z.c rfl) rfl (fun b5 => ?_)
       refine wpl_q (q_pure rfl) rfl ?_
       refine wpl_t0 (t_stA Tryd.ti68 rfl rfl LenC.h OneC.h LenC.h) (fun _ => ?_)
       refine wpl_nil <| ex_then <| wpc_seq ?_
       refine wpc_draw 99 zz5 (fun _ h => h.drew) ?_
       refine wpd_p 0 rfl zz5 trivial (q_field Tryd.underlying68 rfl Tryd.ti5 rfl rfl _ rfl) rfl sk0 ?_
       refine wpd_q 1 rfl zz5 trivial (q_ld Tryd.underlying5 rfl rfl (Hop.c_fl _)) rfl (fun _ h => h) ?_
       refine wpd_p 2 rfl zz5 trivial (q_pure rfl) rfl sk0 ?_
       refine wpd_p 3 rfl zz5 trivial (q_pure rfl) rfl sk0 ?_
       refine wpd_bool2 31 30 rfl rfl (fun hb31 => ?_) (fun hb31 => ?_)
       ·
        have hbad : badH hs i := .inl (by simp only [decide_eq_true_eq] at hb31; omega)
        have hR : chkP ⟨pf, pa, pb, pl, hv, hs⟩ = 8 := chk_bad (p := ⟨pf, pa, pb, pl, hv, hs⟩) hn30 hpx hil hbad
        refine wpd_off 4 rfl zz5 ⟨_, _, rfl, rfl, rfl⟩ rfl sk0 ?_
        refine wpd_off 5 rfl zz5 ⟨_, _, rfl, rfl, rfl⟩ rfl sk0 ?_
        refine wpd_off 6 rfl zz5 ⟨_, _, rfl, rfl, rfl⟩ rfl sk0 ?_
        refine wpd_off 7 rfl zz5 ⟨_, _, rfl, rfl, rfl⟩ rfl sk0 ?_
        refine wpd_off 8 rfl zz5 ⟨_, _, rfl, rfl, rfl⟩ rfl sk0 ?_
        refine wpd_off 9 rfl zz5 ⟨_, _, rfl, rfl, rfl⟩ rfl sk0 ?_
        refine wpd_off 10 rfl zz5 ⟨_, _, rfl, rfl, rfl⟩ rfl sk0 ?_
        refine wpd_p 11 rfl zz5 trivial (q_pure rfl) rfl sk0 ?_
        refine wpd_p 12 rfl zz5 trivial (q_pure rfl) rfl sk0 ?_
        refine wpd_off 13 rfl zz5 ⟨_, _, rfl, rfl, rfl⟩ rfl sk0 ?_
        refine wpd_off 14 rfl zz5 ⟨_, _, rfl, rfl, rfl⟩ rfl sk0 ?_
        refine wpd_off 15 rfl zz5 ⟨_, _, rfl, rfl, rfl⟩ rfl sk0 ?_
        refine wpd_off 16 rfl zz5 ⟨_, _, rfl, rfl, rfl⟩ rfl sk0 ?_
        refine wpd_off 17 rfl zz5 ⟨_, _, rfl, rfl, rfl⟩ rfl sk0 ?_
        refine wpd_off 18 rfl zz5 ⟨_, _, rfl, rfl, rfl⟩ rfl sk0 ?_
        refine wpd_off 19 rfl zz5 ⟨_, _, rfl, rfl, rfl⟩ rfl sk0 ?_
        refine wpd_off 20 rfl zz5 ⟨_, _, rfl, rfl, rfl⟩ rfl sk0 ?_
        refine wpd_off 21 rfl zz5 ⟨_, _, rfl, rfl, rfl⟩ rfl sk0 ?_
        refine wpd_off 22 rfl zz5 ⟨_, _, rfl, rfl, rfl⟩ rfl sk0 ?_
        refine wpd_off 23 rfl zz5 ⟨_, _, rfl, rfl, rfl⟩ rfl sk0 ?_
        refine wpd_off 24 rfl zz5 ⟨_, _, rfl, rfl, rfl⟩ rfl sk0 ?_
        refine wpd_off 25 rfl zz5 ⟨_, _, rfl, rfl, rfl⟩ rfl sk0 ?_
        refine wpd_off 26 rfl zz5 ⟨_, _, rfl, rfl, rfl⟩ rfl sk0 ?_
        refine wpd_p 27 rfl zz5 trivial (q_pure rfl) rfl sk0 ?_
        refine wpd_done zz5 ?_
        refine ex_then ?_
        refine wpc_cond_t rfl ?_
        refine wpc_seq <| wpc_region <| wpl_q (q_pure rfl) rfl <| wpl_nil <| ex_then <| wpc_ret ?_
        refine ex_block_ret ?_
        refine ex_then_ret ?_
        refine ex_then_ret ?_
        refine ex_block_ret ?_
        refine ex_then_ret ?_
        refine ret1 (.inl rfl) rfl rfl ?_
        exact fun w h => ⟨by rw [hR], h.below⟩
       ·
        have n1 : ¬ 1 < (hs.getD i Hop.z).fl.toNat := by simp only [decide_eq_false_iff_not] at hb31; omega
        refine wpd_p 4 rfl zz5 ⟨_, rfl, rfl⟩ (q_field Tryd.underlying68 rfl Tryd.ti63 rfl rfl _ rfl) rfl sk0 ?_
        refine wpd_p 5 rfl zz5 ⟨_, rfl, rfl⟩ (q_field Tryd.underlying63 rfl Tryd.ti3 rfl rfl _ rfl) rfl sk0 ?_
        refine wpd_q 6 rfl zz5 ⟨_, rfl, rfl⟩ (q_ld Tryd.underlying3 rfl rfl (Hop.c_ht _)) rfl (fun _ h => h) ?_
        refine wpd_p 7 rfl zz5 ⟨_, rfl, rfl⟩ (q_field Tryd.underlying68 rfl Tryd.ti66 rfl rfl _ rfl) rfl sk0 ?_
        refine wpd_q 8 rfl zz5 ⟨_, rfl, rfl⟩ (q_ldP Tryd.underlying66 rfl Tryd.ti66 rfl (hs.getD i Hop.z).sig (Hop.c_sig _) rfl) rfl (fun _ h => h) ?_
        refine wpd_t 9 rfl zz5 ⟨_, rfl, rfl⟩ (t_pur Tryd.hb43 rfl fun w h => check7 _ _ _ _ _ _ w (hsi.old h).1 (hsi.old h).2.1 (hsi.old h).2.2.1 (hsi.old h).2.2.2) rfl (fun _ => sk0) (fun b37 => ?_)
        refine wpd_p 10 rfl zz5 ⟨_, rfl, rfl⟩ (q_pure rfl) rfl sk0 ?_
        refine wpd_p 11 rfl zz5 trivial (q_pure rfl) rfl sk0 ?_
        refine wpd_p 12 rfl zz5 trivial (q_pure rfl) rfl sk0 ?_
        refine wpd_bool2 40 38 rfl rfl (fun hb40 => ?_) (fun hb40 => ?_)
        ·
         have hbad : badH hs i := .inr (.inl (by simpa using hb40))
         have hR : chkP ⟨pf, pa, pb, pl, hv, hs⟩ = 8 := chk_bad (p := ⟨pf, pa, pb, pl, hv, hs⟩) hn30 hpx hil hbad
         refine wpd_off 13 rfl zz5 ⟨_, _, rfl, rfl, rfl⟩ rfl sk0 ?_
         refine wpd_off 14 rfl zz5 ⟨_, _, rfl, rfl, rfl⟩ rfl sk0 ?_
         refine wpd_off 15 rfl zz5 ⟨_, _, rfl, rfl, rfl⟩ rfl sk0 ?_
         refine wpd_off 16 rfl zz5 ⟨_, _, rfl, rfl, rfl⟩ rfl sk0 ?_
         refine wpd_off 17 rfl zz5 ⟨_, _, rfl, rfl, rfl⟩ rfl sk0 ?_
         refine wpd_off 18 rfl zz5 ⟨_, _, rfl, rfl, rfl⟩ rfl sk0 ?_
         refine wpd_off 19 rfl zz5 ⟨_, _, rfl, rfl, rfl⟩ rfl sk0 ?_
         refine wpd_off 20 rfl zz5 ⟨_, _, rfl, rfl, rfl⟩ rfl sk0 ?_
         refine wpd_off 21 rfl zz5 ⟨_, _, rfl, rfl, rfl⟩ rfl sk0 ?_
         refine wpd_off 22 rfl zz5 ⟨_, _, rfl, rfl, rfl⟩ rfl sk0 ?_
         refine wpd_off 23 rfl zz5 ⟨_, _, rfl, rfl, rfl⟩ rfl sk0 ?_
         refine wpd_off 24 rfl zz5 ⟨_, _, rfl, rfl, rfl⟩ rfl sk0 ?_
         refine wpd_off 25 rfl zz5 ⟨_, _, rfl, rfl, rfl⟩ rfl sk0 ?_
         refine wpd_off 26 rfl zz5 ⟨_, _, rfl, rfl, rfl⟩ rfl sk0 ?_
         refine wpd_p 27 rfl zz5 trivial (q_pure rfl) rfl sk0 ?_
         refine wpd_done zz5 ?_
         refine ex_then ?_
         refine wpc_cond_t rfl ?_
         refine wpc_seq <| wpc_region <| wpl_q (q_pure rfl) rfl <| wpl_nil <| ex_then <| wpc_ret ?_
         refine ex_block_ret ?_
         refine ex_then_ret ?_
         refine ex_then_ret ?_
         refine ex_block_ret ?_
         refine ex_then_ret ?_
         refine ret1 (.inl rfl) rfl rfl ?_
         exact fun w h => ⟨by rw [hR], h.below⟩
        ·
         have n2 : ¬ checkF (hs.getD i Hop.z).ht (hs.getD i Hop.z).ix (hs.getD i Hop.z).chs.length (hs.getD i Hop.z).ps.length ≠ 0 := by simpa using hb40
         refine wpd_p 13 rfl zz5 ⟨_, rfl, rfl⟩ (q_pure rfl) rfl sk0 ?_
         refine wpd_p 14 rfl zz5 ⟨_, rfl, rfl⟩ (q_pure rfl) rfl sk0 ?_
         refine wpd_p 15 rfl zz5 ⟨_, rfl, rfl⟩ (q_pure rfl) rfl sk0 ?_
         refine wpd_bool2 43 42 rfl rfl (fun hb43 => ?_) (fun hb43 => ?_)
         ·
          simp only [decide_eq_true_eq] at hb43
          have p3 : 0 < i := by omega
          refine wpd_p 16 rfl zz5 ⟨_, rfl, rfl⟩ (q_field Tryd.underlying68 rfl Tryd.ti49 rfl rfl _ rfl) rfl sk0 ?_
          refine wpd_q 17 rfl zz5 ⟨_, rfl, rfl⟩ (q_ld Tryd.underlying49 rfl rfl (Hop.c_sy _)) rfl (fun _ h => h) ?_
          refine wpd_p 18 rfl zz5 ⟨_, rfl, rfl⟩ (q_field Tryd.underlying29 rfl Tryd.ti27 rfl rfl _ rfl) rfl sk0 ?_
          refine wpd_q 19 rfl zz5 ⟨_, rfl, rfl⟩ (q_ld Tryd.underlying27 rfl rfl rfl) rfl (fun _ h => h) ?_
          refine wpd_p 20 rfl zz5 ⟨_, rfl, rfl⟩ (q_pure rfl) rfl sk0 ?_
          refine wpd_p 21 rfl zz5 ⟨_, rfl, rfl⟩ (q_subN (b := 1) rfl rfl zz13 zz2) rfl sk0 ?_
          refine wpd_p 22 rfl zz5 ⟨_, rfl, rfl⟩ (q_idxW Tryd.underlying27 Tryd.ti68 rfl rfl zz4 zz2) rfl sk0 ?_
          refine wpd_p 23 rfl zz5 ⟨_, rfl, rfl⟩ (q_fieldPo 3 Tryd.underlying68 rfl Tryd.ti49 rfl rfl rfl) rfl sk0 ?_
          refine wpd_q 24 rfl zz5 ⟨_, rfl, rfl⟩ (q_ldWF Tryd.underlying49 rfl rfl (fun w h => h.seen_old hh) (cat_get Hop.c_length Hop.z (show i - 1 < hs.length from zz13) (Hop.c_to _))) rfl (fun _ h => h) ?_
          refine wpd_p 25 rfl zz5 ⟨_, rfl, rfl⟩ (q32_neq rfl rfl) rfl sk0 ?_
          refine wpd_p 26 rfl zz5 ⟨_, rfl, rfl⟩ (q_pure rfl) rfl sk0 ?_
          refine wpd_p 27 rfl zz5 trivial (q_pure rfl) rfl sk0 ?_
          refine wpd_done zz5 ?_
          refine ex_then ?_
          refine wpc_cond rfl (fun hc55 => ?_) (fun hc55 => ?_)
          ·
           have hbad : badH hs i := .inr (.inr ⟨p3, by simpa using hc55⟩)
           have hR : chkP ⟨pf, pa, pb, pl, hv, hs⟩ = 8 := chk_bad (p := ⟨pf, pa, pb, pl, hv, hs⟩) hn30 hpx hil hbad
           refine wpc_seq <| wpc_region <| wpl_q (q_pure rfl) rfl <| wpl_nil <| ex_then <| wpc_ret ?_
           refine ex_block_ret ?_
           refine ex_then_ret ?_
           refine ex_then_ret ?_
           refine ex_block_ret ?_
           refine ex_then_ret ?_
           refine ret1 (.inl rfl) rfl rfl ?_
           exact fun w h => ⟨by rw [hR], h.below⟩
          ·
           try have hok : ¬ badH hs i := by rintro (h | h | h); exact n1 h; exact n2 h; exact h.2 (by simpa using hc55)
           refine wpc_skip <| ex_block <| ex_then <| wpc_region ?_
           refine wpl_q (q_addN (b := 1) rfl rfl zz2) rfl ?_
           refine wpl_q (q_pure rfl) rfl <| wpl_nil ?_
           refine ex_again ⟨i + 1, ⟨zz13, fun j hj => zz43⟩⟩ ?_ ?_ ?_
           ·
            exact zz10
           ·
            exact fun w h => h.sub SubC.h .nil
           ·
            (show hs.length - (i + 1) < hs.length - i); omega
         ·
          simp only [decide_eq_false_iff_not] at hb43
          have hok : ¬ badH hs i := by rintro (h | h | h); exact n1 h; exact n2 h; exact absurd h.1 zz13
          refine wpd_off 16 rfl zz5 ⟨_, _, rfl, rfl, rfl⟩ rfl sk0 ?_
          refine wpd_off 17 rfl zz5 ⟨_, _, rfl, rfl, rfl⟩ rfl sk0 ?_
          refine wpd_off 18 rfl zz5 ⟨_, _, rfl, rfl, rfl⟩ rfl sk0 ?_
          refine wpd_off 19 rfl zz5 ⟨_, _, rfl, rfl, rfl⟩ rfl sk0 ?_
          refine wpd_off 20 rfl zz5 ⟨_, _, rfl, rfl, rfl⟩ rfl sk0 ?_
          refine wpd_off 21 rfl zz5 ⟨_, _, rfl, rfl, rfl⟩ rfl sk0 ?_
          refine wpd_off 22 rfl zz5 ⟨_, _, rfl, rfl, rfl⟩ rfl sk0 ?_
          refine wpd_off 23 rfl zz5 ⟨_, _, rfl, rfl, rfl⟩ rfl sk0 ?_
          refine wpd_off 24 rfl zz5 ⟨_, _, rfl, rfl, rfl⟩ rfl sk0 ?_
          refine wpd_off 25 rfl zz5 ⟨_, _, rfl, rfl, rfl⟩ rfl sk0 ?_
          refine wpd_p 26 rfl zz5 ⟨_, rfl, rfl⟩ (q_pure rfl) rfl sk0 ?_
          refine wpd_p 27 rfl zz5 trivial (q_pure rfl) rfl sk0 ?_
          refine wpd_done zz5 ?_
          refine ex_then ?_
          refine wpc_cond_f rfl ?_
          refine wpc_skip <| ex_block <| ex_then <| wpc_region ?_
          refine wpl_q (q_addN (b := 1) rfl rfl zz2) rfl ?_
          refine wpl_q (q_pure rfl) rfl <| wpl_nil ?_
          refine ex_again ⟨i + 1, ⟨zz13, fun j hj => zz43⟩⟩ ?_ ?_ ?_
          ·
           exact zz10
          ·
           exact fun w h => h.sub SubC.h .nil
          ·
           (show hs.length - (i + 1) < hs.length - i); omega
      ·
       simp only [decide_eq_false_iff_not] at hc24
       have hR : chkP ⟨pf, pa, pb, pl, hv, hs⟩ = 0 := chk_ok (p := ⟨pf, pa, pb, pl, hv, hs⟩) hn30 hpx h0 (fun j hj => hi1 j (by have hj : j < hs.length := hj; omega))
       refine wpc_exit ?_
       refine ex_then_exit ?_
       refine ex_then_exit ?_
       refine ex_block_hit ?_
       refine ex_then <| wpc_seq <| wpc_region <| wpl_q (q_pure rfl) rfl <| wpl_nil <| ex_then <| wpc_ret ?_
       refine ret1 (.inl rfl) rfl rfl ?_
       exact fun w h => ⟨by rw [hR], h.below⟩
theorem refCheck42 (p : Pth) (w : World) (hp : p.seen w.cell?)  :
    Calls Tryd.prog 18 [.agg p.c.toArray].toArray w (Pur w (.int .i64 (chkP p))) := by
  obtain ⟨pf, pa, pb, pl, hv, hs⟩ := p
  have hh : Seen w.cell? hv hs.length 24 (hcs hs) := hp.1
  have hq : ∀ h ∈ hs, h.seen w.cell? := hp.2
  have svh := hh.sv
  have lh := svh.le
  simp only [maxLen] at lh
  refine enter (m := 60) (R := Mem w [] [] []) Tryd.func18 rfl rfl (Nat.le_of_ble_eq_true rfl) (Mem.start w) ?_
  refine wpc_seq <| wpc_region ?_
  refine wpl_t (t_box rfl [.int .u8 (pf.toNat : Int), .int .u64 (pa.toNat : Int), .int .u64 (pb.toNat : Int), .int .i64 pl, hv] rfl) rfl (fun b1 => ?_)
  refine wpl_q (q_pure rfl) rfl <| wpl_nil <| ex_then <| wpc_seq <| wpc_seq <| wpc_region <| wpl_q (q_field Tryd.underlying29 rfl Tryd.ti27 rfl rfl _ rfl) rfl <| wpl_q (q_ld Tryd.underlying27 rfl rfl rfl) rfl ?_
  refine wpl_q (q_lenW Tryd.underlying27 rfl zz4) rfl ?_
  refine wpl_q (q_pure rfl) rfl <| wpl_nil <| ex_then ?_
  refine wpc_cond rfl (fun hc9 => ?_) (fun hc9 => ?_)
  ·
   simp only [decide_eq_true_eq] at hc9
   have hR : chkP ⟨pf, pa, pb, pl, hv, hs⟩ = 4 := chk_many (p := ⟨pf, pa, pb, pl, hv, hs⟩) (by show 30 < hs.length; omega)
   refine wpc_seq <| wpc_region <| wpl_q (q_pure rfl) rfl <| wpl_nil <| ex_then <| wpc_ret ?_
   refine ex_then_ret ?_
   refine ret1 (.inl rfl) rfl rfl ?_
   exact fun w h => ⟨by rw [hR], h.below⟩
  ·
   simp only [decide_eq_false_iff_not] at hc9
   have hn30 : ¬ 30 < hs.length := by omega
   refine wpc_skip <| ex_then <| wpc_seq <| wpc_region <| wpl_q (q_field Tryd.underlying29 rfl Tryd.ti26 rfl rfl _ rfl) rfl ?_
   refine wpl_q (q_ldP Tryd.underlying26 rfl Tryd.ti26 rfl (pfL pf pa pb pl) rfl zz0) rfl ?_
   refine wpl_t (t_pur Tryd.hb44 rfl fun w h => refCheck1 pf pa pb pl w) rfl (fun b12 => ?_)
   refine wpl_q (q_pure rfl) rfl <| wpl_nil <| ex_then <| wpc_seq <| wpc_seq <| wpc_region <| wpl_q (q_pure rfl) rfl <| wpl_q (q_pure rfl) rfl <| wpl_nil <| ex_then ?_
   refine wpc_cond rfl (fun hc14 => ?_) (fun hc14 => ?_)
   ·
    have hpx : pfxF pf pa pb pl ≠ 0 := by simpa using hc14
    have hR : chkP ⟨pf, pa, pb, pl, hv, hs⟩ = pfxF pf pa pb pl := chk_pfx (p := ⟨pf, pa, pb, pl, hv, hs⟩) hn30 hpx
    refine wpc_seq <| wpc_region <| wpl_q (q_pure rfl) rfl <| wpl_q (q_pure rfl) rfl <| wpl_nil <| ex_then <| wpc_ret ?_
    refine ex_then_ret ?_
    refine ret1 (.inl rfl) rfl rfl ?_
    exact fun w h => ⟨by rw [hR], h.below⟩
   ·
    have hpx : ¬ pfxF pf pa pb pl ≠ 0 := by simpa using hc14
    refine wpc_skip <| ex_then <| wpc_seq <| wpc_seq <| wpc_region <| wpl_q (q_pure rfl) rfl <| wpl_nil <| ex_then <| wpc_block ?_
    refine wpc_loopc (ι := { x : Nat // (x ≤ hs.length) ∧ (∀ j, j < x → ¬ badH hs j) }) [(1, _)] (fun x Lc => (4, .int .i64 ((x.1 : Nat) : Int)) :: Lc) (fun x => Mem w [] [.blk b1 29 [.int .u8 (pf.toNat : Int), .int .u64 (pa.toNat : Int), .int .u64 (pb.toNat : Int), .int .i64 pl, hv]] []) (fun x => hs.length - x.1) ⟨0, ⟨Nat.zero_le _, fun j hj => zz13⟩⟩ zz10 ?_ ?_
    ·
     exact fun w h => h.sub SubC.h .nil
    ·
     rintro ⟨i, ⟨hi0, hi1⟩⟩; try dsimp only
     have hi0 : i ≤ hs.length := hi0; have hi1 : ∀ j, j < i → ¬ badH hs j := hi1
     refine wpc_seq <| wpc_seq <| wpc_region <| wpl_q (q_pure rfl) rfl <| wpl_q (q_field Tryd.underlying29 rfl Tryd.ti27 rfl rfl _ rfl) rfl <| wpl_q (q_ld Tryd.underlying27 rfl rfl rfl) rfl ?_
     refine wpl_q (q_lenW Tryd.underlying27 rfl zz4) rfl ?_
     refine wpl_q (q_pure rfl) rfl <| wpl_nil <| ex_then ?_
     refine wpc_cond rfl (fun hc20 => ?_) (fun hc20 => ?_)
     ·
      simp only [decide_eq_true_eq] at hc20
      have hil : i < hs.length := by omega
      have hsi := hq _ (getD_memO hil)
      haveI := hsi.sv.one
      refine wpc_skip <| ex_then <| wpc_seq <| wpc_block <| wpc_seq <| wpc_region <| wpl_q (q_field Tryd.underlying29 rfl Tryd.ti27 rfl rfl _ rfl) rfl <| wpl_q (q_ld Tryd.underlying27 rfl rfl rfl) rfl <| wpl_q (q_pure rfl) rfl ?_
      refine wpl_q (q_idxW Tryd.underlying27 Tryd.ti68 rfl rfl zz4 zz2) rfl ?_
      refine wpl_q (q_ldWN Tryd.underlying68 rfl Tryd.ti68 rfl (fun w h => h.seen_old hh) (hs.getD i Hop.z).c (cat_part Hop.c_length Hop.z hil) (Hop.c_length _)) rfl ?_
      refine wpl_t (t_alloc Tryd.ti68 Hop.z.c rfl) rfl (fun b5 => ?_)
      refine wpl_t0 (t_stA Tryd.ti68 rfl rfl LenC.h OneC.h LenC.h) (fun _ => ?_)
      refine wpl_nil <| ex_then <| wpc_seq ?_
      refine wpc_draw 99 zz5 (fun _ h => h.drew) ?_
      refine wpd_p 0 rfl zz5 trivial (q_field Tryd.underlying68 rfl Tryd.ti5 rfl rfl _ rfl) rfl sk0 ?_
      refine wpd_q 1 rfl zz5 trivial (q_ld Tryd.underlying5 rfl rfl (Hop.c_fl _)) rfl (fun _ h => h) ?_
      refine wpd_p 2 rfl zz5 trivial (q_pure rfl) rfl sk0 ?_
      refine wpd_p 3 rfl zz5 trivial (q_pure rfl) rfl sk0 ?_
      refine wpd_bool2 31 30 rfl rfl (fun hb31 => ?_) (fun hb31 => ?_)
      ·
       have hbad : badH hs i := .inl (by simp only [decide_eq_true_eq] at hb31; omega)
       have hR : chkP ⟨pf, pa, pb, pl, hv, hs⟩ = 8 := chk_bad (p := ⟨pf, pa, pb, pl, hv, hs⟩) hn30 hpx hil hbad
       refine wpd_off 4 rfl zz5 ⟨_, _, rfl, rfl, rfl⟩ rfl sk0 ?_
       refine wpd_off 5 rfl zz5 ⟨_, _, rfl, rfl, rfl⟩ rfl sk0 ?_
       refine wpd_off 6 rfl zz5 ⟨_, _, rfl, rfl, rfl⟩ rfl sk0 ?_
       refine wpd_off 7 rfl zz5 ⟨_, _, rfl, rfl, rfl⟩ rfl sk0 ?_
       refine wpd_off 8 rfl zz5 ⟨_, _, rfl, rfl, rfl⟩ rfl sk0 ?_
       refine wpd_off 9 rfl zz5 ⟨_, _, rfl, rfl, rfl⟩ rfl sk0 ?_
       refine wpd_off 10 rfl zz5 ⟨_, _, rfl, rfl, rfl⟩ rfl sk0 ?_
       refine wpd_p 11 rfl zz5 trivial (q_pure rfl) rfl sk0 ?_
       refine wpd_p 12 rfl zz5 trivial (q_pure rfl) rfl sk0 ?_
       refine wpd_off 13 rfl zz5 ⟨_, _, rfl, rfl, rfl⟩ rfl sk0 ?_
       refine wpd_off 14 rfl zz5 ⟨_, _, rfl, rfl, rfl⟩ rfl sk0 ?_
       refine wpd_off 15 rfl zz5 ⟨_, _, rfl, rfl, rfl⟩ rfl sk0 ?_
       refine wpd_off 16 rfl zz5 ⟨_, _, rfl, rfl, rfl⟩ rfl sk0 ?_
       refine wpd_off 17 rfl zz5 ⟨_, _, rfl, rfl, rfl⟩ rfl sk0 ?_
       refine wpd_off 18 rfl zz5 ⟨_, _, rfl, rfl, rfl⟩ rfl sk0 ?_
       refine wpd_off 19 rfl zz5 ⟨_, _, rfl, rfl, rfl⟩ rfl sk0 ?_
       refine wpd_off 20 rfl zz5 ⟨_, _, rfl, rfl, rfl⟩ rfl sk0 ?_
       refine wpd_off 21 rfl zz5 ⟨_, _, rfl, rfl, rfl⟩ rfl sk0 ?_
       refine wpd_off 22 rfl zz5 ⟨_, _, rfl, rfl, rfl⟩ rfl sk0 ?_
       refine wpd_off 23 rfl zz5 ⟨_, _, rfl, rfl, rfl⟩ rfl sk0 ?_
       refine wpd_off 24 rfl zz5 ⟨_, _, rfl, rfl, rfl⟩ rfl sk0 ?_
       refine wpd_off 25 rfl zz5 ⟨_, _, rfl, rfl, rfl⟩ rfl sk0 ?_
       refine wpd_off 26 rfl zz5 ⟨_, _, rfl, rfl, rfl⟩ rfl sk0 ?_
       refine wpd_p 27 rfl zz5 trivial (q_pure rfl) rfl sk0 ?_
       refine wpd_done zz5 ?_
       refine ex_then ?_
       refine wpc_cond_t rfl ?_
       refine wpc_seq <| wpc_region <| wpl_q (q_pure rfl) rfl <| wpl_nil <| ex_then <| wpc_ret ?_
       refine ex_block_ret ?_
       refine ex_then_ret ?_
       refine ex_then_ret ?_
       refine ex_block_ret ?_
       refine ex_then_ret ?_
       refine ret1 (.inl rfl) rfl rfl ?_
       exact fun w h => ⟨by rw [hR], h.below⟩
      ·
       have n1 : ¬ 1 < (hs.getD i Hop.z).fl.toNat := by simp only [decide_eq_false_iff_not] at hb31; omega
       refine wpd_p 4 rfl zz5 ⟨_, rfl, rfl⟩ (q_field Tryd.underlying68 rfl Tryd.ti63 rfl rfl _ rfl) rfl sk0 ?_
       refine wpd_p 5 rfl zz5 ⟨_, rfl, rfl⟩ (q_field Tryd.underlying63 rfl Tryd.ti3 rfl rfl _ rfl) rfl sk0 ?_
       refine wpd_q 6 rfl zz5 ⟨_, rfl, rfl⟩ (q_ld Tryd.underlying3 rfl rfl (Hop.c_ht _)) rfl (fun _ h => h) ?_
       refine wpd_p 7 rfl zz5 ⟨_, rfl, rfl⟩ (q_field Tryd.underlying68 rfl Tryd.ti66 rfl rfl _ rfl) rfl sk0 ?_
       refine wpd_q 8 rfl zz5 ⟨_, rfl, rfl⟩ (q_ldP Tryd.underlying66 rfl Tryd.ti66 rfl (hs.getD i Hop.z).sig (Hop.c_sig _) rfl) rfl (fun _ h => h) ?_
       refine wpd_t 9 rfl zz5 ⟨_, rfl, rfl⟩ (t_pur Tryd.hb45 rfl fun w h => refCheck7 _ _ _ _ _ _ w (hsi.old h).1 (hsi.old h).2.1 (hsi.old h).2.2.1 (hsi.old h).2.2.2) rfl (fun _ => sk0) (fun b37 => ?_)
       refine wpd_p 10 rfl zz5 ⟨_, rfl, rfl⟩ (q_pure rfl) rfl sk0 ?_
       refine wpd_p 11 rfl zz5 trivial (q_pure rfl) rfl sk0 ?_
       refine wpd_p 12 rfl zz5 trivial (q_pure rfl) rfl sk0 ?_
       refine wpd_bool2 40 38 rfl rfl (fun hb40 => ?_) (fun hb40 => ?_)
       ·
        have hbad : badH hs i := .inr (.inl (by simpa using hb40))
        have hR : chkP ⟨pf, pa, pb, pl, hv, hs⟩ = 8 := chk_bad (p := ⟨pf, pa, pb, pl, hv, hs⟩) hn30 hpx hil hbad
        refine wpd_off 13 rfl zz5 ⟨_, _, rfl, rfl, rfl⟩ rfl sk0 ?_
        refine wpd_off 14 rfl zz5 ⟨_, _, rfl, rfl, rfl⟩ rfl sk0 ?_
        refine wpd_off 15 rfl zz5 ⟨_, _, rfl, rfl, rfl⟩ rfl sk0 ?_
        refine wpd_off 16 rfl zz5 ⟨_, _, rfl, rfl, rfl⟩ rfl sk0 ?_
        refine wpd_off 17 rfl zz5 ⟨_, _, rfl, rfl, rfl⟩ rfl sk0 ?_
        refine wpd_off 18 rfl zz5 ⟨_, _, rfl, rfl, rfl⟩ rfl sk0 ?_
        refine wpd_off 19 rfl zz5 ⟨_, _, rfl, rfl, rfl⟩ rfl sk0 ?_
        refine wpd_off 20 rfl zz5 ⟨_, _, rfl, rfl, rfl⟩ rfl sk0 ?_
        refine wpd_off 21 rfl zz5 ⟨_, _, rfl, rfl, rfl⟩ rfl sk0 ?_
        refine wpd_off 22 rfl zz5 ⟨_, _, rfl, rfl, rfl⟩ rfl sk0 ?_
        refine wpd_off 23 rfl zz5 ⟨_, _, rfl, rfl, rfl⟩ rfl sk0 ?_
        refine wpd_off 24 rfl zz5 ⟨_, _, rfl, rfl, rfl⟩ rfl sk0 ?_
        refine wpd_off 25 rfl zz5 ⟨_, _, rfl, rfl, rfl⟩ rfl sk0 ?_
        refine wpd_off 26 rfl zz5 ⟨_, _, rfl, rfl, rfl⟩ rfl sk0 ?_
        refine wpd_p 27 rfl zz5 trivial (q_pure rfl) rfl sk0 ?_
        refine wpd_done zz5 ?_
        refine ex_then ?_
        refine wpc_cond_t rfl ?_
        refine wpc_seq <| wpc_region <| wpl_q (q_pure rfl) rfl <| wpl_nil <| ex_then <| wpc_ret ?_
        refine ex_block_ret ?_
        refine ex_then_ret ?_
        refine ex_then_ret ?_
        refine ex_block_ret ?_
        refine ex_then_ret ?_
        refine ret1 (.inl rfl) rfl rfl ?_
        exact fun w h => ⟨by rw [hR], h.below⟩
       ·
        have n2 : ¬ checkF (hs.getD i Hop.z).ht (hs.getD i Hop.z).ix (hs.getD i Hop.z).chs.length (hs.getD i Hop.z).ps.length ≠ 0 := by simpa using hb40
        refine wpd_p 13 rfl zz5 ⟨_, rfl, rfl⟩ (q_pure rfl) rfl sk0 ?_
        refine wpd_p 14 rfl zz5 ⟨_, rfl, rfl⟩ (q_pure rfl) rfl sk0 ?_
        refine wpd_p 15 rfl zz5 ⟨_, rfl, rfl⟩ (q_pure rfl) rfl sk0 ?_
        refine wpd_bool2 43 42 rfl rfl (fun hb43 => ?_) (fun hb43 => ?_)
        ·
         simp only [decide_eq_true_eq] at hb43
         have p3 : 0 < i := by omega
         refine wpd_p 16 rfl zz5 ⟨_, rfl, rfl⟩ (q_field Tryd.underlying68 rfl Tryd.ti49 rfl rfl _ rfl) rfl sk0 ?_
         refine wpd_q 17 rfl zz5 ⟨_, rfl, rfl⟩ (q_ld Tryd.underlying49 rfl rfl (Hop.c_sy _)) rfl (fun _ h => h) ?_
         refine wpd_p 18 rfl zz5 ⟨_, rfl, rfl⟩ (q_field Tryd.underlying29 rfl Tryd.ti27 rfl rfl _ rfl) rfl sk0 ?_
         refine wpd_q 19 rfl zz5 ⟨_, rfl, rfl⟩ (q_ld Tryd.underlying27 rfl rfl rfl) rfl (fun _ h => h) ?_
         refine wpd_p 20 rfl zz5 ⟨_, rfl, rfl⟩ (q_pure rfl) rfl sk0 ?_
         refine wpd_p 21 rfl zz5 ⟨_, rfl, rfl⟩ (q_subN (b := 1) rfl rfl zz13 zz2) rfl sk0 ?_
         refine wpd_p 22 rfl zz5 ⟨_, rfl, rfl⟩ (q_idxW Tryd.underlying27 Tryd.ti68 rfl rfl zz4 zz2) rfl sk0 ?_
         refine wpd_p 23 rfl zz5 ⟨_, rfl, rfl⟩ (q_fieldPo 3 Tryd.underlying68 rfl Tryd.ti49 rfl rfl rfl) rfl sk0 ?_
         refine wpd_q 24 rfl zz5 ⟨_, rfl, rfl⟩ (q_ldWF Tryd.underlying49 rfl rfl (fun w h => h.seen_old hh) (cat_get Hop.c_length Hop.z (show i - 1 < hs.length from zz13) (Hop.c_to _))) rfl (fun _ h => h) ?_
         refine wpd_p 25 rfl zz5 ⟨_, rfl, rfl⟩ (q32_neq rfl rfl) rfl sk0 ?_
         refine wpd_p 26 rfl zz5 ⟨_, rfl, rfl⟩ (q_pure rfl) rfl sk0 ?_
         refine wpd_p 27 rfl zz5 trivial (q_pure rfl) rfl sk0 ?_
         refine wpd_done zz5 ?_
         refine ex_then ?_
         refine wpc_cond rfl (fun hc55 => ?_) (fun hc55 => ?_)
         ·
          have hbad : badH hs i := .inr (.inr ⟨p3, by simpa using hc55⟩)
          have hR : chkP ⟨pf, pa, pb, pl, hv, hs⟩ = 8 := chk_bad (p := ⟨pf, pa, pb, pl, hv, hs⟩) hn30 hpx hil hbad
          refine wpc_seq <| wpc_region <| wpl_q (q_pure rfl) rfl <| wpl_nil <| ex_then <| wpc_ret ?_
          refine ex_block_ret ?_
          refine ex_then_ret ?_
          refine ex_then_ret ?_
          refine ex_block_ret ?_
          refine ex_then_ret ?_
          refine ret1 (.inl rfl) rfl rfl ?_
          exact fun w h => ⟨by rw [hR], h.below⟩
         ·
          try have hok : ¬ badH hs i := by rintro (h | h | h); exact n1 h; exact n2 h; exact h.2 (by simpa using hc55)
          refine wpc_skip <| ex_block <| ex_then <| wpc_region <| wpl_q (q_pure rfl) rfl ?_
          refine wpl_q (q_addN (b := 1) rfl rfl zz2) rfl ?_
          refine wpl_q (q_pure rfl) rfl <| wpl_nil ?_
          refine ex_again ⟨i + 1, ⟨zz13, fun j hj => zz43⟩⟩ ?_ ?_ ?_
          ·
           exact zz10
          ·
           exact fun w h => h.sub SubC.h .nil
          ·
           (show hs.length - (i + 1) < hs.length - i); omega
        ·
         simp only [decide_eq_false_iff_not] at hb43
         have hok : ¬ badH hs i := by rintro (h | h | h); exact n1 h; exact n2 h; exact absurd h.1 zz13
         refine wpd_off 16 rfl zz5 ⟨_, _, rfl, rfl, rfl⟩ rfl sk0 ?_
         refine wpd_off 17 rfl zz5 ⟨_, _, rfl, rfl, rfl⟩ rfl sk0 ?_
         refine wpd_off 18 rfl zz5 ⟨_, _, rfl, rfl, rfl⟩ rfl sk0 ?_
         refine wpd_off 19 rfl zz5 ⟨_, _, rfl, rfl, rfl⟩ rfl sk0 ?_
         refine wpd_off 20 rfl zz5 ⟨_, _, rfl, rfl, rfl⟩ rfl sk0 ?_
         refine wpd_off 21 rfl zz5 ⟨_, _, rfl, rfl, rfl⟩ rfl sk0 ?_
         refine wpd_off 22 rfl zz5 ⟨_, _, rfl, rfl, rfl⟩ rfl sk0 ?_
         refine wpd_off 23 rfl zz5 ⟨_, _, rfl, rfl, rfl⟩ rfl sk0 ?_
         refine wpd_off 24 rfl zz5 ⟨_, _, rfl, rfl, rfl⟩ rfl sk0 ?_
         refine wpd_off 25 rfl zz5 ⟨_, _, rfl, rfl, rfl⟩ rfl sk0 ?_
         refine wpd_p 26 rfl zz5 ⟨_, rfl, rfl⟩ (q_pure rfl) rfl sk0 ?_
         refine wpd_p 27 rfl zz5 trivial (q_pure rfl) rfl sk0 ?_
         refine wpd_done zz5 ?_
         refine ex_then ?_
         refine wpc_cond_f rfl ?_
         refine wpc_skip <| ex_block <| ex_then <| wpc_region <| wpl_q (q_pure rfl) rfl ?_
         refine wpl_q (q_addN (b := 1) rfl rfl zz2) rfl ?_
         refine wpl_q (q_pure rfl) rfl <| wpl_nil ?_
         refine ex_again ⟨i + 1, ⟨zz13, fun j hj => zz43⟩⟩ ?_ ?_ ?_
         ·
          exact zz10
         ·
          exact fun w h => h.sub SubC.h .nil
         ·
          (show hs.length - (i + 1) < hs.length - i); omega
     ·
      simp only [decide_eq_false_iff_not] at hc20
      refine wpc_exit ?_
      refine ex_then_exit ?_
      refine ex_then_exit ?_
      refine ex_block_hit ?_
      refine ex_then <| wpc_seq <| wpc_seq <| wpc_region <| wpl_q (q_field Tryd.underlying29 rfl Tryd.ti27 rfl rfl _ rfl) rfl <| wpl_q (q_ld Tryd.underlying27 rfl rfl rfl) rfl ?_
      refine wpl_q (q_lenW Tryd.underlying27 rfl zz4) rfl ?_
      refine wpl_q (q_pure rfl) rfl <| wpl_nil <| ex_then ?_
      refine wpc_cond rfl (fun hc59 => ?_) (fun hc59 => ?_)
      ·
       simp only [decide_eq_true_eq] at hc59
       have hR : chkP ⟨pf, pa, pb, pl, hv, hs⟩ = 8 := chk_none (p := ⟨pf, pa, pb, pl, hv, hs⟩) hn30 hpx (by show hs.length = 0; omega)
       refine wpc_seq <| wpc_region <| wpl_q (q_pure rfl) rfl <| wpl_nil <| ex_then <| wpc_ret ?_
       refine ex_then_ret ?_
       refine ret1 (.inl rfl) rfl rfl ?_
       exact fun w h => ⟨by rw [hR], h.below⟩
      ·
       simp only [decide_eq_false_iff_not] at hc59
       have hR : chkP ⟨pf, pa, pb, pl, hv, hs⟩ = 0 := chk_ok (p := ⟨pf, pa, pb, pl, hv, hs⟩) hn30 hpx (by show ¬ hs.length = 0; omega) (fun j hj => hi1 j (by have hj : j < hs.length := hj; omega))
       refine wpc_skip <| ex_then <| wpc_seq <| wpc_region <| wpl_q (q_pure rfl) rfl <| wpl_nil <| ex_then <| wpc_ret ?_
       refine ret1 (.inl rfl) rfl rfl ?_
       exact fun w h => ⟨by rw [hR], h.below⟩
end Go.Proofs.YtjpfhkjmjnjggaaDoor
namespace Go.Proofs.YtjpfhkjmjnjggaaDoor
open Go Go.PL Go.RowKit
def numK : Nat → Nat → List UInt8
  | 0, _ => []
  | k + 1, n => numK k (n / 256) ++ [of8 ((n % 256 : Nat) : Int)]
theorem numK_len : ∀ (k n : Nat), (numK k n).length = k
  | 0, _ => rfl
  | k + 1, n => by rw [numK, List.length_append, numK_len k]; rfl
theorem of8_mod (n : Nat) : of8 (((n % 256 : Nat) : Nat) : Int) = of8 ((n : Nat) : Int) := by
  apply UInt8.toNat_inj.1
  have h1 := of8_toNat ((n % 256 : Nat) : Int)
  have h2 := of8_toNat ((n : Nat) : Int)
  omega
theorem div_pow (n i : Nat) : n / 2 ^ (8 * (i + 1)) = n / 2 ^ (8 * i) / 256 := by
  rw [Nat.div_div_eq_div_mul, show 8 * (i + 1) = 8 * i + 8 from zz13, Nat.pow_add]
theorem numK_cons : ∀ (k n : Nat), numK (k + 1) n = of8 ((n / 2 ^ (8 * k) : Nat) : Int) :: numK k n
  | 0, n => by
    show [of8 ((n % 256 : Nat) : Int)] = [of8 ((n / 2 ^ 0 : Nat) : Int)]
    rw [of8_mod, Nat.pow_zero, Nat.div_one]
  | k + 1, n => by
    rw [numK, numK_cons k (n / 256), show numK (k + 1) n = numK k (n / 256) ++ [of8 ((n % 256 : Nat) : Int)] from rfl, List.cons_append, Nat.div_div_eq_div_mul, show 256 * 2 ^ (8 * k) = 2 ^ (8 * (k + 1)) by rw [show 8 * (k + 1) = 8 * k + 8 from zz13, Nat.pow_add]; omega]
theorem rep_set (m : Nat) (x : UInt8) (l : List UInt8) : (List.replicate (m + 1) (0 : UInt8) ++ l).set m x = List.replicate m 0 ++ (x :: l) := by
  rw [List.replicate_succ', List.append_assoc, List.set_append_right _ _ zz40]
  simp
def rdO (Ln : List Nat) (w : World) : Rd := fun a => if a.block ∈ Ln then none else w.cell? a
theorem rdO_some {Ln : List Nat} {w : World} {a : Addr} {v : Value} (h : rdO Ln w a = some v) : a.block ∉ Ln ∧ w.cell? a = some v := by
  unfold rdO at h
  split at h
  · cases h
  · exact ⟨‹_›, h⟩
theorem rdo_old {w0 w : World} {Ln : List Nat} {M : List Ent} {S : List Fact} (h : Mem w0 Ln M S w) : ∀ a v, rdO Ln w0 a = some v → w.cell? a = some v := fun a v hv => by
  obtain ⟨h1, h2⟩ := rdO_some hv
  exact h.cell_oldL h2 h1
theorem sr64_8 (m : UInt64) : (sr64 m 8).toNat = m.toNat / 256 := by
  have := m.toNat_lt
  show (UInt64.ofNat (m.toNat / 2 ^ min 8 64)).toNat = _
  rw [UInt64.toNat_ofNat']
  show m.toNat / 256 % 2 ^ 64 = _
  omega
theorem get16 {l : List (List UInt8)} (h : ∀ x ∈ l, x.length = 16) {i : Nat} (hi : i < l.length) : ((v8s l.flatten).drop (i * 16)).take 16 = v8s (l.getD i []) := by rw [v8s_drop, v8s_take, flat_part l h i hi]
theorem flat_take {l : List (List UInt8)} (h : ∀ x ∈ l, x.length = 16) {i : Nat} (hi : i < l.length) : (l.take (i + 1)).flatten = (l.take i).flatten ++ l.getD i [] := by
  rw [List.take_add_one, List.getD_eq_getElem?_getD, List.getElem?_eq_getElem hi, List.flatten_append]
  simp
theorem flat_takeL {l : List (List UInt8)} (h : ∀ x ∈ l, x.length = 16) {i : Nat} (hi : i ≤ l.length) : (l.take i).flatten.length = i * 16 := by
  rw [flat_len _ (fun x hx => h x (List.mem_of_mem_take hx)), List.length_take, Nat.min_eq_left hi]
theorem wordB (z : UInt64) (k : Nat) (w : World)  (hk : k ≤ 8) :
    Calls Tryd.prog 74 [.int .u64 z.toNat, .int .i64 ((k : Nat) : Int)].toArray w (GivesP w (fun v => SV v k) (fun v => v) (fun v => [.row v k 5 1 (v8s (numK k z.toNat))]) (fun _ => [])) := by
  refine enter (m := 26) (R := Mem w [] [] []) Tryd.func74 rfl rfl (Nat.le_of_ble_eq_true rfl) (Mem.start w) ?_
  refine wpc_seq <| wpc_region <| wpl_q (q_pure rfl) rfl <| wpl_nil <| ex_then <| wpc_seq <| wpc_region <| wpl_q (q_pure rfl) rfl ?_
  refine wpl_tp (t_mkW Tryd.underlying32 Tryd.ti5 rfl rfl zz2 zz2 zz2 _ rfl (mk8 _)) rfl (fun b8 p8 => ?_)
  refine wpl_q (q_pure rfl) rfl <| wpl_nil <| ex_then <| wpc_seq <| wpc_seq <| wpc_region <| wpl_q (q_pure rfl) rfl ?_
  refine wpl_q (q_lenW Tryd.underlying32 rfl zz4) rfl ?_
  refine wpl_q (q_pure rfl) rfl <| wpl_nil <| ex_then <| wpc_block ?_
  refine wpc_loopc (ι := { x : Nat × UInt64 // (x.1 ≤ k) ∧ (x.2.toNat = z.toNat / 2 ^ (8 * x.1)) }) [(1, _), (5, _), (10, _)] (fun x Lc => (11, .int .i64 ((x.1.1 : Nat) : Int)) :: (0, .int .u64 (x.1.2.toNat : Int)) :: Lc) (fun x => Mem w [] [.row b8 k 5 1 (v8s (List.replicate (k - x.1.1) 0 ++ numK x.1.1 z.toNat))] []) (fun x => k - x.1.1) ⟨(0, z), ⟨Nat.zero_le _, by rw [Nat.mul_zero, Nat.pow_zero, Nat.div_one]⟩⟩ zz10 ?_ ?_
  ·
   exact fun w h => by
     dsimp only
     rw [numK, List.append_nil]
     exact h
  ·
   rintro ⟨⟨i, m⟩, ⟨hi0, hi1⟩⟩; try dsimp only
   have hi0 : i ≤ k := hi0; have hi1 : m.toNat = z.toNat / 2 ^ (8 * i) := hi1
   refine wpc_seq <| wpc_region <| wpl_q (q_pure rfl) rfl <| wpl_nil <| ex_then <| wpc_seq ?_
   refine wpc_cond rfl (fun hc12 => ?_) (fun hc12 => ?_)
   ·
    simp only [decide_eq_true_eq] at hc12
    have hik : i < k := by omega
    have hrl : (List.replicate (k - i) (0 : UInt8) ++ numK i z.toNat).length = k := by rw [List.length_append, List.length_replicate, numK_len]; omega
    refine wpc_skip <| ex_then <| wpc_seq <| wpc_block <| wpc_seq <| wpc_region <| wpl_q (q_pure rfl) rfl <| wpl_q (q_pure rfl) rfl <| wpl_nil <| ex_then <| wpc_seq <| wpc_region ?_
    refine wpl_q (q_pure rfl) rfl <| wpl_q (q_pure rfl) rfl ?_
    refine wpl_q (q_subN (b := 1) rfl rfl zz13 zz2) rfl ?_
    refine wpl_q (q_pure rfl) rfl ?_
    refine wpl_q (q_subN rfl rfl zz13 zz2) rfl ?_
    refine wpl_q (q_pure rfl) rfl <| wpl_q (q8_conv Tryd.underlying22 Tryd.underlying5 rfl) rfl ?_
    refine wpl_q (q_idxW1 Tryd.underlying32 Tryd.ti5 rfl rfl zz4 zz2) rfl ?_
    refine wpl_t0 (t_stW Tryd.ti5 rfl rfl rfl (by rw [v8s_length, hrl]; omega) _ ((v8s_set _).trans (congrArg v8s (show _ = List.replicate (k - (i + 1)) (0 : UInt8) ++ numK (i + 1) z.toNat by rw [numK_cons, ← hi1, show k - 1 - i = k - (i + 1) from zz13, show k - i = k - (i + 1) + 1 from zz13, rep_set])))) (fun _ => ?_)
    refine wpl_nil <| ex_then <| wpc_region <| wpl_q (q_pure rfl) rfl ?_
    refine wpl_q (q64_shr rfl rfl zz33 8 rfl) rfl ?_
    refine wpl_q (q_pure rfl) rfl <| wpl_nil <| ex_block <| ex_then <| wpc_region ?_
    refine wpl_q (q_addN (b := 1) rfl rfl zz2) rfl ?_
    refine wpl_q (q_pure rfl) rfl <| wpl_nil ?_
    refine ex_again ⟨(i + 1, sr64 m 8), ⟨by dsimp only; omega, by rw [div_pow, ← hi1]; exact sr64_8 m⟩⟩ ?_ ?_ ?_
    ·
     exact zz10
    ·
     exact fun w h => h
    ·
     (show k - (i + 1) < k - i); omega
   ·
    simp only [decide_eq_false_iff_not] at hc12
    obtain rfl : i = k := by omega
    rw [Nat.sub_self, List.replicate_zero, List.nil_append]
    refine wpc_exit ?_
    refine ex_then_exit ?_
    refine ex_then_exit ?_
    refine ex_block_hit ?_
    refine ex_then <| wpc_seq <| wpc_region <| wpl_q (q_pure rfl) rfl <| wpl_q (q_pure rfl) rfl <| wpl_nil <| ex_then <| wpc_ret ?_
    refine ret1 (.inl rfl) rfl rfl ?_
    exact fun w h => ⟨b8, p8, rfl, h.below, h.made SubC.h .nil⟩
theorem shorts (cv : Value) (l : List (List UInt8)) (w : World) (hcv : Seen w.cell? cv l.length 16 (v8s l.flatten)) (hll : ∀ x ∈ l, x.length = 16) (hlim : l.length ≤ 1000) :
    Calls Tryd.prog 77 [cv].toArray w (GivesP w (fun v => SV v (l.length * 16)) (fun v => v) (fun v => [.row v (l.length * 16) 5 1 (v8s l.flatten)]) (fun _ => [])) := by
  have scv := hcv.sv
  have lcv := scv.le
  simp only [maxLen] at lcv
  refine enter (m := 17) (R := Mem w [] [] []) Tryd.func77 rfl rfl (Nat.le_of_ble_eq_true rfl) (Mem.start w) ?_
  refine wpc_seq <| wpc_region <| wpl_q (q_pure rfl) rfl <| wpl_nil <| ex_then <| wpc_seq <| wpc_region <| wpl_q (q_pure rfl) rfl <| wpl_nil <| ex_then <| wpc_seq <| wpc_seq ?_
  refine wpc_region <| wpl_q (q_pure rfl) rfl ?_
  refine wpl_q (q_lenW Tryd.underlying64 rfl zz4) rfl ?_
  refine wpl_q (q_pure rfl) rfl <| wpl_nil <| ex_then <| wpc_block ?_
  refine wpc_loopc (ι := { x : Nat × Value // (x.1 ≤ l.length) ∧ (SV x.2 (x.1 * 16)) }) [(6, _), (7, _)] (fun x Lc => (8, .int .i64 ((x.1.1 : Nat) : Int)) :: (3, x.1.2) :: Lc) (fun x => Mem w [] [.row x.1.2 (x.1.1 * 16) 5 1 (v8s (l.take x.1.1).flatten)] []) (fun x => l.length - x.1.1) ⟨(0, .slice none 0 0), ⟨Nat.zero_le _, SV.nil⟩⟩ zz10 ?_ ?_
  ·
   exact fun w h => by
     dsimp only
     rw [List.take_zero]
     exact h.nilRow 5 1
  ·
   rintro ⟨⟨i, v⟩, ⟨hi0, hi1⟩⟩; try dsimp only
   have hi0 : i ≤ l.length := hi0; have hi1 : SV v (i * 16) := hi1
   refine wpc_seq <| wpc_region <| wpl_q (q_pure rfl) rfl <| wpl_nil <| ex_then <| wpc_seq ?_
   refine wpc_cond rfl (fun hc9 => ?_) (fun hc9 => ?_)
   ·
    simp only [decide_eq_true_eq] at hc9
    have hil : i < l.length := by omega
    have hgl : (l.getD i []).length = 16 := getD_mem_len hll hil
    refine wpc_skip <| ex_then <| wpc_seq <| wpc_block <| wpc_seq <| wpc_region ?_
    refine wpl_q (q_idxW Tryd.underlying64 Tryd.ti61 rfl rfl zz4 zz2) rfl ?_
    refine wpl_q (q_ldWN Tryd.underlying61 rfl Tryd.ti61 rfl (fun w h => zz9) (v8s (l.getD i [])) (get16 hll hil) (by rw [v8s_length]; exact hgl)) rfl ?_
    refine wpl_t (t_alloc Tryd.ti61 (v8s (List.replicate 16 0)) rfl) rfl (fun b5 => ?_)
    refine wpl_t0 (t_stA Tryd.ti61 rfl rfl (by rw [v8s_length]; exact hgl) (v8s_one _) zz44) (fun _ => ?_)
    refine wpl_nil <| ex_then <| wpc_region <| wpl_q (q_pure rfl) rfl <| wpl_q (q_arAll Tryd.underlying61 Tryd.ti5 rfl rfl) rfl ?_
    refine wpl_tp (t_apW Tryd.underlying32 Tryd.ti5 rfl zz17 rfl rfl (fun w h => h.seenA zz17 (by rw [v8s_length, hgl])) (v8s_one _) zz2 zz2 (v8s (l.take (i + 1)).flatten) (by rw [flat_take hll hil]; exact (v8s_append _ _).symm)) rfl (fun b14 p14 => ?_)
    refine wpl_q (q_pure rfl) rfl <| wpl_nil <| ex_block <| ex_then <| wpc_region ?_
    refine wpl_q (q_addN (b := 1) rfl rfl zz2) rfl ?_
    refine wpl_q (q_pure rfl) rfl <| wpl_nil ?_
    refine ex_again ⟨(i + 1, b14), ⟨by dsimp only; omega, by rw [Nat.add_mul]; exact p14⟩⟩ ?_ ?_ ?_
    ·
     exact zz10
    ·
     exact fun w h => by
       dsimp only
       rw [Nat.add_mul]
       exact h.sel
    ·
     (show l.length - (i + 1) < l.length - i); omega
   ·
    simp only [decide_eq_false_iff_not] at hc9
    obtain rfl : i = l.length := by omega
    rw [List.take_length]
    refine wpc_exit ?_
    refine ex_then_exit ?_
    refine ex_then_exit ?_
    refine ex_block_hit ?_
    refine ex_then <| wpc_seq <| wpc_region <| wpl_q (q_pure rfl) rfl <| wpl_q (q_pure rfl) rfl <| wpl_nil <| ex_then <| wpc_ret ?_
    refine ret1 (.inl rfl) rfl rfl ?_
    exact fun w h => ⟨v, hi1, rfl, h.below, h.made SubC.h .nil⟩
end Go.Proofs.YtjpfhkjmjnjggaaDoor
namespace Go.Proofs.YtjpfhkjmjnjggaaDoor
open Go Go.PL Go.RowKit
theorem mem_trim0 {w0 w : World} {Ln : List Nat} {M : List Ent} {v : Value} {m : Nat} {e : TypeId} {sz : Nat} {xs : List Value} (h : Mem w0 Ln (.row v m e sz xs :: M) [] w) (hm : 0 < m) : Mem w0 Ln (.row (slv v 0 0 sz) 0 e sz [] :: M) [] w := by
  have ho := h.own _ (List.mem_cons_self ..)
  obtain ⟨hl, ho | ⟨g, cap, cur, rfl, hb, hg, hn, hc, hs, ht⟩⟩ := ho
  · omega
  have e1 : slv (.slice (some ⟨g, 0, none⟩) m cap) 0 0 sz = .slice (some ⟨g, 0, none⟩) 0 cap := by simp [slv, sliced]; intro _; rfl
  rw [e1]
  refine ⟨h.os, h.tape, h.output, h.size, h.old, fun e he => ?_, fun e he => ?_, ?_, zz40⟩
  · rcases List.mem_cons.1 he with rfl | he
    · exact ⟨zz40, .inr ⟨g, cap, cur, rfl, hb, hg, Nat.zero_le _, hc, hs, zz40⟩⟩
    · exact h.own _ (List.mem_cons_of_mem _ he)
  · rcases List.mem_cons.1 he with rfl | he
    · exact fun k hk => h.new (.row (.slice (some ⟨g, 0, none⟩) m cap) m e sz xs) (List.mem_cons_self ..) k hk
    · exact h.new _ (List.mem_cons_of_mem _ he)
  · have := h.apart
    rw [List.pairwise_cons] at this ⊢
    exact ⟨fun f hf k hk => this.1 f hf k hk, this.2⟩
def PartsK (r : Rd) (v : Value) (ps : List (Value × List UInt8)) : Prop := Seen r v ps.length 1 (ps.map Prod.fst) ∧ ∀ q ∈ ps, Seen r q.1 q.2.length 1 (v8s q.2)
def flatK (ps : List (Value × List UInt8)) (i : Nat) : List UInt8 := ((ps.take i).map Prod.snd).flatten
theorem flatK_succ (ps : List (Value × List UInt8)) (i : Nat) (h : i < ps.length) : flatK ps (i + 1) = flatK ps i ++ (ps.getD i (undef, [])).2 := by
  unfold flatK
  rw [List.take_add_one, List.getD_eq_getElem?_getD, List.getElem?_eq_getElem h, List.map_append, List.flatten_append]
  show _ ++ ([(ps[i]).2] : List (List UInt8)).flatten = _ ++ (ps[i]).2
  simp
theorem flatK_le (ps : List (Value × List UInt8)) (i : Nat) (h : i < ps.length) : (flatK ps i).length + (ps.getD i (undef, [])).2.length ≤ (flatK ps ps.length).length := by
  have e : flatK ps ps.length = flatK ps (i + 1) ++ ((ps.drop (i + 1)).map Prod.snd).flatten := by
    unfold flatK
    rw [← List.flatten_append, ← List.map_append, List.take_append_drop, List.take_length]
  rw [e, flatK_succ ps i h, List.length_append, List.length_append]; omega
theorem flatK_2 (a b : Value × List UInt8) : flatK [a, b] [a, b].length = a.2 ++ b.2 := by simp [flatK]
theorem getD_memK (ps : List (Value × List UInt8)) (i : Nat) (h : i < ps.length) : ps.getD i (undef, []) ∈ ps := by
  rw [List.getD_eq_getElem?_getD, List.getElem?_eq_getElem h]; exact List.getElem_mem h
theorem fst_get (ps : List (Value × List UInt8)) (i : Nat) (h : i < ps.length) : (ps.map Prod.fst)[i]? = some (ps.getD i (undef, [])).1 := by
  rw [List.getElem?_map, List.getD_eq_getElem?_getD, List.getElem?_eq_getElem h]; rfl
theorem grow (n : Nat) (w : World)  (hn : n ≤ 100000) :
    Calls Tryd.prog 109 [.slice none 0 0, .int .i64 ((n : Nat) : Int)].toArray w (GivesP w (fun v => SV v 0) (fun v => v) (fun v => [.row v 0 5 1 []]) (fun _ => [])) := by
  refine enter (m := 27) (R := Mem w [] [] []) Tryd.func109 rfl rfl (Nat.le_of_ble_eq_true rfl) (Mem.start w) ?_
  refine wpc_seq <| wpc_region <| wpl_q (q_pure rfl) rfl <| wpl_nil <| ex_then <| wpc_seq <| wpc_seq <| wpc_region <| wpl_q (q_pure rfl) rfl <| wpl_q (q_pure rfl) rfl <| wpl_nil <| ex_then ?_
  refine wpc_cond rfl (fun hc6 => ?_) (fun hc6 => ?_)
  ·
   simp only [decide_eq_true_eq] at hc6; omega
  ·
   refine wpc_skip <| ex_then <| wpc_seq <| wpc_seq <| wpc_region <| wpl_q (q_pure rfl) rfl <| wpl_q (q_pure rfl) rfl <| wpl_q (q_capW Tryd.underlying32 rfl) rfl <| wpl_q (q_pure rfl) rfl ?_
   refine wpl_q (q_lenW Tryd.underlying32 rfl zz4) rfl ?_
   first | refine wpl_q (qop_eq (q_pure rfl) (congrArg (Value.int .i64) (wk_i64 zz13 zz13))) rfl ?_ | refine wpl_q (q_pure rfl) rfl ?_
   first | refine wpl_q (qop_eq (q_pure rfl) (congrArg (Value.int .i64) (wk_i64 zz13 zz13))) rfl ?_ | refine wpl_q (q_pure rfl) rfl ?_
   refine wpl_q (q_pure rfl) rfl ?_
   refine wpl_re 1 rfl (show _ = Value.int .i64 ((n : Nat) : Int) from congrArg (Value.int .i64) zz13) ?_
   refine wpl_nil <| ex_then <| wpc_seq <| wpc_region <| wpl_q (q_pure rfl) rfl <| wpl_q (q_pure rfl) rfl <| wpl_nil <| ex_then ?_
   refine wpc_cond rfl (fun hc16 => ?_) (fun hc16 => ?_)
   ·
    simp only [decide_eq_true_eq, gt_iff_lt] at hc16
    have h0 : 0 < n := by omega
    refine wpc_region <| wpl_q (q_pure rfl) rfl <| wpl_q (q_pure rfl) rfl <| wpl_q (q_capW Tryd.underlying32 rfl) rfl ?_
    refine wpl_q (q_slWh Tryd.underlying32 Tryd.ti5 rfl rfl zz4 zz13) rfl ?_
    refine wpl_q (q_pure rfl) rfl ?_
    refine wpl_tp (t_apZ Tryd.underlying32 Tryd.underlying3 Tryd.ti5 rfl zz17 rfl rfl h0 (by simp only [maxLen]; omega) zz13 _ rfl) rfl (fun b22 p22 => ?_)
    refine wpl_q (q_pure rfl) rfl ?_
    refine wpl_q (q_lenW Tryd.underlying32 rfl zz4) rfl ?_
    refine wpl_q (q_slWh Tryd.underlying32 Tryd.ti5 rfl rfl zz4 zz13) rfl ?_
    refine wpl_q (q_pure rfl) rfl <| wpl_nil <| ex_then <| wpc_seq <| wpc_region <| wpl_q (q_pure rfl) rfl <| wpl_q (q_pure rfl) rfl <| wpl_nil <| ex_then <| wpc_ret ?_
    refine ret1 (.inl rfl) rfl rfl ?_
    exact fun w h => ⟨slv b22 0 0 1, SV.slv (l := 0) (k := 0) (sz := 1) p22 zz13 zz13, rfl, h.below, (mem_trim0 h h0).made SubC.h .nil⟩
   ·
    simp only [decide_eq_false_iff_not, gt_iff_lt] at hc16
    refine wpc_skip <| ex_then <| wpc_seq <| wpc_region <| wpl_q (q_pure rfl) rfl <| wpl_q (q_pure rfl) rfl <| wpl_nil <| ex_then <| wpc_ret ?_
    refine ret1 (.inl rfl) rfl rfl ?_
    exact fun w h => ⟨.slice none 0 0, SV.nil, rfl, h.below, (h.nilRow 5 1).made zz8 .nil⟩
theorem concat (pv : Value) (ps : List (Value × List UInt8)) (w : World) (hP : PartsK w.cell? pv ps) (hlim : (flatK ps ps.length).length ≤ 100000) :
    Calls Tryd.prog 92 [pv].toArray w (GivesP w (fun v => SV v (flatK ps ps.length).length) (fun v => v) (fun v => [.row v (flatK ps ps.length).length 5 1 (v8s (flatK ps ps.length))]) (fun _ => [])) := by
  have spv := hP.1.sv
  have lpv := spv.le
  simp only [maxLen] at lpv
  refine enter (m := 36) (R := Mem w [] [] []) Tryd.func92 rfl rfl (Nat.le_of_ble_eq_true rfl) (Mem.start w) ?_
  refine wpc_seq <| wpc_region <| wpl_q (q_pure rfl) rfl <| wpl_nil <| ex_then <| wpc_seq <| wpc_region <| wpl_q (q_pure rfl) rfl ?_
  first | refine wpl_re 3 rfl (congrArg (fun n : Nat => Value.int .i64 (n : Int)) hfs) ?_ | skip
  refine wpl_nil <| ex_then <| wpc_seq <| wpc_seq <| wpc_region <| wpl_q (q_pure rfl) rfl ?_
  refine wpl_q (q_lenW Tryd.underlying160 rfl zz4) rfl ?_
  refine wpl_q (q_pure rfl) rfl <| wpl_nil <| ex_then <| wpc_block ?_
  refine wpc_loopc (ι := { x : Nat // (x ≤ ps.length) }) [(0, _), (9, _), (10, _)] (fun x Lc => (11, .int .i64 ((x.1 : Nat) : Int)) :: (3, .int .i64 (((flatK ps x.1).length : Nat) : Int)) :: Lc) (fun x => Mem w [] [] []) (fun x => ps.length - x.1) ⟨0, zz35⟩ zz10 ?_ ?_
  ·
   exact fun w h => h
  ·
   rintro ⟨i, hi0⟩; try dsimp only
   have hi0 : i ≤ ps.length := hi0
   refine wpc_seq <| wpc_region <| wpl_q (q_pure rfl) rfl <| wpl_nil <| ex_then <| wpc_seq ?_
   refine wpc_cond rfl (fun hc12 => ?_) (fun hc12 => ?_)
   ·
    simp only [decide_eq_true_eq] at hc12
    have hi : i < ps.length := by omega
    have hle := flatK_le ps i hi
    have hsq := hP.2 _ (getD_memK ps i hi)
    have ssq := hsq.sv
    have hfs : (flatK ps i).length + (ps.getD i (undef, [])).2.length = (flatK ps (i + 1)).length := by rw [flatK_succ ps i hi, List.length_append]
    refine wpc_skip <| ex_then <| wpc_seq <| wpc_block <| wpc_seq <| wpc_region ?_
    refine wpl_q (q_idxW1 Tryd.underlying160 Tryd.ti32 rfl rfl zz4 zz2) rfl ?_
    refine wpl_q (q_ldW Tryd.underlying32 rfl rfl (fun w h => h.seen_old hP.1) (fst_get ps i hi)) rfl ?_
    refine wpl_q (q_pure rfl) rfl <| wpl_nil <| ex_then <| wpc_seq <| wpc_region <| wpl_q (q_pure rfl) rfl <| wpl_q (q_pure rfl) rfl ?_
    refine wpl_q (q_lenW Tryd.underlying32 rfl zz4) rfl ?_
    refine wpl_q (q_addN rfl rfl zz2) rfl ?_
    refine wpl_q (q_pure rfl) rfl ?_
    first | refine wpl_re 3 rfl (congrArg (fun n : Nat => Value.int .i64 (n : Int)) hfs) ?_ | skip
    refine wpl_nil <| ex_then <| wpc_seq <| wpc_region <| wpl_q (q_pure rfl) rfl <| wpl_q (q_pure rfl) rfl <| wpl_nil <| ex_then ?_
    refine wpc_cond rfl (fun hc20 => ?_) (fun hc20 => ?_)
    ·
     simp only [decide_eq_true_eq] at hc20; omega
    ·
     refine wpc_skip <| ex_block <| ex_then <| wpc_region ?_
     refine wpl_q (q_addN (b := 1) rfl rfl zz2) rfl ?_
     refine wpl_q (q_pure rfl) rfl <| wpl_nil ?_
     refine ex_again ⟨i + 1, zz35⟩ ?_ ?_ ?_
     ·
      exact zz10
     ·
      exact fun w h => by first | exact h | exact h.sub SubC.h SubC.h | exact h.sub zz8 zz8
     ·
      (show ps.length - (i + 1) < ps.length - i); omega
   ·
    simp only [decide_eq_false_iff_not] at hc12
    obtain rfl : i = ps.length := by omega
    refine wpc_exit ?_
    refine ex_then_exit ?_
    refine ex_then_exit ?_
    refine ex_block_hit ?_
    refine ex_then <| wpc_seq <| wpc_region <| wpl_q (q_pure rfl) rfl ?_
    refine wpl_tp (t_callP1 Tryd.hb109 rfl fun w h => grow _ w hlim) rfl (fun b24 p24 => ?_)
    refine wpl_q (q_pure rfl) rfl <| wpl_nil <| ex_then <| wpc_seq <| wpc_seq <| wpc_region <| wpl_q (q_pure rfl) rfl ?_
    refine wpl_q (q_lenW Tryd.underlying160 rfl zz4) rfl ?_
    refine wpl_q (q_pure rfl) rfl <| wpl_nil <| ex_then <| wpc_block ?_
    refine wpc_loopc (ι := { x : Nat × Value // (x.1 ≤ ps.length) ∧ (SV x.2 (flatK ps x.1).length) }) [(25, _), (26, _)] (fun x Lc => (27, .int .i64 ((x.1.1 : Nat) : Int)) :: (6, x.1.2) :: Lc) (fun x => Mem w [] [.row x.1.2 (flatK ps x.1.1).length 5 1 (v8s (flatK ps x.1.1))] []) (fun x => ps.length - x.1.1) ⟨(0, b24), ⟨Nat.zero_le _, p24⟩⟩ zz10 ?_ ?_
    ·
     exact fun w h => h
    ·
     rintro ⟨⟨i, v⟩, ⟨hi0, hi1⟩⟩; try dsimp only
     have hi0 : i ≤ ps.length := hi0; have hi1 : SV v (flatK ps i).length := hi1
     refine wpc_seq <| wpc_region <| wpl_q (q_pure rfl) rfl <| wpl_nil <| ex_then <| wpc_seq ?_
     refine wpc_cond rfl (fun hc28 => ?_) (fun hc28 => ?_)
     ·
      simp only [decide_eq_true_eq] at hc28
      have hi : i < ps.length := by omega
      have hle := flatK_le ps i hi
      have hsq := hP.2 _ (getD_memK ps i hi)
      have ssq := hsq.sv
      refine wpc_skip <| ex_then <| wpc_seq <| wpc_block <| wpc_seq <| wpc_region ?_
      refine wpl_q (q_idxW1 Tryd.underlying160 Tryd.ti32 rfl rfl zz4 zz2) rfl ?_
      refine wpl_q (q_ldW Tryd.underlying32 rfl rfl (fun w h => h.seen_old hP.1) (fst_get ps i hi)) rfl ?_
      refine wpl_q (q_pure rfl) rfl <| wpl_nil <| ex_then <| wpc_region <| wpl_q (q_pure rfl) rfl <| wpl_q (q_pure rfl) rfl ?_
      refine wpl_tp (t_apW Tryd.underlying32 Tryd.ti5 rfl zz17 rfl rfl (fun w h => h.seen_old hsq) (v8s_one _) zz2 zz2 (v8s (flatK ps i ++ (ps.getD i (undef, [])).2)) (by rw [v8s_append])) rfl (fun b33 p33 => ?_)
      refine wpl_q (q_pure rfl) rfl <| wpl_nil <| ex_block <| ex_then <| wpc_region ?_
      refine wpl_q (q_addN (b := 1) rfl rfl zz2) rfl ?_
      refine wpl_q (q_pure rfl) rfl <| wpl_nil ?_
      refine ex_again ⟨(i + 1, b33), ⟨zz13, by rw [flatK_succ ps i hi, List.length_append]; exact p33⟩⟩ ?_ ?_ ?_
      ·
       exact zz10
      ·
       exact fun w h => by dsimp only; rw [flatK_succ ps i hi, List.length_append]; exact h.sub SubC.h SubC.h
      ·
       (show ps.length - (i + 1) < ps.length - i); omega
     ·
      simp only [decide_eq_false_iff_not] at hc28
      obtain rfl : i = ps.length := by omega
      refine wpc_exit ?_
      refine ex_then_exit ?_
      refine ex_then_exit ?_
      refine ex_block_hit ?_
      refine ex_then <| wpc_seq <| wpc_region <| wpl_q (q_pure rfl) rfl <| wpl_q (q_pure rfl) rfl <| wpl_nil <| ex_then <| wpc_ret ?_
      refine ret1 (.inl rfl) rfl rfl ?_
      exact fun w h => ⟨v, hi1, rfl, h.below, h.made SubC.h .nil⟩
theorem joinB (pv : Value) (ps : List (Value × List UInt8)) (w : World) (hP : PartsK w.cell? pv ps) (hlim : (flatK ps ps.length).length ≤ 100000) :
    Calls Tryd.prog 73 [pv].toArray w (GivesP w (fun v => SV v (flatK ps ps.length).length) (fun v => v) (fun v => [.row v (flatK ps ps.length).length 5 1 (v8s (flatK ps ps.length))]) (fun _ => [])) := by
  refine enter (m := 5) (R := Mem w [] [] []) Tryd.func73 rfl rfl (Nat.le_of_ble_eq_true rfl) (Mem.start w) ?_
  refine wpc_seq <| wpc_region <| wpl_q (q_pure rfl) rfl <| wpl_nil <| ex_then <| wpc_seq <| wpc_region <| wpl_q (q_pure rfl) rfl ?_
  refine wpl_tp (t_callP1 Tryd.hb92 rfl fun w h => concat pv ps w ⟨h.seen_old hP.1, fun q hq => h.seen_old (hP.2 q hq)⟩ hlim) rfl (fun b4 p4 => ?_)
  refine wpl_q (q_pure rfl) rfl <| wpl_nil <| ex_then <| wpc_ret ?_
  refine ret1 (.inl rfl) rfl rfl ?_
  exact fun w h => ⟨b4, p4, rfl, h.below, h.made SubC.h .nil⟩
end Go.Proofs.YtjpfhkjmjnjggaaDoor
namespace Go.Proofs.YtjpfhkjmjnjggaaDoor
open Go Go.PL Go.RowKit
theorem get_one {L : Slots} {d : Nat} {v : Value} (h : get L d = some v) : ∀ t u, get [(d, v)] t = some u → get L t = some u := by
  intro t u ht
  rw [get_cons] at ht
  split at ht
  · rename_i e
    cases ht
    rw [← e]; exact h
  · cases ht
theorem seenR {w0 w : World} {Ln : List Nat} {M : List Ent} {S : List Fact} (h : Mem w0 Ln M S w) {v : Value} {m : Nat} {e : TypeId} {sz : Nat} {xs : List Value} (hm : Ent.row v m e sz xs ∈ M) : Seen w.cell? v m sz xs := h.seen_row hm
theorem word32 (x : UInt32) (w : World) : Calls Tryd.prog 74 [.int .u64 ((of64 ((x.toNat : Nat) : Int)).toNat : Int), .int .i64 4].toArray w (GivesP w (fun v => SV v 4) (fun v => v) (fun v => [.row v 4 5 1 (v8s (numK 4 x.toNat))]) (fun _ => [])) := by
  have q := wordB (of64 ((x.toNat : Nat) : Int)) 4 w zz17
  have e : (of64 ((x.toNat : Nat) : Int)).toNat = x.toNat := of64_nat _ (by have := x.toNat_lt; omega)
  clear q
  generalize of64 ((x.toNat : Nat) : Int) = z at e ⊢
  have q := wordB z 4 w zz17
  rw [e] at q ⊢
  exact q
def headB (h : Hop) : List UInt8 := numK 4 h.to.toNat ++ (numK 4 h.sy.toNat ++ ([h.cnt, h.fl] ++ (h.root.1 ++ [of8 h.ht])))
theorem headFlat (h : Hop) (a b c d e : Value) : flatK [(a, numK 4 h.to.toNat), (b, numK 4 h.sy.toNat), (c, [h.cnt, h.fl]), (d, [h.root.1].flatten), (e, [of8 h.ht])] [(a, numK 4 h.to.toNat), (b, numK 4 h.sy.toNat), (c, [h.cnt, h.fl]), (d, [h.root.1].flatten), (e, [of8 h.ht])].length = headB h := by simp [flatK, headB]
theorem headB_len (h : Hop) : (headB h).length = 27 := by simp [headB, numK_len, h.root.2]
theorem head (hp : Hop) (w : World) (hsv : hp.sv)  :
    Calls Tryd.prog 75 [.agg hp.c.toArray].toArray w (GivesP w (fun v => SV v 27) (fun v => v) (fun v => [.row v 27 5 1 (v8s (headB hp))]) (fun _ => [])) := by
  haveI := hsv.one
  refine enter (m := 28) (R := Mem w [] [] []) Tryd.func75 rfl rfl (Nat.le_of_ble_eq_true rfl) (Mem.start w) ?_
  refine wpc_seq <| wpc_region ?_
  refine wpl_t (t_box rfl hp.c rfl) rfl (fun b1 => ?_)
  refine wpl_q (q_pure rfl) rfl <| wpl_nil <| ex_then <| wpc_seq ?_
  refine wpc_draw 99 zz5 (fun _ h => h.drew) ?_
  refine wpd_p 0 rfl zz5 trivial (q_field Tryd.underlying68 rfl Tryd.ti49 rfl rfl _ rfl) rfl sk0 ?_
  refine wpd_q 1 rfl zz5 trivial (q_ld Tryd.underlying49 rfl rfl hp.c_to) rfl (fun _ h => h) ?_
  refine wpd_p 2 rfl zz5 trivial (q64_conv Tryd.underlying49 Tryd.underlying22 rfl) rfl sk0 ?_
  refine wpd_p 4 rfl zz5 trivial (q_field Tryd.underlying68 rfl Tryd.ti49 rfl rfl _ rfl) rfl sk0 ?_
  refine wpd_q 5 rfl zz5 trivial (q_ld Tryd.underlying49 rfl rfl hp.c_sy) rfl (fun _ h => h) ?_
  refine wpd_p 6 rfl zz5 trivial (q64_conv Tryd.underlying49 Tryd.underlying22 rfl) rfl sk0 ?_
  refine wpd_p 8 rfl zz5 trivial (q_field Tryd.underlying68 rfl Tryd.ti5 rfl rfl _ rfl) rfl sk0 ?_
  refine wpd_q 9 rfl zz5 trivial (q_ld Tryd.underlying5 rfl rfl hp.c_cnt) rfl (fun _ h => h) ?_
  refine wpd_p 10 rfl zz5 trivial (q_field Tryd.underlying68 rfl Tryd.ti5 rfl rfl _ rfl) rfl sk0 ?_
  refine wpd_q 11 rfl zz5 trivial (q_ld Tryd.underlying5 rfl rfl hp.c_fl) rfl (fun _ h => h) ?_
  refine wpd_p 13 rfl zz5 trivial (q_field Tryd.underlying68 rfl Tryd.ti63 rfl rfl _ rfl) rfl sk0 ?_
  refine wpd_p 14 rfl zz5 trivial (q_field Tryd.underlying63 rfl Tryd.ti61 rfl rfl _ rfl) rfl sk0 ?_
  refine wpd_q 15 rfl zz5 trivial (q_ldP Tryd.underlying61 rfl Tryd.ti61 rfl (v8s hp.root.1) hp.c_root (S16.len _)) rfl (fun _ h => h) ?_
  refine wpd_p 18 rfl zz5 trivial (q_field Tryd.underlying68 rfl Tryd.ti63 rfl rfl _ rfl) rfl sk0 ?_
  refine wpd_p 19 rfl zz5 trivial (q_field Tryd.underlying63 rfl Tryd.ti3 rfl rfl _ rfl) rfl sk0 ?_
  refine wpd_q 20 rfl zz5 trivial (q_ld Tryd.underlying3 rfl rfl hp.c_ht) rfl (fun _ h => h) ?_
  refine wpd_p 21 rfl zz5 trivial (q8_conv Tryd.underlying3 Tryd.underlying5 rfl) rfl sk0 ?_
  refine wpd_makers (lf := #[true, true, true, true, true, true, true, true, true, true, true, true, true, true, true, true, true, true, true, true, true, true, true, false, false, false]) [0, 1, 2, 4, 5, 6, 8, 9, 10, 11, 13, 14, 15, 18, 19, 20, 21] [⟨3, 6, [], (fun _ v => SV v 4), (fun _ v => .row v 4 5 1 (v8s (numK 4 hp.to.toNat)))⟩, ⟨7, 10, [], (fun _ v => SV v 4), (fun _ v => .row v 4 5 1 (v8s (numK 4 hp.sy.toNat)))⟩, ⟨12, 15, [], (fun _ v => SV v 2), (fun _ v => .row v 2 5 1 (v8s [hp.cnt, hp.fl]))⟩, ⟨16, 19, [], (fun _ v => SV v 1), (fun _ v => .row v 1 61 16 (v8s [hp.root.1].flatten))⟩, ⟨17, 20, [16], (fun _ v => SV v 16), (fun _ v => .row v 16 5 1 (v8s [hp.root.1].flatten))⟩, ⟨22, 25, [], (fun _ v => SV v 1), (fun _ v => .row v 1 5 1 (v8s [of8 hp.ht]))⟩] 6 rfl zz5 zz27 (fun σ w h => h.sub (sub_app _ _) (Sub.refl _)) ?_ ?_
  ·
   intro m hm o ho σ hσ hd
   simp only [List.mem_cons, List.not_mem_nil, or_false] at hm
   rcases hm with rfl | rfl | rfl | rfl | rfl | rfl
   ·
    obtain rfl := Option.some.inj ho
    show TOpP _ _ _ _ _ _ Value (fun v => SV v 4) (fun v => v) (fun v => Mem _ _ (.row v 4 5 1 (v8s (numK 4 hp.to.toNat)) :: _) _)
    exact TOpP.weakL (fun t u hh => slots_base t hh _ zz27) (t_callP1 Tryd.hb74 rfl fun w h => word32 hp.to w)
   ·
    obtain rfl := Option.some.inj ho
    show TOpP _ _ _ _ _ _ Value (fun v => SV v 4) (fun v => v) (fun v => Mem _ _ (.row v 4 5 1 (v8s (numK 4 hp.sy.toNat)) :: _) _)
    exact TOpP.weakL (fun t u hh => slots_base t hh _ zz27) (t_callP1 Tryd.hb74 rfl fun w h => word32 hp.sy w)
   ·
    obtain rfl := Option.some.inj ho
    show TOpP _ _ _ _ _ _ Value (fun v => SV v 2) (fun v => v) (fun v => Mem _ _ (.row v 2 5 1 (v8s [hp.cnt, hp.fl]) :: _) _)
    exact TOpP.weakL (fun t u hh => slots_base t hh _ zz27) (t_bsV (v8s [hp.cnt, hp.fl]) Tryd.underlying32 Tryd.ti5 rfl rfl zz17 zz17 rfl (v8s_one _))
   ·
    obtain rfl := Option.some.inj ho
    show TOpP _ _ _ _ _ _ Value (fun v => SV v 1) (fun v => v) (fun v => Mem _ _ (.row v 1 61 16 (v8s [hp.root.1].flatten) :: _) _)
    exact TOpP.weakL (fun t u hh => slots_base t hh _ zz27) (t_bsS [hp.root.1] Tryd.underlying64 Tryd.ti61 rfl zz17 rfl zz17 zz17 rfl (all_one hp.root.2))
   ·
    obtain rfl := Option.some.inj ho
    show TOpP _ _ _ _ _ _ Value (fun v => SV v 16) (fun v => v) (fun v => Mem _ _ (.row v 16 5 1 (v8s [hp.root.1].flatten) :: _) _)
    have m19 : (⟨16, 19, [], (fun _ v => SV v 1), (fun _ v => .row v 1 61 16 (v8s [hp.root.1].flatten))⟩ : Mk) ∈ [⟨3, 6, [], (fun _ v => SV v 4), (fun _ v => .row v 4 5 1 (v8s (numK 4 hp.to.toNat)))⟩, ⟨7, 10, [], (fun _ v => SV v 4), (fun _ v => .row v 4 5 1 (v8s (numK 4 hp.sy.toNat)))⟩, ⟨12, 15, [], (fun _ v => SV v 2), (fun _ v => .row v 2 5 1 (v8s [hp.cnt, hp.fl]))⟩, ⟨16, 19, [], (fun _ v => SV v 1), (fun _ v => .row v 1 61 16 (v8s [hp.root.1].flatten))⟩, ⟨17, 20, [16], (fun _ v => SV v 16), (fun _ v => .row v 16 5 1 (v8s [hp.root.1].flatten))⟩, ⟨22, 25, [], (fun _ v => SV v 1), (fun _ v => .row v 1 5 1 (v8s [of8 hp.ht]))⟩] := List.mem_cons_of_mem _ (List.mem_cons_of_mem _ (List.mem_cons_of_mem _ (List.mem_cons_self ..)))
    obtain ⟨v19, h19⟩ := Option.isSome_iff_exists.1 (hd 16 zz40)
    exact TOpP.weakL (L' := [(19, v19)]) (get_one (slots_mk h19 _ (apartB_spec (by rfl)) m19)) (t_callP1 Tryd.hb77 rfl fun w h => shorts v19 [hp.root.1] w (seenR h (List.mem_append_left _ (ents_mk h19 _ m19))) (all_one hp.root.2) (show 1 ≤ 1000 from zz17))
   ·
    obtain rfl := Option.some.inj ho
    show TOpP _ _ _ _ _ _ Value (fun v => SV v 1) (fun v => v) (fun v => Mem _ _ (.row v 1 5 1 (v8s [of8 hp.ht]) :: _) _)
    exact TOpP.weakL (fun t u hh => slots_base t hh _ zz27) (t_bsV (v8s [of8 hp.ht]) Tryd.underlying32 Tryd.ti5 rfl rfl zz17 zz17 rfl (v8s_one _))
  ·
   intro σ hσ hall
   obtain ⟨b6, q6⟩ := Option.isSome_iff_exists.1 (hall _ (List.mem_cons_self ..))
   obtain ⟨b10, q10⟩ := Option.isSome_iff_exists.1 (hall _ (List.mem_cons_of_mem _ (List.mem_cons_self ..)))
   obtain ⟨b15, q15⟩ := Option.isSome_iff_exists.1 (hall _ (List.mem_cons_of_mem _ (List.mem_cons_of_mem _ (List.mem_cons_self ..))))
   obtain ⟨b19, q19⟩ := Option.isSome_iff_exists.1 (hall _ (List.mem_cons_of_mem _ (List.mem_cons_of_mem _ (List.mem_cons_of_mem _ (List.mem_cons_self ..)))))
   obtain ⟨b20, q20⟩ := Option.isSome_iff_exists.1 (hall _ (List.mem_cons_of_mem _ (List.mem_cons_of_mem _ (List.mem_cons_of_mem _ (List.mem_cons_of_mem _ (List.mem_cons_self ..))))))
   obtain ⟨b25, q25⟩ := Option.isSome_iff_exists.1 (hall _ (List.mem_cons_of_mem _ (List.mem_cons_of_mem _ (List.mem_cons_of_mem _ (List.mem_cons_of_mem _ (List.mem_cons_of_mem _ (List.mem_cons_self ..)))))))
   have p6 := (hσ _ (List.mem_cons_self ..) b6 q6).2
   try dsimp only at p6
   have p10 := (hσ _ (List.mem_cons_of_mem _ (List.mem_cons_self ..)) b10 q10).2
   try dsimp only at p10
   have p15 := (hσ _ (List.mem_cons_of_mem _ (List.mem_cons_of_mem _ (List.mem_cons_self ..))) b15 q15).2
   try dsimp only at p15
   have p19 := (hσ _ (List.mem_cons_of_mem _ (List.mem_cons_of_mem _ (List.mem_cons_of_mem _ (List.mem_cons_self ..)))) b19 q19).2
   try dsimp only at p19
   have p20 := (hσ _ (List.mem_cons_of_mem _ (List.mem_cons_of_mem _ (List.mem_cons_of_mem _ (List.mem_cons_of_mem _ (List.mem_cons_self ..))))) b20 q20).2
   try dsimp only at p20
   have p25 := (hσ _ (List.mem_cons_of_mem _ (List.mem_cons_of_mem _ (List.mem_cons_of_mem _ (List.mem_cons_of_mem _ (List.mem_cons_of_mem _ (List.mem_cons_self ..)))))) b25 q25).2
   try dsimp only at p25
   try dsimp only at q6 q10 q15 q19 q20 q25
   simp only [mkEnts, mkSlots, q6, q10, q15, q19, q20, q25, List.cons_append, List.nil_append, List.map_cons, List.map_nil, Asg.v, Option.getD_some]
   refine wpd_tp 23 rfl zz5 trivial (t_bsV [b6, b10, b15, b20, b25] Tryd.underlying160 Tryd.ti32 rfl rfl zz17 zz17 rfl (by intro u hu; simp only [List.mem_cons, List.not_mem_nil, or_false] at hu; rcases hu with rfl | rfl | rfl | rfl | rfl <;> exact SV.one zz49)) rfl (fun _ => (fun w h => .inr (h.sub SubC.h SubC.h))) (fun b26 p26 => ?_)
   refine wpd_tp 24 rfl zz5 trivial (t_callP1 Tryd.hb73 rfl fun w h => by
     have q := joinB b26 [(b6, numK 4 hp.to.toNat), (b10, numK 4 hp.sy.toNat), (b15, [hp.cnt, hp.fl]), (b20, [hp.root.1].flatten), (b25, [of8 hp.ht])] w ⟨h.seenV, fun q hq => by
     simp only [List.mem_cons, List.not_mem_nil, or_false] at hq
     rcases hq with rfl | rfl | rfl | rfl | rfl <;> exact Seen.re8 h.seenV⟩ (by rw [headFlat, headB_len]; decide)
     rwa [headFlat, headB_len] at q) rfl (fun _ => (fun w h => .inr (h.sub SubC.h SubC.h))) (fun b27 p27 => ?_)
   refine wpd_p 25 rfl zz5 trivial (q_pure rfl) rfl (fun w h => .inr (h.sub SubC.h SubC.h)) ?_
   refine wpd_done zz5 ?_
   refine ex_then <| wpc_ret ?_
   refine ret1 (.inl rfl) rfl rfl ?_
   exact fun w1 h2 => ⟨b27, p27, rfl, h2.below, h2.made SubC.h .nil⟩
end Go.Proofs.YtjpfhkjmjnjggaaDoor
namespace Go.Proofs.YtjpfhkjmjnjggaaDoor
open Go Go.PL Go.RowKit
def rest0 (p : Pth) : List UInt8 := [p.pf, of8 p.pl] ++ (numK 8 p.pa.toNat ++ numK 8 p.pb.toNat)
def tailH (h : Hop) : List UInt8 := numK 4 (of64 h.ix).toNat ++ (h.chs.flatten ++ h.ps.flatten)
def restF (p : Pth) : Nat → List UInt8
  | 0 => rest0 p
  | i + 1 => sumF ((headB (p.hs.getD i Hop.z) ++ restF p i) ++ tailH (p.hs.getD i Hop.z))
def msgB (p : Pth) (i : Nat) : List UInt8 := headB (p.hs.getD i Hop.z) ++ restF p i
def msgs (p : Pth) : List (Nat × List UInt8) := (List.range p.hs.length).map fun i => (i, msgB p i)
theorem adL_one (a b : UInt64) : ∀ u ∈ adL a b, u.oneCell' = true := by
  intro u hu
  simp only [adL, List.mem_cons, List.not_mem_nil, or_false] at hu
  rcases hu with rfl | rfl <;> rfl
theorem adL_len (a b : UInt64) : (adL a b).length = 2 := rfl
theorem rest0_len (p : Pth) : (rest0 p).length = 18 := by simp [rest0, numK_len]
theorem restF_len (p : Pth) (i : Nat) : (restF p i).length ≤ 32 := by
  cases i with
  | zero => rw [restF, rest0_len]; decide
  | succ n => rw [restF, sumF_length]; exact Nat.le_refl _
theorem msgs_take {p : Pth} {i : Nat} (hi : i < p.hs.length) : (msgs p).take i ++ [(i, msgB p i)] = (msgs p).take (i + 1) := by
  rw [List.take_add_one, msgs, List.getElem?_map, List.getElem?_range hi]
  rfl
theorem msgs_pre {p : Pth} {i : Nat} (hi : i < p.hs.length) : ((msgs p).take i ++ [(i, msgB p i)]) <+: msgs p := by rw [msgs_take hi]; exact List.take_prefix _ _
theorem msgs_len (p : Pth) : (msgs p).length = p.hs.length := by rw [msgs, List.length_map, List.length_range]
theorem msgs_all (p : Pth) : (msgs p).take p.hs.length = msgs p := List.take_of_length_le (by rw [msgs_len]; exact Nat.le_refl _)
theorem flat_len16 {l : List (List UInt8)} (h : ∀ x ∈ l, x.length = 16) : l.flatten.length = l.length * 16 := by
  have q := flat_takeL h (Nat.le_refl _)
  rwa [List.take_length] at q
theorem tailH_len {h : Hop} (h1 : ∀ x ∈ h.chs, x.length = 16) (h2 : ∀ x ∈ h.ps, x.length = 16) : (tailH h).length = 4 + (h.chs.length * 16 + h.ps.length * 16) := by
  rw [tailH, List.length_append, numK_len, List.length_append, flat_len16 h1, flat_len16 h2]
theorem flatK_3 (a b c : Value × List UInt8) : flatK [a, b, c] [a, b, c].length = a.2 ++ (b.2 ++ c.2) := by simp [flatK]
theorem flatK_4 (a b c d : Value × List UInt8) : flatK [a, b, c, d] [a, b, c, d].length = a.2 ++ (b.2 ++ (c.2 ++ d.2)) := by simp [flatK]
def encM (x : Nat × List UInt8) (v : Value) : Array Value := #[.int .i64 ((x.1 : Nat) : Int), v]
def AtM (T : List Nat) (x : Nat × List UInt8) (v : Value) (w : World) : Prop := RowAt T (.row v x.2.length 5 1 (v8s x.2)) w
def InvM (p : Pth) (w : World) : Prop := p.seen w.cell? ∧ Glb w
theorem restRow {v : Value} {xs : List UInt8} (w : World) (h : (Ent.row v xs.length 5 1 (v8s xs)).at w) : Seen w.cell? v xs.length 1 (v8s xs) := (Mem.startR w h).seenV
theorem restBlk {b : Nat} {xs : List UInt8} (hl : xs.length = 32) (w : World) (h : (Ent.blk b 113 (v8s xs)).at w) : Seen w.cell? (arv b 32) xs.length 1 (v8s xs) := by
  have q : Seen w.cell? (arv b 32) 32 1 (v8s xs) := (Mem.start1 w h).seenA zz17 (by rw [v8s_length, hl])
  rw [hl]; exact q
theorem messages (p : Pth) (w : World) (hp : p.sv)  :
    Calls Tryd.prog 49 [.agg p.c.toArray].toArray w (Gives w (fun pp : Nat => .func (.func 72) #[] #[.pointer (some ⟨pp, 0, none⟩)]) (fun pp => [.blk pp 29 p.c]) (fun _ => [])) := by
  haveI := hp.one
  refine enter (m := 4) (R := Mem w [] [] []) Tryd.func49 rfl rfl (Nat.le_of_ble_eq_true rfl) (Mem.start w) ?_
  refine wpc_seq <| wpc_region ?_
  refine wpl_t (t_box rfl p.c rfl) rfl (fun b1 => ?_)
  refine wpl_q (q_pure rfl) rfl <| wpl_nil <| ex_then <| wpc_seq <| wpc_region ?_
  refine wpl_q (q_fn (us := []) (vs := [.pointer (some ⟨b1, 0, none⟩)]) rfl rfl) rfl ?_
  refine wpl_q (q_pure rfl) rfl <| wpl_nil <| ex_then <| wpc_ret ?_
  refine ret1 (.inl rfl) rfl rfl ?_
  exact fun w h => ⟨b1, rfl, h.below, h.made SubC.h .nil⟩
end Go.Proofs.YtjpfhkjmjnjggaaDoor
