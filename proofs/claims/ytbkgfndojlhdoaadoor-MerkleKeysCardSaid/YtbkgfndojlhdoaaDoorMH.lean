/- merkle: signing. -/
import Derived.Test.YtbkgfndojlhdoaaDoorMG
namespace Go.Proofs.YtbkgfndojlhdoaaDoor
set_option linter.unusedSimpArgs false
set_option linter.unusedVariables false
open Go Go.PL Go.RowKit
set_option maxRecDepth 100000 in
theorem sign7 (xs : List UInt8) (ht : Int) (idx : Int) (bv : Value) (bs : List UInt8) (w : World) (hxs : xs.length = 16) (hbv : Seen w.cell? bv bs.length 1 (v8s bs)) (hG : Glb w) :
    Calls Tryd.prog 21 [.agg (v8s xs).toArray, .int .i64 ht, .int .i64 idx, bv].toArray w (GivesP w (fun x : Value × Value => SV x.1 (sigC xs ht idx bs).length ∧ SV x.2 (sigP xs ht idx).length) (fun x : Value × Value => .tuple #[.agg #[.int .i64 (sigI ht idx), x.1, x.2], .int .i64 (sigE ht idx)]) (fun x => [.row x.1 (sigC xs ht idx bs).length 23 16 (v8s (sigC xs ht idx bs).flatten), .row x.2 (sigP xs ht idx).length 23 16 (v8s (sigP xs ht idx).flatten)]) (fun _ => [])) := by
  have sbv := hbv.sv
  have lbv := sbv.le
  simp only [maxLen] at lbv
  refine enter (m := 62) (R := Mem w [] [] []) Tryd.func21 rfl rfl (Nat.le_of_ble_eq_true rfl) (Mem.start w) ?_
  refine wpc_seq ?_
  refine wpc_region ?_
  refine wpl_t (t_box rfl (v8s xs) rfl) rfl (fun b4 => ?_)
  refine wpl_t (t_alloc Tryd.ti29 _ rfl) rfl (fun b8 => ?_)
  refine wpl_q (q_pure rfl) rfl ?_
  refine wpl_nil ?_
  refine ex_then ?_
  refine wpc_seq ?_
  refine wpc_seq ?_
  refine wpc_region ?_
  refine wpl_q (q_pure rfl) rfl ?_
  refine wpl_t (t_pur Tryd.hb32 rfl fun w h => good _ w) rfl (fun b15 => ?_)
  refine wpl_q (q_pure rfl) rfl ?_
  refine wpl_q (q_pure rfl) rfl ?_
  refine wpl_bool2 17 16 rfl rfl (fun hb17 => ?_) (fun hb17 => ?_)
  ·
    try simp only [decide_eq_true_eq, decide_eq_false_iff_not, Bool.and_eq_true, Bool.or_eq_true, beq_iff_eq, bne_iff_ne, ne_eq, Bool.not_eq_true', Bool.not_eq_false', Decidable.not_not] at hb17
    refine wpl_off rfl rfl rfl rfl ?_
    refine wpl_off rfl rfl rfl rfl ?_
    refine wpl_q (q_pure rfl) rfl ?_
    refine wpl_q (q_pure rfl) rfl ?_
    refine wpl_off rfl rfl rfl rfl ?_
    refine wpl_off rfl rfl rfl rfl ?_
    refine wpl_off rfl rfl rfl rfl ?_
    refine wpl_off rfl rfl rfl rfl ?_
    refine wpl_q (q_pure rfl) rfl ?_
    refine wpl_nil ?_
    refine ex_then ?_
    refine wpc_cond_t rfl ?_
    refine wpc_seq ?_
    refine wpc_region ?_
    refine wpl_q (q_build (cs := [.int .i64 0, .slice none 0 0, .slice none 0 0]) rfl built_sig0) rfl ?_
    refine wpl_t0 (t_stA Tryd.ti29 rfl rfl (by first | (with_reducible exact key_len _ _ (by (first | with_reducible assumption | with_reducible exact shortF_length _ | with_reducible exact stepF_length _ _ _ | with_reducible exact sumF_length _ | with_reducible exact climbF_length _ (by first | with_reducible assumption | with_reducible exact shortF_length _ | with_reducible exact beginF_length _ _ | with_reducible exact getD_mem_len (by assumption) (by omega)) _ _ _ | with_reducible exact beginF_length _ _ | with_reducible exact chainF_length _ _ _ | with_reducible exact recF_length _ _ | with_reducible exact publicF_length _ | with_reducible exact leafF_length _ _ | with_reducible exact joinedF_length _ _ | with_reducible exact nodeF_length _ _ _ | with_reducible exact rootF_length _ _ _ _ _ | with_reducible exact getD_mem_len (by assumption) (by omega) | (with_reducible exact List.length_replicate)))) | with_reducible rfl | (simp only [v8s_length, v32s_length, vis_length, vns_length, v64s_length, List.length_replicate]; first | done | with_reducible assumption | omega) | (rw [v8s_length]; (first | with_reducible assumption | with_reducible exact shortF_length _ | with_reducible exact stepF_length _ _ _ | with_reducible exact sumF_length _ | with_reducible exact climbF_length _ (by first | with_reducible assumption | with_reducible exact shortF_length _ | with_reducible exact beginF_length _ _ | with_reducible exact getD_mem_len (by assumption) (by omega)) _ _ _ | with_reducible exact beginF_length _ _ | with_reducible exact chainF_length _ _ _ | with_reducible exact recF_length _ _ | with_reducible exact publicF_length _ | with_reducible exact leafF_length _ _ | with_reducible exact joinedF_length _ _ | with_reducible exact nodeF_length _ _ _ | with_reducible exact rootF_length _ _ _ _ _ | with_reducible exact getD_mem_len (by assumption) (by omega) | (with_reducible exact List.length_replicate))) | rfl) (by first | with_reducible exact key_one _ _ | (with_reducible exact sig_one (by first | assumption | exact SV.nil) (by first | assumption | exact SV.nil) _) | exact v8s_one _ | exact v32s_one _ | exact v64s_one _ | exact vis_one _ | exact vns_one _ | exact v16s_one _ | (intro u hu; simp at hu; rcases hu with h | h <;> subst h <;> rfl) | (intro u hu; simp only [List.mem_cons, List.not_mem_nil, or_false] at hu; subst hu; exact SV.one (by assumption)) | (simp [Value.oneCell']; done)) (by first | (with_reducible exact key_len _ _ (by (first | with_reducible assumption | with_reducible exact shortF_length _ | with_reducible exact stepF_length _ _ _ | with_reducible exact sumF_length _ | with_reducible exact climbF_length _ (by first | with_reducible assumption | with_reducible exact shortF_length _ | with_reducible exact beginF_length _ _ | with_reducible exact getD_mem_len (by assumption) (by omega)) _ _ _ | with_reducible exact beginF_length _ _ | with_reducible exact chainF_length _ _ _ | with_reducible exact recF_length _ _ | with_reducible exact publicF_length _ | with_reducible exact leafF_length _ _ | with_reducible exact joinedF_length _ _ | with_reducible exact nodeF_length _ _ _ | with_reducible exact rootF_length _ _ _ _ _ | with_reducible exact getD_mem_len (by assumption) (by omega) | (with_reducible exact List.length_replicate)))) | with_reducible rfl | (simp only [v8s_length, v32s_length, vis_length, vns_length, v64s_length, List.length_replicate]; first | done | with_reducible assumption | omega) | (rw [v8s_length]; (first | with_reducible assumption | with_reducible exact shortF_length _ | with_reducible exact stepF_length _ _ _ | with_reducible exact sumF_length _ | with_reducible exact climbF_length _ (by first | with_reducible assumption | with_reducible exact shortF_length _ | with_reducible exact beginF_length _ _ | with_reducible exact getD_mem_len (by assumption) (by omega)) _ _ _ | with_reducible exact beginF_length _ _ | with_reducible exact chainF_length _ _ _ | with_reducible exact recF_length _ _ | with_reducible exact publicF_length _ | with_reducible exact leafF_length _ _ | with_reducible exact joinedF_length _ _ | with_reducible exact nodeF_length _ _ _ | with_reducible exact rootF_length _ _ _ _ _ | with_reducible exact getD_mem_len (by assumption) (by omega) | (with_reducible exact List.length_replicate))) | rfl)) (fun _ => ?_)
    refine wpl_q (q_pure rfl) rfl ?_
    refine wpl_nil ?_
    refine ex_then ?_
    refine wpc_ret ?_
    refine ex_then_ret ?_
    refine retv2 (.inl rfl) rfl (rv_agg Tryd.underlying29 rfl Tryd.ti29 rfl (fun w h => h.atB) rfl) (rv_tmp rfl) ?_
    exact fun w h => by
      first
      | (
        have hno : ¬ okS ht idx := fun hk => by
          obtain ⟨h1, h2, h3⟩ := hk
          try rw [Int.toNat_natCast] at h3
          first | omega | (simp only [Bool.not_eq_true', decide_eq_false_iff_not, decide_eq_true_eq] at *; omega) | (simp_all; done)
        have e1 : sigC xs ht idx bs = [] := if_neg hno
        have e2 : sigP xs ht idx = [] := if_neg hno
        have e3 : sigI ht idx = 0 := if_neg hno
        have e4 : sigE ht idx = 2 := if_neg hno
        rw [e1, e2, e3, e4]
        exact ⟨(.slice none 0 0, .slice none 0 0), ⟨SV.nil, SV.nil⟩, rfl, h.below, ((h.nilRow 23 16).nilRow 23 16).made (.keep (.keep .nil)) .nil⟩)
      | (
        have hno : ¬ okS (m : Int) idx := fun hk => by
          obtain ⟨h1, h2, h3⟩ := hk
          try rw [Int.toNat_natCast] at h3
          first | omega | (simp only [Bool.not_eq_true', decide_eq_false_iff_not, decide_eq_true_eq] at *; omega) | (simp_all; done)
        have e1 : sigC xs (m : Int) idx bs = [] := if_neg hno
        have e2 : sigP xs (m : Int) idx = [] := if_neg hno
        have e3 : sigI (m : Int) idx = 0 := if_neg hno
        have e4 : sigE (m : Int) idx = 2 := if_neg hno
        rw [e1, e2, e3, e4]
        exact ⟨(.slice none 0 0, .slice none 0 0), ⟨SV.nil, SV.nil⟩, rfl, h.below, ((h.nilRow 23 16).nilRow 23 16).made (.keep (.keep .nil)) .nil⟩)
  ·
    simp only [Bool.not_eq_false', decide_eq_true_eq] at hb17
    obtain ⟨m, rfl⟩ : ∃ m : Nat, ht = (m : Int) := ⟨ht.toNat, by omega⟩
    have hpw := pow_le16 (m := m) (by omega)
    refine wpl_on rfl rfl ?_
    refine wpl_q (q_pure rfl) rfl ?_
    refine wpl_on rfl rfl ?_
    refine wpl_q (q_pure rfl) rfl ?_
    refine wpl_q (q_pure rfl) rfl ?_
    refine wpl_q (q_pure rfl) rfl ?_
    refine wpl_bool2 21 19 rfl rfl (fun hb21 => ?_) (fun hb21 => ?_)
    ·
      try simp only [decide_eq_true_eq, decide_eq_false_iff_not, Bool.and_eq_true, Bool.or_eq_true, beq_iff_eq, bne_iff_ne, ne_eq, Bool.not_eq_true', Bool.not_eq_false', Decidable.not_not] at hb21
      refine wpl_off rfl rfl rfl rfl ?_
      refine wpl_off rfl rfl rfl rfl ?_
      refine wpl_off rfl rfl rfl rfl ?_
      refine wpl_off rfl rfl rfl rfl ?_
      refine wpl_q (q_pure rfl) rfl ?_
      refine wpl_nil ?_
      refine ex_then ?_
      refine wpc_cond_t rfl ?_
      refine wpc_seq ?_
      refine wpc_region ?_
      refine wpl_q (q_build (cs := [.int .i64 0, .slice none 0 0, .slice none 0 0]) rfl built_sig0) rfl ?_
      refine wpl_t0 (t_stA Tryd.ti29 rfl rfl (by first | (with_reducible exact key_len _ _ (by (first | with_reducible assumption | with_reducible exact shortF_length _ | with_reducible exact stepF_length _ _ _ | with_reducible exact sumF_length _ | with_reducible exact climbF_length _ (by first | with_reducible assumption | with_reducible exact shortF_length _ | with_reducible exact beginF_length _ _ | with_reducible exact getD_mem_len (by assumption) (by omega)) _ _ _ | with_reducible exact beginF_length _ _ | with_reducible exact chainF_length _ _ _ | with_reducible exact recF_length _ _ | with_reducible exact publicF_length _ | with_reducible exact leafF_length _ _ | with_reducible exact joinedF_length _ _ | with_reducible exact nodeF_length _ _ _ | with_reducible exact rootF_length _ _ _ _ _ | with_reducible exact getD_mem_len (by assumption) (by omega) | (with_reducible exact List.length_replicate)))) | with_reducible rfl | (simp only [v8s_length, v32s_length, vis_length, vns_length, v64s_length, List.length_replicate]; first | done | with_reducible assumption | omega) | (rw [v8s_length]; (first | with_reducible assumption | with_reducible exact shortF_length _ | with_reducible exact stepF_length _ _ _ | with_reducible exact sumF_length _ | with_reducible exact climbF_length _ (by first | with_reducible assumption | with_reducible exact shortF_length _ | with_reducible exact beginF_length _ _ | with_reducible exact getD_mem_len (by assumption) (by omega)) _ _ _ | with_reducible exact beginF_length _ _ | with_reducible exact chainF_length _ _ _ | with_reducible exact recF_length _ _ | with_reducible exact publicF_length _ | with_reducible exact leafF_length _ _ | with_reducible exact joinedF_length _ _ | with_reducible exact nodeF_length _ _ _ | with_reducible exact rootF_length _ _ _ _ _ | with_reducible exact getD_mem_len (by assumption) (by omega) | (with_reducible exact List.length_replicate))) | rfl) (by first | with_reducible exact key_one _ _ | (with_reducible exact sig_one (by first | assumption | exact SV.nil) (by first | assumption | exact SV.nil) _) | exact v8s_one _ | exact v32s_one _ | exact v64s_one _ | exact vis_one _ | exact vns_one _ | exact v16s_one _ | (intro u hu; simp at hu; rcases hu with h | h <;> subst h <;> rfl) | (intro u hu; simp only [List.mem_cons, List.not_mem_nil, or_false] at hu; subst hu; exact SV.one (by assumption)) | (simp [Value.oneCell']; done)) (by first | (with_reducible exact key_len _ _ (by (first | with_reducible assumption | with_reducible exact shortF_length _ | with_reducible exact stepF_length _ _ _ | with_reducible exact sumF_length _ | with_reducible exact climbF_length _ (by first | with_reducible assumption | with_reducible exact shortF_length _ | with_reducible exact beginF_length _ _ | with_reducible exact getD_mem_len (by assumption) (by omega)) _ _ _ | with_reducible exact beginF_length _ _ | with_reducible exact chainF_length _ _ _ | with_reducible exact recF_length _ _ | with_reducible exact publicF_length _ | with_reducible exact leafF_length _ _ | with_reducible exact joinedF_length _ _ | with_reducible exact nodeF_length _ _ _ | with_reducible exact rootF_length _ _ _ _ _ | with_reducible exact getD_mem_len (by assumption) (by omega) | (with_reducible exact List.length_replicate)))) | with_reducible rfl | (simp only [v8s_length, v32s_length, vis_length, vns_length, v64s_length, List.length_replicate]; first | done | with_reducible assumption | omega) | (rw [v8s_length]; (first | with_reducible assumption | with_reducible exact shortF_length _ | with_reducible exact stepF_length _ _ _ | with_reducible exact sumF_length _ | with_reducible exact climbF_length _ (by first | with_reducible assumption | with_reducible exact shortF_length _ | with_reducible exact beginF_length _ _ | with_reducible exact getD_mem_len (by assumption) (by omega)) _ _ _ | with_reducible exact beginF_length _ _ | with_reducible exact chainF_length _ _ _ | with_reducible exact recF_length _ _ | with_reducible exact publicF_length _ | with_reducible exact leafF_length _ _ | with_reducible exact joinedF_length _ _ | with_reducible exact nodeF_length _ _ _ | with_reducible exact rootF_length _ _ _ _ _ | with_reducible exact getD_mem_len (by assumption) (by omega) | (with_reducible exact List.length_replicate))) | rfl)) (fun _ => ?_)
      refine wpl_q (q_pure rfl) rfl ?_
      refine wpl_nil ?_
      refine ex_then ?_
      refine wpc_ret ?_
      refine ex_then_ret ?_
      refine retv2 (.inl rfl) rfl (rv_agg Tryd.underlying29 rfl Tryd.ti29 rfl (fun w h => h.atB) rfl) (rv_tmp rfl) ?_
      exact fun w h => by
        first
        | (
          have hno : ¬ okS ht idx := fun hk => by
            obtain ⟨h1, h2, h3⟩ := hk
            try rw [Int.toNat_natCast] at h3
            first | omega | (simp only [Bool.not_eq_true', decide_eq_false_iff_not, decide_eq_true_eq] at *; omega) | (simp_all; done)
          have e1 : sigC xs ht idx bs = [] := if_neg hno
          have e2 : sigP xs ht idx = [] := if_neg hno
          have e3 : sigI ht idx = 0 := if_neg hno
          have e4 : sigE ht idx = 2 := if_neg hno
          rw [e1, e2, e3, e4]
          exact ⟨(.slice none 0 0, .slice none 0 0), ⟨SV.nil, SV.nil⟩, rfl, h.below, ((h.nilRow 23 16).nilRow 23 16).made (.keep (.keep .nil)) .nil⟩)
        | (
          have hno : ¬ okS (m : Int) idx := fun hk => by
            obtain ⟨h1, h2, h3⟩ := hk
            try rw [Int.toNat_natCast] at h3
            first | omega | (simp only [Bool.not_eq_true', decide_eq_false_iff_not, decide_eq_true_eq] at *; omega) | (simp_all; done)
          have e1 : sigC xs (m : Int) idx bs = [] := if_neg hno
          have e2 : sigP xs (m : Int) idx = [] := if_neg hno
          have e3 : sigI (m : Int) idx = 0 := if_neg hno
          have e4 : sigE (m : Int) idx = 2 := if_neg hno
          rw [e1, e2, e3, e4]
          exact ⟨(.slice none 0 0, .slice none 0 0), ⟨SV.nil, SV.nil⟩, rfl, h.below, ((h.nilRow 23 16).nilRow 23 16).made (.keep (.keep .nil)) .nil⟩)
    ·
      try simp only [decide_eq_true_eq, decide_eq_false_iff_not, Bool.and_eq_true, Bool.or_eq_true, beq_iff_eq, bne_iff_ne, ne_eq, Bool.not_eq_true', Bool.not_eq_false', Decidable.not_not] at hb21
      refine wpl_on rfl rfl ?_
      refine wpl_q (q_pure rfl) rfl ?_
      refine wpl_on rfl rfl ?_
      refine wpl_q (q_pure rfl) rfl ?_
      refine wpl_on rfl rfl ?_
      refine wpl_q (q_shlN (a := 1) rfl rfl (by first | decide | omega) (by first | omega | (simp only [maxLen]; omega) | (simp only [List.length_append, List.length_cons, List.length_nil, List.length_take, maxLen]; omega) | (simp only [List.length_append, List.length_cons, List.length_nil, List.length_take]; omega))) rfl ?_
      refine wpl_on rfl rfl ?_
      refine wpl_q (q_pure rfl) rfl ?_
      refine wpl_q (q_pure rfl) rfl ?_
      refine wpl_nil ?_
      refine ex_then ?_
      refine wpc_cond rfl (fun hc26 => ?_) (fun hc26 => ?_)
      ·
        try simp only [decide_eq_true_eq, decide_eq_false_iff_not, Bool.and_eq_true, Bool.or_eq_true, beq_iff_eq, bne_iff_ne, ne_eq, Bool.not_eq_true', Bool.not_eq_false', Decidable.not_not] at hc26
        refine wpc_seq ?_
        refine wpc_region ?_
        refine wpl_q (q_build (cs := [.int .i64 0, .slice none 0 0, .slice none 0 0]) rfl built_sig0) rfl ?_
        refine wpl_t0 (t_stA Tryd.ti29 rfl rfl (by first | (with_reducible exact key_len _ _ (by (first | with_reducible assumption | with_reducible exact shortF_length _ | with_reducible exact stepF_length _ _ _ | with_reducible exact sumF_length _ | with_reducible exact climbF_length _ (by first | with_reducible assumption | with_reducible exact shortF_length _ | with_reducible exact beginF_length _ _ | with_reducible exact getD_mem_len (by assumption) (by omega)) _ _ _ | with_reducible exact beginF_length _ _ | with_reducible exact chainF_length _ _ _ | with_reducible exact recF_length _ _ | with_reducible exact publicF_length _ | with_reducible exact leafF_length _ _ | with_reducible exact joinedF_length _ _ | with_reducible exact nodeF_length _ _ _ | with_reducible exact rootF_length _ _ _ _ _ | with_reducible exact getD_mem_len (by assumption) (by omega) | (with_reducible exact List.length_replicate)))) | with_reducible rfl | (simp only [v8s_length, v32s_length, vis_length, vns_length, v64s_length, List.length_replicate]; first | done | with_reducible assumption | omega) | (rw [v8s_length]; (first | with_reducible assumption | with_reducible exact shortF_length _ | with_reducible exact stepF_length _ _ _ | with_reducible exact sumF_length _ | with_reducible exact climbF_length _ (by first | with_reducible assumption | with_reducible exact shortF_length _ | with_reducible exact beginF_length _ _ | with_reducible exact getD_mem_len (by assumption) (by omega)) _ _ _ | with_reducible exact beginF_length _ _ | with_reducible exact chainF_length _ _ _ | with_reducible exact recF_length _ _ | with_reducible exact publicF_length _ | with_reducible exact leafF_length _ _ | with_reducible exact joinedF_length _ _ | with_reducible exact nodeF_length _ _ _ | with_reducible exact rootF_length _ _ _ _ _ | with_reducible exact getD_mem_len (by assumption) (by omega) | (with_reducible exact List.length_replicate))) | rfl) (by first | with_reducible exact key_one _ _ | (with_reducible exact sig_one (by first | assumption | exact SV.nil) (by first | assumption | exact SV.nil) _) | exact v8s_one _ | exact v32s_one _ | exact v64s_one _ | exact vis_one _ | exact vns_one _ | exact v16s_one _ | (intro u hu; simp at hu; rcases hu with h | h <;> subst h <;> rfl) | (intro u hu; simp only [List.mem_cons, List.not_mem_nil, or_false] at hu; subst hu; exact SV.one (by assumption)) | (simp [Value.oneCell']; done)) (by first | (with_reducible exact key_len _ _ (by (first | with_reducible assumption | with_reducible exact shortF_length _ | with_reducible exact stepF_length _ _ _ | with_reducible exact sumF_length _ | with_reducible exact climbF_length _ (by first | with_reducible assumption | with_reducible exact shortF_length _ | with_reducible exact beginF_length _ _ | with_reducible exact getD_mem_len (by assumption) (by omega)) _ _ _ | with_reducible exact beginF_length _ _ | with_reducible exact chainF_length _ _ _ | with_reducible exact recF_length _ _ | with_reducible exact publicF_length _ | with_reducible exact leafF_length _ _ | with_reducible exact joinedF_length _ _ | with_reducible exact nodeF_length _ _ _ | with_reducible exact rootF_length _ _ _ _ _ | with_reducible exact getD_mem_len (by assumption) (by omega) | (with_reducible exact List.length_replicate)))) | with_reducible rfl | (simp only [v8s_length, v32s_length, vis_length, vns_length, v64s_length, List.length_replicate]; first | done | with_reducible assumption | omega) | (rw [v8s_length]; (first | with_reducible assumption | with_reducible exact shortF_length _ | with_reducible exact stepF_length _ _ _ | with_reducible exact sumF_length _ | with_reducible exact climbF_length _ (by first | with_reducible assumption | with_reducible exact shortF_length _ | with_reducible exact beginF_length _ _ | with_reducible exact getD_mem_len (by assumption) (by omega)) _ _ _ | with_reducible exact beginF_length _ _ | with_reducible exact chainF_length _ _ _ | with_reducible exact recF_length _ _ | with_reducible exact publicF_length _ | with_reducible exact leafF_length _ _ | with_reducible exact joinedF_length _ _ | with_reducible exact nodeF_length _ _ _ | with_reducible exact rootF_length _ _ _ _ _ | with_reducible exact getD_mem_len (by assumption) (by omega) | (with_reducible exact List.length_replicate))) | rfl)) (fun _ => ?_)
        refine wpl_q (q_pure rfl) rfl ?_
        refine wpl_nil ?_
        refine ex_then ?_
        refine wpc_ret ?_
        refine ex_then_ret ?_
        refine retv2 (.inl rfl) rfl (rv_agg Tryd.underlying29 rfl Tryd.ti29 rfl (fun w h => h.atB) rfl) (rv_tmp rfl) ?_
        exact fun w h => by
          first
          | (
            have hno : ¬ okS ht idx := fun hk => by
              obtain ⟨h1, h2, h3⟩ := hk
              try rw [Int.toNat_natCast] at h3
              first | omega | (simp only [Bool.not_eq_true', decide_eq_false_iff_not, decide_eq_true_eq] at *; omega) | (simp_all; done)
            have e1 : sigC xs ht idx bs = [] := if_neg hno
            have e2 : sigP xs ht idx = [] := if_neg hno
            have e3 : sigI ht idx = 0 := if_neg hno
            have e4 : sigE ht idx = 2 := if_neg hno
            rw [e1, e2, e3, e4]
            exact ⟨(.slice none 0 0, .slice none 0 0), ⟨SV.nil, SV.nil⟩, rfl, h.below, ((h.nilRow 23 16).nilRow 23 16).made (.keep (.keep .nil)) .nil⟩)
          | (
            have hno : ¬ okS (m : Int) idx := fun hk => by
              obtain ⟨h1, h2, h3⟩ := hk
              try rw [Int.toNat_natCast] at h3
              first | omega | (simp only [Bool.not_eq_true', decide_eq_false_iff_not, decide_eq_true_eq] at *; omega) | (simp_all; done)
            have e1 : sigC xs (m : Int) idx bs = [] := if_neg hno
            have e2 : sigP xs (m : Int) idx = [] := if_neg hno
            have e3 : sigI (m : Int) idx = 0 := if_neg hno
            have e4 : sigE (m : Int) idx = 2 := if_neg hno
            rw [e1, e2, e3, e4]
            exact ⟨(.slice none 0 0, .slice none 0 0), ⟨SV.nil, SV.nil⟩, rfl, h.below, ((h.nilRow 23 16).nilRow 23 16).made (.keep (.keep .nil)) .nil⟩)
      ·
        obtain ⟨q, rfl⟩ : ∃ q : Nat, idx = (q : Int) := ⟨idx.toNat, by omega⟩
        have hq : q < 2 ^ m := by
          simp only [decide_eq_false_iff_not] at hc26
          omega
        have hok : okS (m : Int) (q : Int) := okS_nat (by omega) hq
        have e1 : sigC xs m q bs = signF (leafF xs q) bs := if_pos hok
        have e2 : sigP xs m q = pathF xs q m := if_pos hok
        have e3 : sigI m q = q := if_pos hok
        have e4 : sigE m q = 0 := if_pos hok
        refine wpc_skip ?_
        refine ex_then ?_
        refine wpc_seq ?_
        refine wpc_region ?_
        refine wpl_q (q_ldN Tryd.underlying23 rfl Tryd.ti23 rfl (by first | (with_reducible exact key_len _ _ (by (first | with_reducible assumption | with_reducible exact shortF_length _ | with_reducible exact stepF_length _ _ _ | with_reducible exact sumF_length _ | with_reducible exact climbF_length _ (by first | with_reducible assumption | with_reducible exact shortF_length _ | with_reducible exact beginF_length _ _ | with_reducible exact getD_mem_len (by assumption) (by omega)) _ _ _ | with_reducible exact beginF_length _ _ | with_reducible exact chainF_length _ _ _ | with_reducible exact recF_length _ _ | with_reducible exact publicF_length _ | with_reducible exact leafF_length _ _ | with_reducible exact joinedF_length _ _ | with_reducible exact nodeF_length _ _ _ | with_reducible exact rootF_length _ _ _ _ _ | with_reducible exact getD_mem_len (by assumption) (by omega) | (with_reducible exact List.length_replicate)))) | with_reducible rfl | (simp only [v8s_length, v32s_length, vis_length, vns_length, v64s_length, List.length_replicate]; first | done | with_reducible assumption | omega) | (rw [v8s_length]; (first | with_reducible assumption | with_reducible exact shortF_length _ | with_reducible exact stepF_length _ _ _ | with_reducible exact sumF_length _ | with_reducible exact climbF_length _ (by first | with_reducible assumption | with_reducible exact shortF_length _ | with_reducible exact beginF_length _ _ | with_reducible exact getD_mem_len (by assumption) (by omega)) _ _ _ | with_reducible exact beginF_length _ _ | with_reducible exact chainF_length _ _ _ | with_reducible exact recF_length _ _ | with_reducible exact publicF_length _ | with_reducible exact leafF_length _ _ | with_reducible exact joinedF_length _ _ | with_reducible exact nodeF_length _ _ _ | with_reducible exact rootF_length _ _ _ _ _ | with_reducible exact getD_mem_len (by assumption) (by omega) | (with_reducible exact List.length_replicate))) | rfl)) rfl ?_
        refine wpl_q (q_pure rfl) rfl ?_
        refine wpl_q (q_build (cs := v8s xs ++ [Value.int .i64 ((m : Nat) : Int)]) rfl (built_tree _ _ hxs)) rfl ?_
        refine wpl_t (t_alloc Tryd.ti69 _ rfl) rfl (fun b10 => ?_)
        refine wpl_t0 (t_stA Tryd.ti69 rfl rfl (by first | (with_reducible exact key_len _ _ (by (first | with_reducible assumption | with_reducible exact shortF_length _ | with_reducible exact stepF_length _ _ _ | with_reducible exact sumF_length _ | with_reducible exact climbF_length _ (by first | with_reducible assumption | with_reducible exact shortF_length _ | with_reducible exact beginF_length _ _ | with_reducible exact getD_mem_len (by assumption) (by omega)) _ _ _ | with_reducible exact beginF_length _ _ | with_reducible exact chainF_length _ _ _ | with_reducible exact recF_length _ _ | with_reducible exact publicF_length _ | with_reducible exact leafF_length _ _ | with_reducible exact joinedF_length _ _ | with_reducible exact nodeF_length _ _ _ | with_reducible exact rootF_length _ _ _ _ _ | with_reducible exact getD_mem_len (by assumption) (by omega) | (with_reducible exact List.length_replicate)))) | with_reducible rfl | (simp only [v8s_length, v32s_length, vis_length, vns_length, v64s_length, List.length_replicate]; first | done | with_reducible assumption | omega) | (rw [v8s_length]; (first | with_reducible assumption | with_reducible exact shortF_length _ | with_reducible exact stepF_length _ _ _ | with_reducible exact sumF_length _ | with_reducible exact climbF_length _ (by first | with_reducible assumption | with_reducible exact shortF_length _ | with_reducible exact beginF_length _ _ | with_reducible exact getD_mem_len (by assumption) (by omega)) _ _ _ | with_reducible exact beginF_length _ _ | with_reducible exact chainF_length _ _ _ | with_reducible exact recF_length _ _ | with_reducible exact publicF_length _ | with_reducible exact leafF_length _ _ | with_reducible exact joinedF_length _ _ | with_reducible exact nodeF_length _ _ _ | with_reducible exact rootF_length _ _ _ _ _ | with_reducible exact getD_mem_len (by assumption) (by omega) | (with_reducible exact List.length_replicate))) | rfl) (by first | with_reducible exact key_one _ _ | (with_reducible exact sig_one (by first | assumption | exact SV.nil) (by first | assumption | exact SV.nil) _) | exact v8s_one _ | exact v32s_one _ | exact v64s_one _ | exact vis_one _ | exact vns_one _ | exact v16s_one _ | (intro u hu; simp at hu; rcases hu with h | h <;> subst h <;> rfl) | (intro u hu; simp only [List.mem_cons, List.not_mem_nil, or_false] at hu; subst hu; exact SV.one (by assumption)) | (simp [Value.oneCell']; done)) (by first | (with_reducible exact key_len _ _ (by (first | with_reducible assumption | with_reducible exact shortF_length _ | with_reducible exact stepF_length _ _ _ | with_reducible exact sumF_length _ | with_reducible exact climbF_length _ (by first | with_reducible assumption | with_reducible exact shortF_length _ | with_reducible exact beginF_length _ _ | with_reducible exact getD_mem_len (by assumption) (by omega)) _ _ _ | with_reducible exact beginF_length _ _ | with_reducible exact chainF_length _ _ _ | with_reducible exact recF_length _ _ | with_reducible exact publicF_length _ | with_reducible exact leafF_length _ _ | with_reducible exact joinedF_length _ _ | with_reducible exact nodeF_length _ _ _ | with_reducible exact rootF_length _ _ _ _ _ | with_reducible exact getD_mem_len (by assumption) (by omega) | (with_reducible exact List.length_replicate)))) | with_reducible rfl | (simp only [v8s_length, v32s_length, vis_length, vns_length, v64s_length, List.length_replicate]; first | done | with_reducible assumption | omega) | (rw [v8s_length]; (first | with_reducible assumption | with_reducible exact shortF_length _ | with_reducible exact stepF_length _ _ _ | with_reducible exact sumF_length _ | with_reducible exact climbF_length _ (by first | with_reducible assumption | with_reducible exact shortF_length _ | with_reducible exact beginF_length _ _ | with_reducible exact getD_mem_len (by assumption) (by omega)) _ _ _ | with_reducible exact beginF_length _ _ | with_reducible exact chainF_length _ _ _ | with_reducible exact recF_length _ _ | with_reducible exact publicF_length _ | with_reducible exact leafF_length _ _ | with_reducible exact joinedF_length _ _ | with_reducible exact nodeF_length _ _ _ | with_reducible exact rootF_length _ _ _ _ _ | with_reducible exact getD_mem_len (by assumption) (by omega) | (with_reducible exact List.length_replicate))) | rfl)) (fun _ => ?_)
        refine wpl_nil ?_
        refine ex_then ?_
        refine wpc_seq ?_
        refine wpc_region ?_
        refine wpl_q (q_pure rfl) rfl ?_
        refine wpl_q (q_ldN Tryd.underlying69 rfl Tryd.ti69 rfl (by first | (with_reducible exact key_len _ _ (by (first | with_reducible assumption | with_reducible exact shortF_length _ | with_reducible exact stepF_length _ _ _ | with_reducible exact sumF_length _ | with_reducible exact climbF_length _ (by first | with_reducible assumption | with_reducible exact shortF_length _ | with_reducible exact beginF_length _ _ | with_reducible exact getD_mem_len (by assumption) (by omega)) _ _ _ | with_reducible exact beginF_length _ _ | with_reducible exact chainF_length _ _ _ | with_reducible exact recF_length _ _ | with_reducible exact publicF_length _ | with_reducible exact leafF_length _ _ | with_reducible exact joinedF_length _ _ | with_reducible exact nodeF_length _ _ _ | with_reducible exact rootF_length _ _ _ _ _ | with_reducible exact getD_mem_len (by assumption) (by omega) | (with_reducible exact List.length_replicate)))) | with_reducible rfl | (simp only [v8s_length, v32s_length, vis_length, vns_length, v64s_length, List.length_replicate]; first | done | with_reducible assumption | omega) | (rw [v8s_length]; (first | with_reducible assumption | with_reducible exact shortF_length _ | with_reducible exact stepF_length _ _ _ | with_reducible exact sumF_length _ | with_reducible exact climbF_length _ (by first | with_reducible assumption | with_reducible exact shortF_length _ | with_reducible exact beginF_length _ _ | with_reducible exact getD_mem_len (by assumption) (by omega)) _ _ _ | with_reducible exact beginF_length _ _ | with_reducible exact chainF_length _ _ _ | with_reducible exact recF_length _ _ | with_reducible exact publicF_length _ | with_reducible exact leafF_length _ _ | with_reducible exact joinedF_length _ _ | with_reducible exact nodeF_length _ _ _ | with_reducible exact rootF_length _ _ _ _ _ | with_reducible exact getD_mem_len (by assumption) (by omega) | (with_reducible exact List.length_replicate))) | rfl)) rfl ?_
        refine wpl_q (q_pure rfl) rfl ?_
        refine wpl_t (t_pur Tryd.hb38 rfl fun w h => leaf7 _ _ _ w (by (first | with_reducible assumption | with_reducible exact shortF_length _ | with_reducible exact stepF_length _ _ _ | with_reducible exact sumF_length _ | with_reducible exact climbF_length _ (by first | with_reducible assumption | with_reducible exact shortF_length _ | with_reducible exact beginF_length _ _ | with_reducible exact getD_mem_len (by assumption) (by omega)) _ _ _ | with_reducible exact beginF_length _ _ | with_reducible exact chainF_length _ _ _ | with_reducible exact recF_length _ _ | with_reducible exact publicF_length _ | with_reducible exact leafF_length _ _ | with_reducible exact joinedF_length _ _ | with_reducible exact nodeF_length _ _ _ | with_reducible exact rootF_length _ _ _ _ _ | with_reducible exact getD_mem_len (by assumption) (by omega) | (with_reducible exact List.length_replicate))) (glob h hG)) rfl (fun b34 => ?_)
        refine wpl_q (q_pure rfl) rfl ?_
        refine wpl_tp (t_callP1 Tryd.hb37 rfl fun w h => sign1 _ _ _ w (by (first | with_reducible assumption | with_reducible exact shortF_length _ | with_reducible exact stepF_length _ _ _ | with_reducible exact sumF_length _ | with_reducible exact climbF_length _ (by first | with_reducible assumption | with_reducible exact shortF_length _ | with_reducible exact beginF_length _ _ | with_reducible exact getD_mem_len (by assumption) (by omega)) _ _ _ | with_reducible exact beginF_length _ _ | with_reducible exact chainF_length _ _ _ | with_reducible exact recF_length _ _ | with_reducible exact publicF_length _ | with_reducible exact leafF_length _ _ | with_reducible exact joinedF_length _ _ | with_reducible exact nodeF_length _ _ _ | with_reducible exact rootF_length _ _ _ _ _ | with_reducible exact getD_mem_len (by assumption) (by omega) | (with_reducible exact List.length_replicate))) (by first | exact Seen.re8 h.seenV | exact Seen.reS h.seenV (by first | assumption | exact signF_all _ _ | exact sg_all _ _ | exact sigC_all _ _ _ _ | exact sigP_all _ _ _ | exact pathF_all _ _ _) (by decide) | exact Seen.reN h.seenV | exact h.seenV | exact h.seenA (by first | decide | (simp only [maxLen]; omega)) (by first | (with_reducible exact key_len _ _ (by (first | with_reducible assumption | with_reducible exact shortF_length _ | with_reducible exact stepF_length _ _ _ | with_reducible exact sumF_length _ | with_reducible exact climbF_length _ (by first | with_reducible assumption | with_reducible exact shortF_length _ | with_reducible exact beginF_length _ _ | with_reducible exact getD_mem_len (by assumption) (by omega)) _ _ _ | with_reducible exact beginF_length _ _ | with_reducible exact chainF_length _ _ _ | with_reducible exact recF_length _ _ | with_reducible exact publicF_length _ | with_reducible exact leafF_length _ _ | with_reducible exact joinedF_length _ _ | with_reducible exact nodeF_length _ _ _ | with_reducible exact rootF_length _ _ _ _ _ | with_reducible exact getD_mem_len (by assumption) (by omega) | (with_reducible exact List.length_replicate)))) | with_reducible rfl | (simp only [v8s_length, v32s_length, vis_length, vns_length, v64s_length, List.length_replicate]; first | done | with_reducible assumption | omega) | (rw [v8s_length]; (first | with_reducible assumption | with_reducible exact shortF_length _ | with_reducible exact stepF_length _ _ _ | with_reducible exact sumF_length _ | with_reducible exact climbF_length _ (by first | with_reducible assumption | with_reducible exact shortF_length _ | with_reducible exact beginF_length _ _ | with_reducible exact getD_mem_len (by assumption) (by omega)) _ _ _ | with_reducible exact beginF_length _ _ | with_reducible exact chainF_length _ _ _ | with_reducible exact recF_length _ _ | with_reducible exact publicF_length _ | with_reducible exact leafF_length _ _ | with_reducible exact joinedF_length _ _ | with_reducible exact nodeF_length _ _ _ | with_reducible exact rootF_length _ _ _ _ _ | with_reducible exact getD_mem_len (by assumption) (by omega) | (with_reducible exact List.length_replicate))) | rfl) | exact h.seen_old (by assumption) | exact h.seen_oldL (by assumption) (by assumption) | exact Seen.re8 (h.seen_fact (by repeat (first | exact List.mem_cons_self .. | apply List.mem_cons_of_mem))) | exact h.seen_fact (by repeat (first | exact List.mem_cons_self .. | apply List.mem_cons_of_mem))) (glob h hG)) rfl (fun b36 p36 => ?_)
        refine wpl_q (q_build (cs := [.int .i64 ((q : Nat) : Int), b36, .slice none 0 0]) rfl (built_sig2 p36 _)) rfl ?_
        refine wpl_t (t_alloc Tryd.ti29 _ rfl) rfl (fun b11 => ?_)
        refine wpl_t0 (t_stA Tryd.ti29 rfl rfl (by first | (with_reducible exact key_len _ _ (by (first | with_reducible assumption | with_reducible exact shortF_length _ | with_reducible exact stepF_length _ _ _ | with_reducible exact sumF_length _ | with_reducible exact climbF_length _ (by first | with_reducible assumption | with_reducible exact shortF_length _ | with_reducible exact beginF_length _ _ | with_reducible exact getD_mem_len (by assumption) (by omega)) _ _ _ | with_reducible exact beginF_length _ _ | with_reducible exact chainF_length _ _ _ | with_reducible exact recF_length _ _ | with_reducible exact publicF_length _ | with_reducible exact leafF_length _ _ | with_reducible exact joinedF_length _ _ | with_reducible exact nodeF_length _ _ _ | with_reducible exact rootF_length _ _ _ _ _ | with_reducible exact getD_mem_len (by assumption) (by omega) | (with_reducible exact List.length_replicate)))) | with_reducible rfl | (simp only [v8s_length, v32s_length, vis_length, vns_length, v64s_length, List.length_replicate]; first | done | with_reducible assumption | omega) | (rw [v8s_length]; (first | with_reducible assumption | with_reducible exact shortF_length _ | with_reducible exact stepF_length _ _ _ | with_reducible exact sumF_length _ | with_reducible exact climbF_length _ (by first | with_reducible assumption | with_reducible exact shortF_length _ | with_reducible exact beginF_length _ _ | with_reducible exact getD_mem_len (by assumption) (by omega)) _ _ _ | with_reducible exact beginF_length _ _ | with_reducible exact chainF_length _ _ _ | with_reducible exact recF_length _ _ | with_reducible exact publicF_length _ | with_reducible exact leafF_length _ _ | with_reducible exact joinedF_length _ _ | with_reducible exact nodeF_length _ _ _ | with_reducible exact rootF_length _ _ _ _ _ | with_reducible exact getD_mem_len (by assumption) (by omega) | (with_reducible exact List.length_replicate))) | rfl) (by first | with_reducible exact key_one _ _ | (with_reducible exact sig_one (by first | assumption | exact SV.nil) (by first | assumption | exact SV.nil) _) | exact v8s_one _ | exact v32s_one _ | exact v64s_one _ | exact vis_one _ | exact vns_one _ | exact v16s_one _ | (intro u hu; simp at hu; rcases hu with h | h <;> subst h <;> rfl) | (intro u hu; simp only [List.mem_cons, List.not_mem_nil, or_false] at hu; subst hu; exact SV.one (by assumption)) | (simp [Value.oneCell']; done)) (by first | (with_reducible exact key_len _ _ (by (first | with_reducible assumption | with_reducible exact shortF_length _ | with_reducible exact stepF_length _ _ _ | with_reducible exact sumF_length _ | with_reducible exact climbF_length _ (by first | with_reducible assumption | with_reducible exact shortF_length _ | with_reducible exact beginF_length _ _ | with_reducible exact getD_mem_len (by assumption) (by omega)) _ _ _ | with_reducible exact beginF_length _ _ | with_reducible exact chainF_length _ _ _ | with_reducible exact recF_length _ _ | with_reducible exact publicF_length _ | with_reducible exact leafF_length _ _ | with_reducible exact joinedF_length _ _ | with_reducible exact nodeF_length _ _ _ | with_reducible exact rootF_length _ _ _ _ _ | with_reducible exact getD_mem_len (by assumption) (by omega) | (with_reducible exact List.length_replicate)))) | with_reducible rfl | (simp only [v8s_length, v32s_length, vis_length, vns_length, v64s_length, List.length_replicate]; first | done | with_reducible assumption | omega) | (rw [v8s_length]; (first | with_reducible assumption | with_reducible exact shortF_length _ | with_reducible exact stepF_length _ _ _ | with_reducible exact sumF_length _ | with_reducible exact climbF_length _ (by first | with_reducible assumption | with_reducible exact shortF_length _ | with_reducible exact beginF_length _ _ | with_reducible exact getD_mem_len (by assumption) (by omega)) _ _ _ | with_reducible exact beginF_length _ _ | with_reducible exact chainF_length _ _ _ | with_reducible exact recF_length _ _ | with_reducible exact publicF_length _ | with_reducible exact leafF_length _ _ | with_reducible exact joinedF_length _ _ | with_reducible exact nodeF_length _ _ _ | with_reducible exact rootF_length _ _ _ _ _ | with_reducible exact getD_mem_len (by assumption) (by omega) | (with_reducible exact List.length_replicate))) | rfl)) (fun _ => ?_)
        refine wpl_nil ?_
        refine ex_then ?_
        refine wpc_seq ?_
        refine wpc_seq ?_
        refine wpc_region ?_
        refine wpl_q (q_ldN Tryd.underlying69 rfl Tryd.ti69 rfl (key_len _ _ hxs)) rfl ?_
        refine wpl_tp (t_callPF Tryd.hb35 rfl fun w h => levels7 _ _ w (by (first | with_reducible assumption | with_reducible exact shortF_length _ | with_reducible exact stepF_length _ _ _ | with_reducible exact sumF_length _ | with_reducible exact climbF_length _ (by first | with_reducible assumption | with_reducible exact shortF_length _ | with_reducible exact beginF_length _ _ | with_reducible exact getD_mem_len (by assumption) (by omega)) _ _ _ | with_reducible exact beginF_length _ _ | with_reducible exact chainF_length _ _ _ | with_reducible exact recF_length _ _ | with_reducible exact publicF_length _ | with_reducible exact leafF_length _ _ | with_reducible exact joinedF_length _ _ | with_reducible exact nodeF_length _ _ _ | with_reducible exact rootF_length _ _ _ _ _ | with_reducible exact getD_mem_len (by assumption) (by omega) | (with_reducible exact List.length_replicate))) (by omega) (glob h hG)) rfl (fun b39 p39 => ?_)
        obtain ⟨hq1, hq2⟩ := p39
        refine wpl_q (q_pure rfl) rfl ?_
        refine wpl_q (q_slWh Tryd.underlying67 Tryd.ti27 rfl rfl (by first | assumption | exact SV.nil | exact SV.slv (by assumption) (by omega) (by omega) | exact arv_sv (by first | decide | (simp only [maxLen]; omega))) (by omega)) rfl ?_
        refine wpl_q (q_lenW Tryd.underlying67 rfl (by first | assumption | exact SV.nil | exact SV.slv (by assumption) (by omega) (by omega) | exact arv_sv (by first | decide | (simp only [maxLen]; omega)))) rfl ?_
        refine wpl_q (q_pure rfl) rfl ?_
        refine wpl_nil ?_
        refine ex_then ?_
        refine wpc_block ?_
        refine wpc_loopc (ι := { x : Nat × Value // (x.1 ≤ m) ∧ (SV x.2 x.1) }) [(2, _), (8, _), (11, _), (41, _), (42, _)] (fun x Lc => (43, .int .i64 ((x.1.1 : Nat) : Int)) :: Lc) (fun x => Mem w [] [.row x.1.2 x.1.1 23 16 (v8s (pathF xs q x.1.1).flatten), .row b39.1 (m + 1) 27 1 (b39.2.map Prod.fst), .blk b11 29 [.int .i64 ((q : Nat) : Int), b36, x.1.2], .row b36 35 23 16 (v8s (signF (leafF xs q) bs).flatten), .blk b10 69 (v8s xs ++ [Value.int .i64 ((m : Nat) : Int)]), .blk b8 29 [.int .i64 0, .slice none 0 0, .slice none 0 0]] [rowsF 16 b39.2]) (fun x => m - x.1.1) ⟨(0, .slice none 0 0), ⟨Nat.zero_le _, SV.nil⟩⟩ (by repeat (first | exact trivial | refine ⟨rfl, ?_⟩)) ?_ ?_
        · exact fun w h => by
            dsimp only
            exact (h.nilRow 23 16).sub (.keep (.keep (.keep (.keep (.keep (.keep .nil)))))) (Sub.refl _)
        · rintro ⟨⟨k, vp⟩, ⟨hi0, hi1⟩⟩; try dsimp only
          have hi0 : k ≤ m := hi0; have hi1 : SV vp k := hi1
          refine wpc_seq ?_
          refine wpc_region ?_
          refine wpl_q (q_pure rfl) rfl ?_
          refine wpl_nil ?_
          refine ex_then ?_
          refine wpc_seq ?_
          refine wpc_cond rfl (fun hc44 => ?_) (fun hc44 => ?_)
          ·
            simp only [decide_eq_true_eq] at hc44
            have hkm : k < m := by omega
            obtain ⟨u, hu1, hu2, hu3⟩ := hq2.get (show k < m + 1 by omega)
            have hsl := sib_lt hq hkm
            have hqk : q / 2 ^ k ≤ q := Nat.div_le_self _ _
            have hpk : 2 ^ k ≤ 16 := pow_le16 (by omega)
            have hll := lev_length xs k (2 ^ (m - k))
            have hla := lev_all xs k (2 ^ (m - k))
            have hgl := getD_mem_len hla (i := ((q / 2 ^ k) ^^^ 1)) (by rw [hll]; exact hsl)
            refine wpc_skip ?_
            refine ex_then ?_
            refine wpc_seq ?_
            refine wpc_block ?_
            refine wpc_seq ?_
            refine wpc_region ?_
            refine wpl_q (q_pure rfl) rfl ?_
            refine wpl_q (q_idxW1 Tryd.underlying67 Tryd.ti27 rfl rfl (by first | assumption | exact SV.nil | exact SV.slv (by assumption) (by omega) (by omega) | exact arv_sv (by first | decide | (simp only [maxLen]; omega))) (by first | omega | (simp only [maxLen]; omega) | (simp only [List.length_append, List.length_cons, List.length_nil, List.length_take, maxLen]; omega) | (simp only [List.length_append, List.length_cons, List.length_nil, List.length_take]; omega))) rfl ?_
            refine wpl_q (q_ldW Tryd.underlying27 rfl rfl (fun w h => h.seenV.slv 0 m (Nat.zero_le _) (by omega)) (by rw [Nat.zero_mul, List.drop_zero, List.getElem?_take, if_pos (by omega)]; exact hu1)) rfl ?_
            refine wpl_q (q_pure rfl) rfl ?_
            refine wpl_q (q_pure rfl) rfl ?_
            refine wpl_nil ?_
            refine ex_then ?_
            refine wpc_draw 10 (by kernel_rfl) (fun _ h => h.drew) ?_
            refine wpd_p 0 rfl (by kernel_rfl) trivial (q_field Tryd.underlying29 rfl Tryd.ti27 rfl rfl _ rfl) rfl sk0 ?_
            refine wpd_q 1 rfl (by kernel_rfl) trivial (q_ld Tryd.underlying27 rfl rfl rfl) rfl (fun _ h => h) ?_
            refine wpd_p 2 rfl (by kernel_rfl) trivial (q_pure rfl) rfl sk0 ?_
            refine wpd_p 3 rfl (by kernel_rfl) trivial (q_pure rfl) rfl sk0 ?_
            refine wpd_p 4 rfl (by kernel_rfl) trivial (q_pure rfl) rfl sk0 ?_
            refine wpd_p 5 rfl (by kernel_rfl) trivial (q_shrN rfl rfl (by first | decide | omega)) rfl sk0 ?_
            refine wpd_p 6 rfl (by kernel_rfl) trivial (q_xorN (b := 1) rfl rfl (by first | omega | (simp only [maxLen]; omega) | (simp only [List.length_append, List.length_cons, List.length_nil, List.length_take, maxLen]; omega) | (simp only [List.length_append, List.length_cons, List.length_nil, List.length_take]; omega)) (by first | omega | (simp only [maxLen]; omega) | (simp only [List.length_append, List.length_cons, List.length_nil, List.length_take, maxLen]; omega) | (simp only [List.length_append, List.length_cons, List.length_nil, List.length_take]; omega))) rfl sk0 ?_
            refine wpd_p 7 rfl (by kernel_rfl) trivial (q_idxW Tryd.underlying27 Tryd.ti23 rfl rfl (by first | assumption | exact SV.nil | exact SV.slv (by assumption) (by omega) (by omega) | exact arv_sv (by first | decide | (simp only [maxLen]; omega))) (by first | omega | (simp only [maxLen]; omega) | (simp only [List.length_append, List.length_cons, List.length_nil, List.length_take, maxLen]; omega) | (simp only [List.length_append, List.length_cons, List.length_nil, List.length_take]; omega))) rfl sk0 ?_
            refine wpd_qB 8 [9, 10] rfl (by kernel_rfl) trivial (q_ldWN Tryd.underlying23 rfl Tryd.ti23 rfl (fun w h => h.rowsF (by repeat (first | exact List.mem_cons_self .. | apply List.mem_cons_of_mem)) hu2) (v8s ((lev xs k (2 ^ (m - k))).getD ((q / 2 ^ k) ^^^ 1) [])) (part8 hla (by rw [hll]; exact hsl)) ((v8s_length _).trans hgl)) rfl (fun _ h => h) ?_
            refine wpd_tp 9 rfl (by kernel_rfl) trivial (t_bsS [_] Tryd.underlying27 Tryd.ti23 rfl (by decide) rfl (by decide) (by decide) rfl (all_one (by (first | with_reducible assumption | with_reducible exact shortF_length _ | with_reducible exact stepF_length _ _ _ | with_reducible exact sumF_length _ | with_reducible exact climbF_length _ (by first | with_reducible assumption | with_reducible exact shortF_length _ | with_reducible exact beginF_length _ _ | with_reducible exact getD_mem_len (by assumption) (by omega)) _ _ _ | with_reducible exact beginF_length _ _ | with_reducible exact chainF_length _ _ _ | with_reducible exact recF_length _ _ | with_reducible exact publicF_length _ | with_reducible exact leafF_length _ _ | with_reducible exact joinedF_length _ _ | with_reducible exact nodeF_length _ _ _ | with_reducible exact rootF_length _ _ _ _ _ | with_reducible exact getD_mem_len (by assumption) (by omega) | (with_reducible exact List.length_replicate))))) rfl (fun _ => (fun w h => .inr (h.sub (by repeat (first | exact Sub.nil | exact Sub.refl _ | with_reducible refine Sub.keep ?_ | refine Sub.drop ?_)) (by repeat (first | exact Sub.nil | exact Sub.refl _ | with_reducible refine Sub.keep ?_ | refine Sub.drop ?_))))) (fun b57 p57 => ?_)
            refine wpd_tp 10 rfl (by kernel_rfl) trivial (t_apW Tryd.underlying27 Tryd.ti23 rfl (by decide) rfl rfl (fun w h => by first | exact h.seenV | exact h.seenA (by first | decide | (simp only [maxLen]; omega)) (by first | (with_reducible exact key_len _ _ (by (first | with_reducible assumption | with_reducible exact shortF_length _ | with_reducible exact stepF_length _ _ _ | with_reducible exact sumF_length _ | with_reducible exact climbF_length _ (by first | with_reducible assumption | with_reducible exact shortF_length _ | with_reducible exact beginF_length _ _ | with_reducible exact getD_mem_len (by assumption) (by omega)) _ _ _ | with_reducible exact beginF_length _ _ | with_reducible exact chainF_length _ _ _ | with_reducible exact recF_length _ _ | with_reducible exact publicF_length _ | with_reducible exact leafF_length _ _ | with_reducible exact joinedF_length _ _ | with_reducible exact nodeF_length _ _ _ | with_reducible exact rootF_length _ _ _ _ _ | with_reducible exact getD_mem_len (by assumption) (by omega) | (with_reducible exact List.length_replicate)))) | with_reducible rfl | (simp only [v8s_length, v32s_length, vis_length, vns_length, v64s_length, List.length_replicate]; first | done | with_reducible assumption | omega) | (rw [v8s_length]; (first | with_reducible assumption | with_reducible exact shortF_length _ | with_reducible exact stepF_length _ _ _ | with_reducible exact sumF_length _ | with_reducible exact climbF_length _ (by first | with_reducible assumption | with_reducible exact shortF_length _ | with_reducible exact beginF_length _ _ | with_reducible exact getD_mem_len (by assumption) (by omega)) _ _ _ | with_reducible exact beginF_length _ _ | with_reducible exact chainF_length _ _ _ | with_reducible exact recF_length _ _ | with_reducible exact publicF_length _ | with_reducible exact leafF_length _ _ | with_reducible exact joinedF_length _ _ | with_reducible exact nodeF_length _ _ _ | with_reducible exact rootF_length _ _ _ _ _ | with_reducible exact getD_mem_len (by assumption) (by omega) | (with_reducible exact List.length_replicate))) | rfl) | exact h.seen_old (by assumption) | exact h.seen_oldL (by assumption) (by assumption) | exact h.seen_fact (by repeat (first | exact List.mem_cons_self .. | apply List.mem_cons_of_mem))) (by first | with_reducible exact key_one _ _ | (with_reducible exact sig_one (by first | assumption | exact SV.nil) (by first | assumption | exact SV.nil) _) | exact v8s_one _ | exact v32s_one _ | exact v64s_one _ | exact vis_one _ | exact vns_one _ | exact v16s_one _ | (intro u hu; simp at hu; rcases hu with h | h <;> subst h <;> rfl) | (intro u hu; simp only [List.mem_cons, List.not_mem_nil, or_false] at hu; subst hu; exact SV.one (by assumption)) | (simp [Value.oneCell']; done)) (by first | omega | (simp only [maxLen]; omega) | (simp only [List.length_append, List.length_cons, List.length_nil, List.length_take, maxLen]; omega) | (simp only [List.length_append, List.length_cons, List.length_nil, List.length_take]; omega)) (by first | omega | (simp only [maxLen]; omega) | (simp only [List.length_append, List.length_cons, List.length_nil, List.length_take, maxLen]; omega) | (simp only [List.length_append, List.length_cons, List.length_nil, List.length_take]; omega)) (v8s (pathF xs q (k + 1)).flatten) (by rw [pathF_succ, List.flatten_append, v8s_append, ← lev_get xs k (2 ^ (m - k)) ((q / 2 ^ k) ^^^ 1) hsl])) rfl (fun _ => skk rfl) (fun b58 p58 => ?_)
            refine wpd_p 11 rfl (by kernel_rfl) trivial (q_field Tryd.underlying29 rfl Tryd.ti27 rfl rfl _ rfl) rfl (skk rfl) ?_
            refine wpd_t0 12 rfl (by kernel_rfl) trivial (t_st1 Tryd.ti27 rfl rfl (SV.one (by first | assumption | exact SV.nil | exact SV.slv (by assumption) (by omega) (by omega) | exact arv_sv (by first | decide | (simp only [maxLen]; omega)))) (by first | decide | omega | exact Nat.zero_lt_one | (simp; omega) | (simp; done) | (simp only [v8s_length, v32s_length, vis_length, vns_length, v64s_length]; omega)) _ rfl) (fun _ => skk rfl) (fun _ => ?_)
            refine wpd_done (by kernel_rfl) ?_
            refine ex_block ?_
            refine ex_then ?_
            refine wpc_region ?_
            refine wpl_q (q_addN (b := 1) rfl rfl (by first | omega | (simp only [maxLen]; omega) | (simp only [List.length_append, List.length_cons, List.length_nil, List.length_take, maxLen]; omega) | (simp only [List.length_append, List.length_cons, List.length_nil, List.length_take]; omega))) rfl ?_
            refine wpl_q (q_pure rfl) rfl ?_
            refine wpl_nil ?_
            refine ex_again ⟨(k + 1, b58), ⟨by omega, p58⟩⟩ ?_ ?_ ?_
            · exact (by repeat (first | exact trivial | refine ⟨rfl, ?_⟩))
            · exact fun w h => by first | exact h | exact h.sub (by repeat (first | exact Sub.nil | exact Sub.refl _ | with_reducible refine Sub.keep ?_ | refine Sub.drop ?_)) (by repeat (first | exact Sub.nil | exact Sub.refl _ | with_reducible refine Sub.keep ?_ | refine Sub.drop ?_))
            · (show m - (k + 1) < m - k); omega
          ·
            simp only [decide_eq_false_iff_not] at hc44
            obtain rfl : k = m := by omega
            refine wpc_exit ?_
            refine ex_then_exit ?_
            refine ex_then_exit ?_
            refine ex_block_hit ?_
            refine ex_then ?_
            refine wpc_seq ?_
            refine wpc_region ?_
            refine wpl_q (q_ldN Tryd.underlying29 rfl Tryd.ti29 rfl (by first | (with_reducible exact key_len _ _ (by (first | with_reducible assumption | with_reducible exact shortF_length _ | with_reducible exact stepF_length _ _ _ | with_reducible exact sumF_length _ | with_reducible exact climbF_length _ (by first | with_reducible assumption | with_reducible exact shortF_length _ | with_reducible exact beginF_length _ _ | with_reducible exact getD_mem_len (by assumption) (by omega)) _ _ _ | with_reducible exact beginF_length _ _ | with_reducible exact chainF_length _ _ _ | with_reducible exact recF_length _ _ | with_reducible exact publicF_length _ | with_reducible exact leafF_length _ _ | with_reducible exact joinedF_length _ _ | with_reducible exact nodeF_length _ _ _ | with_reducible exact rootF_length _ _ _ _ _ | with_reducible exact getD_mem_len (by assumption) (by omega) | (with_reducible exact List.length_replicate)))) | with_reducible rfl | (simp only [v8s_length, v32s_length, vis_length, vns_length, v64s_length, List.length_replicate]; first | done | with_reducible assumption | omega) | (rw [v8s_length]; (first | with_reducible assumption | with_reducible exact shortF_length _ | with_reducible exact stepF_length _ _ _ | with_reducible exact sumF_length _ | with_reducible exact climbF_length _ (by first | with_reducible assumption | with_reducible exact shortF_length _ | with_reducible exact beginF_length _ _ | with_reducible exact getD_mem_len (by assumption) (by omega)) _ _ _ | with_reducible exact beginF_length _ _ | with_reducible exact chainF_length _ _ _ | with_reducible exact recF_length _ _ | with_reducible exact publicF_length _ | with_reducible exact leafF_length _ _ | with_reducible exact joinedF_length _ _ | with_reducible exact nodeF_length _ _ _ | with_reducible exact rootF_length _ _ _ _ _ | with_reducible exact getD_mem_len (by assumption) (by omega) | (with_reducible exact List.length_replicate))) | rfl)) rfl ?_
            refine wpl_t0 (t_stA Tryd.ti29 rfl rfl (by first | (with_reducible exact key_len _ _ (by (first | with_reducible assumption | with_reducible exact shortF_length _ | with_reducible exact stepF_length _ _ _ | with_reducible exact sumF_length _ | with_reducible exact climbF_length _ (by first | with_reducible assumption | with_reducible exact shortF_length _ | with_reducible exact beginF_length _ _ | with_reducible exact getD_mem_len (by assumption) (by omega)) _ _ _ | with_reducible exact beginF_length _ _ | with_reducible exact chainF_length _ _ _ | with_reducible exact recF_length _ _ | with_reducible exact publicF_length _ | with_reducible exact leafF_length _ _ | with_reducible exact joinedF_length _ _ | with_reducible exact nodeF_length _ _ _ | with_reducible exact rootF_length _ _ _ _ _ | with_reducible exact getD_mem_len (by assumption) (by omega) | (with_reducible exact List.length_replicate)))) | with_reducible rfl | (simp only [v8s_length, v32s_length, vis_length, vns_length, v64s_length, List.length_replicate]; first | done | with_reducible assumption | omega) | (rw [v8s_length]; (first | with_reducible assumption | with_reducible exact shortF_length _ | with_reducible exact stepF_length _ _ _ | with_reducible exact sumF_length _ | with_reducible exact climbF_length _ (by first | with_reducible assumption | with_reducible exact shortF_length _ | with_reducible exact beginF_length _ _ | with_reducible exact getD_mem_len (by assumption) (by omega)) _ _ _ | with_reducible exact beginF_length _ _ | with_reducible exact chainF_length _ _ _ | with_reducible exact recF_length _ _ | with_reducible exact publicF_length _ | with_reducible exact leafF_length _ _ | with_reducible exact joinedF_length _ _ | with_reducible exact nodeF_length _ _ _ | with_reducible exact rootF_length _ _ _ _ _ | with_reducible exact getD_mem_len (by assumption) (by omega) | (with_reducible exact List.length_replicate))) | rfl) (by first | with_reducible exact key_one _ _ | (with_reducible exact sig_one (by first | assumption | exact SV.nil) (by first | assumption | exact SV.nil) _) | exact v8s_one _ | exact v32s_one _ | exact v64s_one _ | exact vis_one _ | exact vns_one _ | exact v16s_one _ | (intro u hu; simp at hu; rcases hu with h | h <;> subst h <;> rfl) | (intro u hu; simp only [List.mem_cons, List.not_mem_nil, or_false] at hu; subst hu; exact SV.one (by assumption)) | (simp [Value.oneCell']; done)) (by first | (with_reducible exact key_len _ _ (by (first | with_reducible assumption | with_reducible exact shortF_length _ | with_reducible exact stepF_length _ _ _ | with_reducible exact sumF_length _ | with_reducible exact climbF_length _ (by first | with_reducible assumption | with_reducible exact shortF_length _ | with_reducible exact beginF_length _ _ | with_reducible exact getD_mem_len (by assumption) (by omega)) _ _ _ | with_reducible exact beginF_length _ _ | with_reducible exact chainF_length _ _ _ | with_reducible exact recF_length _ _ | with_reducible exact publicF_length _ | with_reducible exact leafF_length _ _ | with_reducible exact joinedF_length _ _ | with_reducible exact nodeF_length _ _ _ | with_reducible exact rootF_length _ _ _ _ _ | with_reducible exact getD_mem_len (by assumption) (by omega) | (with_reducible exact List.length_replicate)))) | with_reducible rfl | (simp only [v8s_length, v32s_length, vis_length, vns_length, v64s_length, List.length_replicate]; first | done | with_reducible assumption | omega) | (rw [v8s_length]; (first | with_reducible assumption | with_reducible exact shortF_length _ | with_reducible exact stepF_length _ _ _ | with_reducible exact sumF_length _ | with_reducible exact climbF_length _ (by first | with_reducible assumption | with_reducible exact shortF_length _ | with_reducible exact beginF_length _ _ | with_reducible exact getD_mem_len (by assumption) (by omega)) _ _ _ | with_reducible exact beginF_length _ _ | with_reducible exact chainF_length _ _ _ | with_reducible exact recF_length _ _ | with_reducible exact publicF_length _ | with_reducible exact leafF_length _ _ | with_reducible exact joinedF_length _ _ | with_reducible exact nodeF_length _ _ _ | with_reducible exact rootF_length _ _ _ _ _ | with_reducible exact getD_mem_len (by assumption) (by omega) | (with_reducible exact List.length_replicate))) | rfl)) (fun _ => ?_)
            refine wpl_q (q_pure rfl) rfl ?_
            refine wpl_nil ?_
            refine ex_then ?_
            refine wpc_ret ?_
            refine retv2 (.inl rfl) rfl (rv_agg Tryd.underlying29 rfl Tryd.ti29 rfl (fun w h => h.atB) rfl) (rv_tmp rfl) ?_
            exact fun w h => by
              rw [e1, e2, e3, e4, signF_length, pathF_length]
              exact ⟨(b36, vp), ⟨p36, hi1⟩, rfl, h.below, by first | exact h.made (.keep (.keep .nil)) .nil | exact (h.sub (M' := [_, _]) (by repeat (first | exact Sub.nil | exact Sub.refl _ | with_reducible refine Sub.keep ?_ | refine Sub.drop ?_)) .nil).swap.made (.keep (.keep .nil)) .nil⟩

end Go.Proofs.YtbkgfndojlhdoaaDoor
