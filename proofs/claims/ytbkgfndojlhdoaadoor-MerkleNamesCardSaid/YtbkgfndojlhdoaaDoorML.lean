/- The law MerkleVerifies. -/
import Derived.Test.YtbkgfndojlhdoaaDoorMK
namespace Go.Proofs.YtbkgfndojlhdoaaDoor
set_option linter.unusedSimpArgs false
set_option linter.unusedVariables false
open Go Go.PL Go.RowKit

theorem of64_nat (m : Nat) (h : m ≤ 1000) : Value.int .u64 ((of64 ((m : Nat) : Int)).toNat : Int) = .int .u64 ((m : Nat) : Int) := by
  rw [of64_toNat]; congr 1; omega
/-- What is signed in bounds. -/
structure SignOk (s : List UInt8) (m q : Nat) (bs : List UInt8) : Prop where
  c : sigC s m q bs = signF (leafF s q) bs
  p : sigP s m q = pathF s q m
  i : sigI m q = q
  e : sigE m q = 0
  ke : keyE m = 0
  kh : keyH m = m
  kr : keyR s m = nodeF s m 0
  chk : checkF m (sigI m q) (sigC s m q bs).length (sigP s m q).length = 0
  root : rootF m (sigI m q) bs (sigC s m q bs) (sigP s m q) = nodeF s m 0
  chs : (sigC s m q bs).length = 35
  pl : (sigP s m q).length = m
theorem signOk (s : List UInt8) {m q : Nat} (bs : List UInt8) (hm : m ≤ 4) (hq : q < 2 ^ m) : SignOk s m q bs := by
  have hok := okS_nat hm hq
  have hk : 0 ≤ (m : Int) ∧ (m : Int) ≤ 4 := by omega
  have e1 : sigC s m q bs = signF (leafF s q) bs := if_pos hok
  have e2 : sigP s m q = pathF s q m := if_pos hok
  have e3 : sigI m q = q := if_pos hok
  refine ⟨e1, e2, e3, if_pos hok, if_pos hk, if_pos hk, if_pos hk, ?_, ?_, by rw [e1, signF_length], by rw [e2, pathF_length]⟩
  · rw [e1, e2, e3]; exact check_sign hm hq
  · rw [e1, e2, e3]; exact root_sign hm hq

set_option maxRecDepth 100000 in
theorem lawVerifies (xs : List UInt8) (ht : Int) (idx : Int) (bv : Value) (bs : List UInt8) (w : World) (hxs : xs.length = 16) (hbv : Seen w.cell? bv bs.length 1 (v8s bs)) (hG : Glb w) :
    Calls Tryd.prog 6 [.agg (v8s xs).toArray, .int .i64 ht, .int .i64 idx, bv].toArray w (Pur w (.bool true)) := by
  have sbv := hbv.sv
  have lbv := sbv.le
  simp only [maxLen] at lbv
  have hkl := keyR_length xs ht
  refine enter (m := 122) (R := Mem w [] [] []) Tryd.func6 rfl rfl (Nat.le_of_ble_eq_true rfl) (Mem.start w) ?_
  refine wpc_seq ?_
  refine wpc_region ?_
  refine wpl_t (t_box rfl (v8s xs) rfl) rfl (fun b4 => ?_)
  refine wpl_q (q_pure rfl) rfl ?_
  refine wpl_nil ?_
  refine ex_then ?_
  refine wpc_seq ?_
  refine wpc_region ?_
  refine wpl_t (t_pur Tryd.hb26 rfl fun w h => alive w (glob h hG)) rfl (fun b16 => ?_)
  refine wpl_q (q_pure rfl) rfl ?_
  refine wpl_nil ?_
  refine ex_then ?_
  refine wpc_seq ?_
  refine wpc_seq ?_
  refine wpc_region ?_
  refine wpl_q (q_pure rfl) rfl ?_
  refine wpl_q (q_lenW Tryd.underlying26 rfl (by first | assumption | exact SV.nil | exact SV.slv (by assumption) (by omega) (by omega) | exact arv_sv (by first | decide | (simp only [maxLen]; omega)))) rfl ?_
  refine wpl_q (q_pure rfl) rfl ?_
  refine wpl_q (q_pure rfl) rfl ?_
  refine wpl_bool2 20 19 rfl rfl (fun hb20 => ?_) (fun hb20 => ?_)
  ·
    try simp only [decide_eq_true_eq, decide_eq_false_iff_not, Bool.and_eq_true, Bool.or_eq_true, beq_iff_eq, bne_iff_ne, ne_eq, Bool.not_eq_true', Bool.not_eq_false', Decidable.not_not] at hb20
    refine wpl_off rfl rfl rfl rfl ?_
    refine wpl_off rfl rfl rfl rfl ?_
    refine wpl_q (q_pure rfl) rfl ?_
    refine wpl_nil ?_
    refine ex_then ?_
    refine wpc_cond_t rfl ?_
    refine wpc_seq ?_
    refine wpc_region ?_
    refine wpl_q (q_pure rfl) rfl ?_
    refine wpl_q (q_pure rfl) rfl ?_
    refine wpl_nil ?_
    refine ex_then ?_
    refine wpc_ret ?_
    refine ex_then_ret ?_
    refine ret1 (.inl rfl) rfl rfl ?_
    exact fun w h => ⟨rfl, h.below⟩
  ·
    try simp only [decide_eq_true_eq, decide_eq_false_iff_not, Bool.and_eq_true, Bool.or_eq_true, beq_iff_eq, bne_iff_ne, ne_eq, Bool.not_eq_true', Bool.not_eq_false', Decidable.not_not] at hb20
    refine wpl_on rfl rfl ?_
    refine wpl_q (q_pure rfl) rfl ?_
    refine wpl_on rfl rfl ?_
    refine wpl_q (q_pure rfl) rfl ?_
    refine wpl_q (q_pure rfl) rfl ?_
    refine wpl_nil ?_
    refine ex_then ?_
    refine wpc_cond_f rfl ?_
    refine wpc_skip ?_
    refine ex_then ?_
    refine wpc_seq ?_
    refine wpc_region ?_
    refine wpl_q (q_ldN Tryd.underlying23 rfl Tryd.ti23 rfl (by first | (with_reducible exact key_len _ _ (by (first | with_reducible assumption | exact L16.h))) | with_reducible rfl | (simp only [v8s_length, v32s_length, vis_length, vns_length, v64s_length, List.length_replicate]; first | done | with_reducible assumption | omega) | (rw [v8s_length]; (first | with_reducible assumption | exact L16.h)) | rfl)) rfl ?_
    refine wpl_q (q_pure rfl) rfl ?_
    refine wpl_t (t_pur Tryd.hb19 rfl fun w h => key7 _ _ w (by (first | with_reducible assumption | exact L16.h)) (glob h hG)) rfl (fun b28 => ?_)
    refine wpl_q (q_pure rfl) rfl ?_
    refine wpl_q (q_pure rfl) rfl ?_
    refine wpl_q (q_pure rfl) rfl ?_
    refine wpl_t (t_alloc Tryd.ti25 _ rfl) rfl (fun b10 => ?_)
    refine wpl_t0 (t_stA Tryd.ti25 rfl rfl (by first | (with_reducible exact key_len _ _ (by (first | with_reducible assumption | exact L16.h))) | with_reducible rfl | (simp only [v8s_length, v32s_length, vis_length, vns_length, v64s_length, List.length_replicate]; first | done | with_reducible assumption | omega) | (rw [v8s_length]; (first | with_reducible assumption | exact L16.h)) | rfl) (by first | with_reducible exact key_one _ _ | (with_reducible exact sig_one (by first | assumption | exact SV.nil) (by first | assumption | exact SV.nil) _) | exact v8s_one _ | exact v32s_one _ | exact v64s_one _ | exact vis_one _ | exact vns_one _ | exact v16s_one _ | (intro u hu; simp at hu; rcases hu with h | h <;> subst h <;> rfl) | (intro u hu; simp only [List.mem_cons, List.not_mem_nil, or_false] at hu; subst hu; exact SV.one (by assumption)) | (simp [Value.oneCell']; done)) (by first | (with_reducible exact key_len _ _ (by (first | with_reducible assumption | exact L16.h))) | with_reducible rfl | (simp only [v8s_length, v32s_length, vis_length, vns_length, v64s_length, List.length_replicate]; first | done | with_reducible assumption | omega) | (rw [v8s_length]; (first | with_reducible assumption | exact L16.h)) | rfl)) (fun _ => ?_)
    refine wpl_q (q_pure rfl) rfl ?_
    refine wpl_nil ?_
    refine ex_then ?_
    refine wpc_seq ?_
    refine wpc_region ?_
    refine wpl_q (q_ldN Tryd.underlying23 rfl Tryd.ti23 rfl (by first | (with_reducible exact key_len _ _ (by (first | with_reducible assumption | exact L16.h))) | with_reducible rfl | (simp only [v8s_length, v32s_length, vis_length, vns_length, v64s_length, List.length_replicate]; first | done | with_reducible assumption | omega) | (rw [v8s_length]; (first | with_reducible assumption | exact L16.h)) | rfl)) rfl ?_
    refine wpl_q (q_pure rfl) rfl ?_
    refine wpl_q (q_pure rfl) rfl ?_
    refine wpl_q (q_pure rfl) rfl ?_
    refine wpl_tp (t_callP2 Tryd.hb21 rfl fun w h => sign7 _ _ _ _ _ w (by (first | with_reducible assumption | exact L16.h)) (by first | exact Seen.re8 h.seenV | exact Seen.reS h.seenV (by first | assumption | exact signF_all _ _ | exact sg_all _ _ | exact sigC_all _ _ _ _ | exact sigP_all _ _ _ | exact pathF_all _ _ _) (by decide) | exact Seen.reN h.seenV | exact h.seenV | exact h.seenA (by first | decide | (simp only [maxLen]; omega)) (by first | (with_reducible exact key_len _ _ (by (first | with_reducible assumption | exact L16.h))) | with_reducible rfl | (simp only [v8s_length, v32s_length, vis_length, vns_length, v64s_length, List.length_replicate]; first | done | with_reducible assumption | omega) | (rw [v8s_length]; (first | with_reducible assumption | exact L16.h)) | rfl) | exact h.seen_old (by assumption) | exact h.seen_oldL (by assumption) (by assumption) | exact Seen.re8 (h.seen_fact (by repeat (first | exact List.mem_cons_self .. | apply List.mem_cons_of_mem))) | exact h.seen_fact (by repeat (first | exact List.mem_cons_self .. | apply List.mem_cons_of_mem))) (glob h hG)) rfl (fun b36 p36 => ?_)
    obtain ⟨hc1, hc2⟩ := p36
    refine wpl_q (q_pure rfl) rfl ?_
    refine wpl_q (q_pure rfl) rfl ?_
    refine wpl_q (q_pure rfl) rfl ?_
    refine wpl_t (t_alloc Tryd.ti29 _ rfl) rfl (fun b12 => ?_)
    refine wpl_t0 (t_stA Tryd.ti29 rfl rfl (by first | (with_reducible exact key_len _ _ (by (first | with_reducible assumption | exact L16.h))) | with_reducible rfl | (simp only [v8s_length, v32s_length, vis_length, vns_length, v64s_length, List.length_replicate]; first | done | with_reducible assumption | omega) | (rw [v8s_length]; (first | with_reducible assumption | exact L16.h)) | rfl) (by first | with_reducible exact key_one _ _ | (with_reducible exact sig_one (by first | assumption | exact SV.nil) (by first | assumption | exact SV.nil) _) | exact v8s_one _ | exact v32s_one _ | exact v64s_one _ | exact vis_one _ | exact vns_one _ | exact v16s_one _ | (intro u hu; simp at hu; rcases hu with h | h <;> subst h <;> rfl) | (intro u hu; simp only [List.mem_cons, List.not_mem_nil, or_false] at hu; subst hu; exact SV.one (by assumption)) | (simp [Value.oneCell']; done)) (by first | (with_reducible exact key_len _ _ (by (first | with_reducible assumption | exact L16.h))) | with_reducible rfl | (simp only [v8s_length, v32s_length, vis_length, vns_length, v64s_length, List.length_replicate]; first | done | with_reducible assumption | omega) | (rw [v8s_length]; (first | with_reducible assumption | exact L16.h)) | rfl)) (fun _ => ?_)
    refine wpl_q (q_pure rfl) rfl ?_
    refine wpl_nil ?_
    refine ex_then ?_
    refine wpc_seq ?_
    refine wpc_seq ?_
    refine wpc_region ?_
    refine wpl_q (q_pure rfl) rfl ?_
    refine wpl_q (q_pure rfl) rfl ?_
    refine wpl_q (q_pure rfl) rfl ?_
    refine wpl_bool2 41 40 rfl rfl (fun hb41 => ?_) (fun hb41 => ?_)
    ·
      try simp only [decide_eq_true_eq, decide_eq_false_iff_not, Bool.and_eq_true, Bool.or_eq_true, beq_iff_eq, bne_iff_ne, ne_eq, Bool.not_eq_true', Bool.not_eq_false', Decidable.not_not] at hb41
      refine wpl_off rfl rfl rfl rfl ?_
      refine wpl_off rfl rfl rfl rfl ?_
      refine wpl_q (q_pure rfl) rfl ?_
      refine wpl_q (q_pure rfl) rfl ?_
      refine wpl_off rfl rfl rfl rfl ?_
      refine wpl_off rfl rfl rfl rfl ?_
      refine wpl_q (q_pure rfl) rfl ?_
      refine wpl_q (q_pure rfl) rfl ?_
      refine wpl_off rfl rfl rfl rfl ?_
      refine wpl_off rfl rfl rfl rfl ?_
      refine wpl_off rfl rfl rfl rfl ?_
      refine wpl_off rfl rfl rfl rfl ?_
      refine wpl_off rfl rfl rfl rfl ?_
      refine wpl_q (q_pure rfl) rfl ?_
      refine wpl_nil ?_
      refine ex_then ?_
      refine wpc_cond_t rfl ?_
      refine wpc_seq ?_
      refine wpc_region ?_
      refine wpl_q (q_pure rfl) rfl ?_
      refine wpl_q (q_pure rfl) rfl ?_
      refine wpl_on rfl rfl ?_
      refine wpl_q (q_pure rfl) rfl ?_
      refine wpl_on rfl rfl ?_
      refine wpl_q (q_tru (q_eqI rfl rfl) (if_neg (fun hk => by obtain ⟨h1, h2, h3⟩ := hk; (try rw [Int.toNat_natCast] at h3); first | omega | (simp only [decide_eq_true_eq] at *; omega)))) rfl ?_
      refine wpl_q (q_pure rfl) rfl ?_
      refine wpl_q (q_pure rfl) rfl ?_
      refine wpl_on rfl rfl ?_
      refine wpl_q (q_field Tryd.underlying29 rfl Tryd.ti3 rfl rfl _ rfl) rfl ?_
      refine wpl_on rfl rfl ?_
      refine wpl_q (q_ld Tryd.underlying3 rfl rfl (by first | exact vns_get (by first | decide | omega | exact Nat.zero_lt_one | (simp; omega) | (simp; done) | (simp only [v8s_length, v32s_length, vis_length, vns_length, v64s_length]; omega)) | rfl)) rfl ?_
      refine wpl_on rfl rfl ?_
      refine wpl_q (q_tru (q_eqI rfl rfl) (if_neg (fun hk => by obtain ⟨h1, h2, h3⟩ := hk; (try rw [Int.toNat_natCast] at h3); first | omega | (simp only [decide_eq_true_eq] at *; omega)))) rfl ?_
      refine wpl_q (q_pure rfl) rfl ?_
      refine wpl_q (q_pure rfl) rfl ?_
      refine wpl_on rfl rfl ?_
      refine wpl_q (q_field Tryd.underlying29 rfl Tryd.ti27 rfl rfl _ rfl) rfl ?_
      refine wpl_on rfl rfl ?_
      refine wpl_q (q_ld Tryd.underlying27 rfl rfl rfl) rfl ?_
      refine wpl_on rfl rfl ?_
      refine wpl_q (q_lenW Tryd.underlying27 rfl (by first | assumption | exact SV.nil | exact SV.slv (by assumption) (by omega) (by omega) | exact arv_sv (by first | decide | (simp only [maxLen]; omega)))) rfl ?_
      refine wpl_on rfl rfl ?_
      refine wpl_q (q_tru (q_eqI rfl rfl) (by rw [show sigC xs _ idx bs = [] from if_neg (fun hk => by obtain ⟨h1, h2, h3⟩ := hk; (try rw [Int.toNat_natCast] at h3); first | omega | (simp only [decide_eq_true_eq] at *; omega))]; rfl)) rfl ?_
      refine wpl_q (q_pure rfl) rfl ?_
      refine wpl_q (q_pure rfl) rfl ?_
      refine wpl_nil ?_
      refine ex_then ?_
      refine wpc_ret ?_
      refine ex_then_ret ?_
      refine ret1 (.inl rfl) rfl rfl ?_
      exact fun w h => ⟨rfl, h.below⟩
    ·
      try simp only [decide_eq_true_eq, decide_eq_false_iff_not, Bool.and_eq_true, Bool.or_eq_true, beq_iff_eq, bne_iff_ne, ne_eq, Bool.not_eq_true', Bool.not_eq_false', Decidable.not_not] at hb41
      refine wpl_on rfl rfl ?_
      refine wpl_q (q_pure rfl) rfl ?_
      refine wpl_on rfl rfl ?_
      refine wpl_q (q_pure rfl) rfl ?_
      refine wpl_q (q_pure rfl) rfl ?_
      refine wpl_q (q_pure rfl) rfl ?_
      refine wpl_bool2 45 43 rfl rfl (fun hb45 => ?_) (fun hb45 => ?_)
      ·
        try simp only [decide_eq_true_eq, decide_eq_false_iff_not, Bool.and_eq_true, Bool.or_eq_true, beq_iff_eq, bne_iff_ne, ne_eq, Bool.not_eq_true', Bool.not_eq_false', Decidable.not_not] at hb45
        refine wpl_off rfl rfl rfl rfl ?_
        refine wpl_off rfl rfl rfl rfl ?_
        refine wpl_q (q_pure rfl) rfl ?_
        refine wpl_q (q_pure rfl) rfl ?_
        refine wpl_off rfl rfl rfl rfl ?_
        refine wpl_off rfl rfl rfl rfl ?_
        refine wpl_off rfl rfl rfl rfl ?_
        refine wpl_off rfl rfl rfl rfl ?_
        refine wpl_off rfl rfl rfl rfl ?_
        refine wpl_q (q_pure rfl) rfl ?_
        refine wpl_nil ?_
        refine ex_then ?_
        refine wpc_cond_t rfl ?_
        refine wpc_seq ?_
        refine wpc_region ?_
        refine wpl_q (q_pure rfl) rfl ?_
        refine wpl_q (q_pure rfl) rfl ?_
        refine wpl_on rfl rfl ?_
        refine wpl_q (q_pure rfl) rfl ?_
        refine wpl_on rfl rfl ?_
        refine wpl_q (q_tru (q_eqI rfl rfl) (if_neg (fun hk => by obtain ⟨h1, h2, h3⟩ := hk; (try rw [Int.toNat_natCast] at h3); first | omega | (simp only [decide_eq_true_eq] at *; omega)))) rfl ?_
        refine wpl_q (q_pure rfl) rfl ?_
        refine wpl_q (q_pure rfl) rfl ?_
        refine wpl_on rfl rfl ?_
        refine wpl_q (q_field Tryd.underlying29 rfl Tryd.ti3 rfl rfl _ rfl) rfl ?_
        refine wpl_on rfl rfl ?_
        refine wpl_q (q_ld Tryd.underlying3 rfl rfl (by first | exact vns_get (by first | decide | omega | exact Nat.zero_lt_one | (simp; omega) | (simp; done) | (simp only [v8s_length, v32s_length, vis_length, vns_length, v64s_length]; omega)) | rfl)) rfl ?_
        refine wpl_on rfl rfl ?_
        refine wpl_q (q_tru (q_eqI rfl rfl) (if_neg (fun hk => by obtain ⟨h1, h2, h3⟩ := hk; (try rw [Int.toNat_natCast] at h3); first | omega | (simp only [decide_eq_true_eq] at *; omega)))) rfl ?_
        refine wpl_q (q_pure rfl) rfl ?_
        refine wpl_q (q_pure rfl) rfl ?_
        refine wpl_on rfl rfl ?_
        refine wpl_q (q_field Tryd.underlying29 rfl Tryd.ti27 rfl rfl _ rfl) rfl ?_
        refine wpl_on rfl rfl ?_
        refine wpl_q (q_ld Tryd.underlying27 rfl rfl rfl) rfl ?_
        refine wpl_on rfl rfl ?_
        refine wpl_q (q_lenW Tryd.underlying27 rfl (by first | assumption | exact SV.nil | exact SV.slv (by assumption) (by omega) (by omega) | exact arv_sv (by first | decide | (simp only [maxLen]; omega)))) rfl ?_
        refine wpl_on rfl rfl ?_
        refine wpl_q (q_tru (q_eqI rfl rfl) (by rw [show sigC xs _ idx bs = [] from if_neg (fun hk => by obtain ⟨h1, h2, h3⟩ := hk; (try rw [Int.toNat_natCast] at h3); first | omega | (simp only [decide_eq_true_eq] at *; omega))]; rfl)) rfl ?_
        refine wpl_q (q_pure rfl) rfl ?_
        refine wpl_q (q_pure rfl) rfl ?_
        refine wpl_nil ?_
        refine ex_then ?_
        refine wpc_ret ?_
        refine ex_then_ret ?_
        refine ret1 (.inl rfl) rfl rfl ?_
        exact fun w h => ⟨rfl, h.below⟩
      ·
        try simp only [decide_eq_false_iff_not] at hb45
        obtain ⟨m, rfl⟩ : ∃ m : Nat, ht = (m : Int) := ⟨ht.toNat, by omega⟩
        have hpw := pow_le16 (m := m) (by omega)
        refine wpl_on rfl rfl ?_
        refine wpl_q (q_pure rfl) rfl ?_
        refine wpl_on rfl rfl ?_
        refine wpl_q (q_pure rfl) rfl ?_
        refine wpl_q (q_pure rfl) rfl ?_
        refine wpl_q (q_pure rfl) rfl ?_
        refine wpl_bool2 49 47 rfl rfl (fun hb49 => ?_) (fun hb49 => ?_)
        ·
          try simp only [decide_eq_true_eq, decide_eq_false_iff_not, Bool.and_eq_true, Bool.or_eq_true, beq_iff_eq, bne_iff_ne, ne_eq, Bool.not_eq_true', Bool.not_eq_false', Decidable.not_not] at hb49
          refine wpl_off rfl rfl rfl rfl ?_
          refine wpl_off rfl rfl rfl rfl ?_
          refine wpl_off rfl rfl rfl rfl ?_
          refine wpl_off rfl rfl rfl rfl ?_
          refine wpl_off rfl rfl rfl rfl ?_
          refine wpl_q (q_pure rfl) rfl ?_
          refine wpl_nil ?_
          refine ex_then ?_
          refine wpc_cond_t rfl ?_
          refine wpc_seq ?_
          refine wpc_region ?_
          refine wpl_q (q_pure rfl) rfl ?_
          refine wpl_q (q_pure rfl) rfl ?_
          refine wpl_on rfl rfl ?_
          refine wpl_q (q_pure rfl) rfl ?_
          refine wpl_on rfl rfl ?_
          refine wpl_q (q_tru (q_eqI rfl rfl) (if_neg (fun hk => by obtain ⟨h1, h2, h3⟩ := hk; (try rw [Int.toNat_natCast] at h3); first | omega | (simp only [decide_eq_true_eq] at *; omega)))) rfl ?_
          refine wpl_q (q_pure rfl) rfl ?_
          refine wpl_q (q_pure rfl) rfl ?_
          refine wpl_on rfl rfl ?_
          refine wpl_q (q_field Tryd.underlying29 rfl Tryd.ti3 rfl rfl _ rfl) rfl ?_
          refine wpl_on rfl rfl ?_
          refine wpl_q (q_ld Tryd.underlying3 rfl rfl (by first | exact vns_get (by first | decide | omega | exact Nat.zero_lt_one | (simp; omega) | (simp; done) | (simp only [v8s_length, v32s_length, vis_length, vns_length, v64s_length]; omega)) | rfl)) rfl ?_
          refine wpl_on rfl rfl ?_
          refine wpl_q (q_tru (q_eqI rfl rfl) (if_neg (fun hk => by obtain ⟨h1, h2, h3⟩ := hk; (try rw [Int.toNat_natCast] at h3); first | omega | (simp only [decide_eq_true_eq] at *; omega)))) rfl ?_
          refine wpl_q (q_pure rfl) rfl ?_
          refine wpl_q (q_pure rfl) rfl ?_
          refine wpl_on rfl rfl ?_
          refine wpl_q (q_field Tryd.underlying29 rfl Tryd.ti27 rfl rfl _ rfl) rfl ?_
          refine wpl_on rfl rfl ?_
          refine wpl_q (q_ld Tryd.underlying27 rfl rfl rfl) rfl ?_
          refine wpl_on rfl rfl ?_
          refine wpl_q (q_lenW Tryd.underlying27 rfl (by first | assumption | exact SV.nil | exact SV.slv (by assumption) (by omega) (by omega) | exact arv_sv (by first | decide | (simp only [maxLen]; omega)))) rfl ?_
          refine wpl_on rfl rfl ?_
          refine wpl_q (q_tru (q_eqI rfl rfl) (by rw [show sigC xs _ idx bs = [] from if_neg (fun hk => by obtain ⟨h1, h2, h3⟩ := hk; (try rw [Int.toNat_natCast] at h3); first | omega | (simp only [decide_eq_true_eq] at *; omega))]; rfl)) rfl ?_
          refine wpl_q (q_pure rfl) rfl ?_
          refine wpl_q (q_pure rfl) rfl ?_
          refine wpl_nil ?_
          refine ex_then ?_
          refine wpc_ret ?_
          refine ex_then_ret ?_
          refine ret1 (.inl rfl) rfl rfl ?_
          exact fun w h => ⟨rfl, h.below⟩
        ·
          try simp only [decide_eq_true_eq, decide_eq_false_iff_not, Bool.and_eq_true, Bool.or_eq_true, beq_iff_eq, bne_iff_ne, ne_eq, Bool.not_eq_true', Bool.not_eq_false', Decidable.not_not] at hb49
          refine wpl_on rfl rfl ?_
          refine wpl_q (q_pure rfl) rfl ?_
          refine wpl_on rfl rfl ?_
          refine wpl_q (q_pure rfl) rfl ?_
          refine wpl_on rfl rfl ?_
          refine wpl_q (qop_eq (q64_conv Tryd.underlying3 Tryd.underlying55 rfl) (of64_nat m (by omega))) rfl ?_
          refine wpl_on rfl rfl ?_
          refine wpl_q (q_shlN (a := 1) rfl rfl (by first | decide | omega) (by first | omega | (simp only [maxLen]; omega) | (simp only [List.length_append, List.length_cons, List.length_nil, List.length_take, maxLen]; omega) | (simp only [List.length_append, List.length_cons, List.length_nil, List.length_take]; omega))) rfl ?_
          refine wpl_on rfl rfl ?_
          refine wpl_q (q_pure rfl) rfl ?_
          refine wpl_q (q_pure rfl) rfl ?_
          refine wpl_nil ?_
          refine ex_then ?_
          refine wpc_cond rfl (fun hc55 => ?_) (fun hc55 => ?_)
          ·
            try simp only [decide_eq_true_eq, decide_eq_false_iff_not, Bool.and_eq_true, Bool.or_eq_true, beq_iff_eq, bne_iff_ne, ne_eq, Bool.not_eq_true', Bool.not_eq_false', Decidable.not_not] at hc55
            refine wpc_seq ?_
            refine wpc_region ?_
            refine wpl_q (q_pure rfl) rfl ?_
            refine wpl_q (q_pure rfl) rfl ?_
            refine wpl_on rfl rfl ?_
            refine wpl_q (q_pure rfl) rfl ?_
            refine wpl_on rfl rfl ?_
            refine wpl_q (q_tru (q_eqI rfl rfl) (if_neg (fun hk => by obtain ⟨h1, h2, h3⟩ := hk; (try rw [Int.toNat_natCast] at h3); first | omega | (simp only [decide_eq_true_eq] at *; omega)))) rfl ?_
            refine wpl_q (q_pure rfl) rfl ?_
            refine wpl_q (q_pure rfl) rfl ?_
            refine wpl_on rfl rfl ?_
            refine wpl_q (q_field Tryd.underlying29 rfl Tryd.ti3 rfl rfl _ rfl) rfl ?_
            refine wpl_on rfl rfl ?_
            refine wpl_q (q_ld Tryd.underlying3 rfl rfl (by first | exact vns_get (by first | decide | omega | exact Nat.zero_lt_one | (simp; omega) | (simp; done) | (simp only [v8s_length, v32s_length, vis_length, vns_length, v64s_length]; omega)) | rfl)) rfl ?_
            refine wpl_on rfl rfl ?_
            refine wpl_q (q_tru (q_eqI rfl rfl) (if_neg (fun hk => by obtain ⟨h1, h2, h3⟩ := hk; (try rw [Int.toNat_natCast] at h3); first | omega | (simp only [decide_eq_true_eq] at *; omega)))) rfl ?_
            refine wpl_q (q_pure rfl) rfl ?_
            refine wpl_q (q_pure rfl) rfl ?_
            refine wpl_on rfl rfl ?_
            refine wpl_q (q_field Tryd.underlying29 rfl Tryd.ti27 rfl rfl _ rfl) rfl ?_
            refine wpl_on rfl rfl ?_
            refine wpl_q (q_ld Tryd.underlying27 rfl rfl rfl) rfl ?_
            refine wpl_on rfl rfl ?_
            refine wpl_q (q_lenW Tryd.underlying27 rfl (by first | assumption | exact SV.nil | exact SV.slv (by assumption) (by omega) (by omega) | exact arv_sv (by first | decide | (simp only [maxLen]; omega)))) rfl ?_
            refine wpl_on rfl rfl ?_
            refine wpl_q (q_tru (q_eqI rfl rfl) (by rw [show sigC xs _ idx bs = [] from if_neg (fun hk => by obtain ⟨h1, h2, h3⟩ := hk; (try rw [Int.toNat_natCast] at h3); first | omega | (simp only [decide_eq_true_eq] at *; omega))]; rfl)) rfl ?_
            refine wpl_q (q_pure rfl) rfl ?_
            refine wpl_q (q_pure rfl) rfl ?_
            refine wpl_nil ?_
            refine ex_then ?_
            refine wpc_ret ?_
            refine ex_then_ret ?_
            refine ret1 (.inl rfl) rfl rfl ?_
            exact fun w h => ⟨rfl, h.below⟩
          ·
            obtain ⟨q, rfl⟩ : ∃ q : Nat, idx = (q : Int) := ⟨idx.toNat, by omega⟩
            have hq : q < 2 ^ m := by
              simp only [decide_eq_false_iff_not] at hc55
              omega
            have hS := signOk xs bs (show m ≤ 4 by omega) hq
            refine wpc_skip ?_
            refine ex_then ?_
            refine wpc_seq ?_
            refine wpc_region ?_
            refine wpl_q (q_pure rfl) rfl ?_
            refine wpl_q (q_pure rfl) rfl ?_
            refine wpl_q (q_ldN Tryd.underlying29 rfl Tryd.ti29 rfl (by first | (with_reducible exact key_len _ _ (by (first | with_reducible assumption | exact L16.h))) | with_reducible rfl | (simp only [v8s_length, v32s_length, vis_length, vns_length, v64s_length, List.length_replicate]; first | done | with_reducible assumption | omega) | (rw [v8s_length]; (first | with_reducible assumption | exact L16.h)) | rfl)) rfl ?_
            refine wpl_t (t_pur Tryd.hb12 rfl fun w h => root7 _ _ _ _ _ _ _ _ w (by first | exact Seen.re8 h.seenV | exact Seen.reS h.seenV (by first | assumption | exact signF_all _ _ | exact sg_all _ _ | exact sigC_all _ _ _ _ | exact sigP_all _ _ _ | exact pathF_all _ _ _) (by decide) | exact Seen.reN h.seenV | exact h.seenV | exact h.seenA (by first | decide | (simp only [maxLen]; omega)) (by first | (with_reducible exact key_len _ _ (by (first | with_reducible assumption | exact L16.h))) | with_reducible rfl | (simp only [v8s_length, v32s_length, vis_length, vns_length, v64s_length, List.length_replicate]; first | done | with_reducible assumption | omega) | (rw [v8s_length]; (first | with_reducible assumption | exact L16.h)) | rfl) | exact h.seen_old (by assumption) | exact h.seen_oldL (by assumption) (by assumption) | exact Seen.re8 (h.seen_fact (by repeat (first | exact List.mem_cons_self .. | apply List.mem_cons_of_mem))) | exact h.seen_fact (by repeat (first | exact List.mem_cons_self .. | apply List.mem_cons_of_mem))) (by first | exact Seen.re8 h.seenV | exact Seen.reS h.seenV (by first | assumption | exact signF_all _ _ | exact sg_all _ _ | exact sigC_all _ _ _ _ | exact sigP_all _ _ _ | exact pathF_all _ _ _) (by decide) | exact Seen.reN h.seenV | exact h.seenV | exact h.seenA (by first | decide | (simp only [maxLen]; omega)) (by first | (with_reducible exact key_len _ _ (by (first | with_reducible assumption | exact L16.h))) | with_reducible rfl | (simp only [v8s_length, v32s_length, vis_length, vns_length, v64s_length, List.length_replicate]; first | done | with_reducible assumption | omega) | (rw [v8s_length]; (first | with_reducible assumption | exact L16.h)) | rfl) | exact h.seen_old (by assumption) | exact h.seen_oldL (by assumption) (by assumption) | exact Seen.re8 (h.seen_fact (by repeat (first | exact List.mem_cons_self .. | apply List.mem_cons_of_mem))) | exact h.seen_fact (by repeat (first | exact List.mem_cons_self .. | apply List.mem_cons_of_mem))) (by first | assumption | exact signF_all _ _ | exact sg_all _ _ | exact sigC_all _ _ _ _ | exact sigP_all _ _ _ | exact pathF_all _ _ _) (by first | exact Seen.re8 h.seenV | exact Seen.reS h.seenV (by first | assumption | exact signF_all _ _ | exact sg_all _ _ | exact sigC_all _ _ _ _ | exact sigP_all _ _ _ | exact pathF_all _ _ _) (by decide) | exact Seen.reN h.seenV | exact h.seenV | exact h.seenA (by first | decide | (simp only [maxLen]; omega)) (by first | (with_reducible exact key_len _ _ (by (first | with_reducible assumption | exact L16.h))) | with_reducible rfl | (simp only [v8s_length, v32s_length, vis_length, vns_length, v64s_length, List.length_replicate]; first | done | with_reducible assumption | omega) | (rw [v8s_length]; (first | with_reducible assumption | exact L16.h)) | rfl) | exact h.seen_old (by assumption) | exact h.seen_oldL (by assumption) (by assumption) | exact Seen.re8 (h.seen_fact (by repeat (first | exact List.mem_cons_self .. | apply List.mem_cons_of_mem))) | exact h.seen_fact (by repeat (first | exact List.mem_cons_self .. | apply List.mem_cons_of_mem))) (by first | assumption | exact signF_all _ _ | exact sg_all _ _ | exact sigC_all _ _ _ _ | exact sigP_all _ _ _ | exact pathF_all _ _ _) (glob h hG)) rfl (fun b76 => ?_)
            refine wpl_q (q_pure rfl) rfl ?_
            refine wpl_q (q_pure rfl) rfl ?_
            refine wpl_q (q_pure rfl) rfl ?_
            refine wpl_t (t_alloc Tryd.ti23 (v8s (List.replicate 16 0)) (by rfl)) rfl (fun b14 => ?_)
            refine wpl_t0 (t_stA Tryd.ti23 rfl rfl (by first | (with_reducible exact key_len _ _ (by (first | with_reducible assumption | exact L16.h))) | with_reducible rfl | (simp only [v8s_length, v32s_length, vis_length, vns_length, v64s_length, List.length_replicate]; first | done | with_reducible assumption | omega) | (rw [v8s_length]; (first | with_reducible assumption | exact L16.h)) | rfl) (v8s_one _) (by first | (with_reducible exact key_len _ _ (by (first | with_reducible assumption | exact L16.h))) | with_reducible rfl | (simp only [v8s_length, v32s_length, vis_length, vns_length, v64s_length, List.length_replicate]; first | done | with_reducible assumption | omega) | (rw [v8s_length]; (first | with_reducible assumption | exact L16.h)) | rfl)) (fun _ => ?_)
            refine wpl_q (q_pure rfl) rfl ?_
            refine wpl_nil ?_
            refine ex_then ?_
            refine wpc_seq ?_
            refine wpc_region ?_
            refine wpl_q (q_pure rfl) rfl ?_
            refine wpl_q (q_pure rfl) rfl ?_
            refine wpl_on rfl rfl ?_
            refine wpl_q (q_pure rfl) rfl ?_
            refine wpl_on rfl rfl ?_
            refine wpl_q (q_tru (q_eqI rfl rfl) hS.ke) rfl ?_
            refine wpl_q (q_pure rfl) rfl ?_
            refine wpl_q (q_pure rfl) rfl ?_
            refine wpl_on rfl rfl ?_
            refine wpl_q (q_pure rfl) rfl ?_
            refine wpl_on rfl rfl ?_
            refine wpl_q (q_tru (q_eqI rfl rfl) hS.e) rfl ?_
            refine wpl_q (q_pure rfl) rfl ?_
            refine wpl_q (q_pure rfl) rfl ?_
            refine wpl_on rfl rfl ?_
            refine wpl_q (q_pure rfl) rfl ?_
            refine wpl_on rfl rfl ?_
            refine wpl_q (q_tru (q_eqI rfl rfl) hS.chk) rfl ?_
            refine wpl_q (q_pure rfl) rfl ?_
            refine wpl_q (q_pure rfl) rfl ?_
            refine wpl_on rfl rfl ?_
            refine wpl_q (q_field Tryd.underlying29 rfl Tryd.ti3 rfl rfl _ rfl) rfl ?_
            refine wpl_on rfl rfl ?_
            refine wpl_q (q_ld Tryd.underlying3 rfl rfl (by first | exact vns_get (by first | decide | omega | exact Nat.zero_lt_one | (simp; omega) | (simp; done) | (simp only [v8s_length, v32s_length, vis_length, vns_length, v64s_length]; omega)) | rfl)) rfl ?_
            refine wpl_on rfl rfl ?_
            refine wpl_q (q_pure rfl) rfl ?_
            refine wpl_on rfl rfl ?_
            refine wpl_q (q_tru (q_eqI rfl rfl) hS.i) rfl ?_
            refine wpl_q (q_pure rfl) rfl ?_
            refine wpl_q (q_pure rfl) rfl ?_
            refine wpl_on rfl rfl ?_
            refine wpl_q (q_ldN Tryd.underlying23 rfl Tryd.ti23 rfl (by first | (with_reducible exact key_len _ _ (by (first | with_reducible assumption | exact L16.h))) | with_reducible rfl | (simp only [v8s_length, v32s_length, vis_length, vns_length, v64s_length, List.length_replicate]; first | done | with_reducible assumption | omega) | (rw [v8s_length]; (first | with_reducible assumption | exact L16.h)) | rfl)) rfl ?_
            refine wpl_on rfl rfl ?_
            refine wpl_q (q_field Tryd.underlying25 rfl Tryd.ti23 rfl rfl _ rfl) rfl ?_
            refine wpl_on rfl rfl ?_
            refine wpl_q (q_ldP Tryd.underlying23 rfl Tryd.ti23 rfl (v8s (keyR xs m)) (key_root _ _ hkl) ((v8s_length _).trans hkl)) rfl ?_
            refine wpl_on rfl rfl ?_
            refine wpl_q (q_tru (q_eq8 eq8_23 (by kernel_rfl) rfl rfl (by first | (first | with_reducible assumption | exact L16.h) | simp) (by first | (first | with_reducible assumption | exact L16.h) | simp)) (hS.root.trans hS.kr.symm)) rfl ?_
            refine wpl_q (q_pure rfl) rfl ?_
            refine wpl_q (q_pure rfl) rfl ?_
            refine wpl_on rfl rfl ?_
            refine wpl_q (q_field Tryd.underlying25 rfl Tryd.ti3 rfl rfl _ rfl) rfl ?_
            refine wpl_on rfl rfl ?_
            refine wpl_q (q_ld Tryd.underlying3 rfl rfl (key_height _ _ hkl)) rfl ?_
            refine wpl_on rfl rfl ?_
            refine wpl_q (q_pure rfl) rfl ?_
            refine wpl_on rfl rfl ?_
            refine wpl_q (q_tru (q_eqI rfl rfl) hS.kh) rfl ?_
            refine wpl_q (q_pure rfl) rfl ?_
            refine wpl_q (q_pure rfl) rfl ?_
            refine wpl_on rfl rfl ?_
            refine wpl_q (q_pure rfl) rfl ?_
            refine wpl_on rfl rfl ?_
            refine wpl_q (q_ldN Tryd.underlying29 rfl Tryd.ti29 rfl (by first | (with_reducible exact key_len _ _ (by (first | with_reducible assumption | exact L16.h))) | with_reducible rfl | (simp only [v8s_length, v32s_length, vis_length, vns_length, v64s_length, List.length_replicate]; first | done | with_reducible assumption | omega) | (rw [v8s_length]; (first | with_reducible assumption | exact L16.h)) | rfl)) rfl ?_
            refine wpl_on rfl rfl ?_
            refine wpl_t (t_pur Tryd.hb14 rfl fun w h => check7 _ _ _ _ _ _ w (by first | exact Seen.re8 h.seenV | exact Seen.reS h.seenV (by first | assumption | exact signF_all _ _ | exact sg_all _ _ | exact sigC_all _ _ _ _ | exact sigP_all _ _ _ | exact pathF_all _ _ _) (by decide) | exact Seen.reN h.seenV | exact h.seenV | exact h.seenA (by first | decide | (simp only [maxLen]; omega)) (by first | (with_reducible exact key_len _ _ (by (first | with_reducible assumption | exact L16.h))) | with_reducible rfl | (simp only [v8s_length, v32s_length, vis_length, vns_length, v64s_length, List.length_replicate]; first | done | with_reducible assumption | omega) | (rw [v8s_length]; (first | with_reducible assumption | exact L16.h)) | rfl) | exact h.seen_old (by assumption) | exact h.seen_oldL (by assumption) (by assumption) | exact Seen.re8 (h.seen_fact (by repeat (first | exact List.mem_cons_self .. | apply List.mem_cons_of_mem))) | exact h.seen_fact (by repeat (first | exact List.mem_cons_self .. | apply List.mem_cons_of_mem))) (by first | assumption | exact signF_all _ _ | exact sg_all _ _ | exact sigC_all _ _ _ _ | exact sigP_all _ _ _ | exact pathF_all _ _ _) (by first | exact Seen.re8 h.seenV | exact Seen.reS h.seenV (by first | assumption | exact signF_all _ _ | exact sg_all _ _ | exact sigC_all _ _ _ _ | exact sigP_all _ _ _ | exact pathF_all _ _ _) (by decide) | exact Seen.reN h.seenV | exact h.seenV | exact h.seenA (by first | decide | (simp only [maxLen]; omega)) (by first | (with_reducible exact key_len _ _ (by (first | with_reducible assumption | exact L16.h))) | with_reducible rfl | (simp only [v8s_length, v32s_length, vis_length, vns_length, v64s_length, List.length_replicate]; first | done | with_reducible assumption | omega) | (rw [v8s_length]; (first | with_reducible assumption | exact L16.h)) | rfl) | exact h.seen_old (by assumption) | exact h.seen_oldL (by assumption) (by assumption) | exact Seen.re8 (h.seen_fact (by repeat (first | exact List.mem_cons_self .. | apply List.mem_cons_of_mem))) | exact h.seen_fact (by repeat (first | exact List.mem_cons_self .. | apply List.mem_cons_of_mem))) (by first | assumption | exact signF_all _ _ | exact sg_all _ _ | exact sigC_all _ _ _ _ | exact sigP_all _ _ _ | exact pathF_all _ _ _)) rfl (fun b113 => ?_)
            refine wpl_on rfl rfl ?_
            refine wpl_q (q_tru (q_eqI rfl rfl) hS.chk) rfl ?_
            refine wpl_q (q_pure rfl) rfl ?_
            refine wpl_q (q_pure rfl) rfl ?_
            refine wpl_on rfl rfl ?_
            refine wpl_q (q_ldN Tryd.underlying25 rfl Tryd.ti25 rfl (by first | (with_reducible exact key_len _ _ (by (first | with_reducible assumption | exact L16.h))) | with_reducible rfl | (simp only [v8s_length, v32s_length, vis_length, vns_length, v64s_length, List.length_replicate]; first | done | with_reducible assumption | omega) | (rw [v8s_length]; (first | with_reducible assumption | exact L16.h)) | rfl)) rfl ?_
            refine wpl_on rfl rfl ?_
            refine wpl_q (q_pure rfl) rfl ?_
            refine wpl_on rfl rfl ?_
            refine wpl_q (q_ldN Tryd.underlying29 rfl Tryd.ti29 rfl (by first | (with_reducible exact key_len _ _ (by (first | with_reducible assumption | exact L16.h))) | with_reducible rfl | (simp only [v8s_length, v32s_length, vis_length, vns_length, v64s_length, List.length_replicate]; first | done | with_reducible assumption | omega) | (rw [v8s_length]; (first | with_reducible assumption | exact L16.h)) | rfl)) rfl ?_
            refine wpl_on rfl rfl ?_
            refine wpl_t (t_pur Tryd.hb16 rfl fun w h => verify7 _ _ _ _ _ _ _ _ _ w (by (first | with_reducible assumption | exact L16.h)) (by first | exact Seen.re8 h.seenV | exact Seen.reS h.seenV (by first | assumption | exact signF_all _ _ | exact sg_all _ _ | exact sigC_all _ _ _ _ | exact sigP_all _ _ _ | exact pathF_all _ _ _) (by decide) | exact Seen.reN h.seenV | exact h.seenV | exact h.seenA (by first | decide | (simp only [maxLen]; omega)) (by first | (with_reducible exact key_len _ _ (by (first | with_reducible assumption | exact L16.h))) | with_reducible rfl | (simp only [v8s_length, v32s_length, vis_length, vns_length, v64s_length, List.length_replicate]; first | done | with_reducible assumption | omega) | (rw [v8s_length]; (first | with_reducible assumption | exact L16.h)) | rfl) | exact h.seen_old (by assumption) | exact h.seen_oldL (by assumption) (by assumption) | exact Seen.re8 (h.seen_fact (by repeat (first | exact List.mem_cons_self .. | apply List.mem_cons_of_mem))) | exact h.seen_fact (by repeat (first | exact List.mem_cons_self .. | apply List.mem_cons_of_mem))) (by first | exact Seen.re8 h.seenV | exact Seen.reS h.seenV (by first | assumption | exact signF_all _ _ | exact sg_all _ _ | exact sigC_all _ _ _ _ | exact sigP_all _ _ _ | exact pathF_all _ _ _) (by decide) | exact Seen.reN h.seenV | exact h.seenV | exact h.seenA (by first | decide | (simp only [maxLen]; omega)) (by first | (with_reducible exact key_len _ _ (by (first | with_reducible assumption | exact L16.h))) | with_reducible rfl | (simp only [v8s_length, v32s_length, vis_length, vns_length, v64s_length, List.length_replicate]; first | done | with_reducible assumption | omega) | (rw [v8s_length]; (first | with_reducible assumption | exact L16.h)) | rfl) | exact h.seen_old (by assumption) | exact h.seen_oldL (by assumption) (by assumption) | exact Seen.re8 (h.seen_fact (by repeat (first | exact List.mem_cons_self .. | apply List.mem_cons_of_mem))) | exact h.seen_fact (by repeat (first | exact List.mem_cons_self .. | apply List.mem_cons_of_mem))) (by first | assumption | exact signF_all _ _ | exact sg_all _ _ | exact sigC_all _ _ _ _ | exact sigP_all _ _ _ | exact pathF_all _ _ _) (by first | exact Seen.re8 h.seenV | exact Seen.reS h.seenV (by first | assumption | exact signF_all _ _ | exact sg_all _ _ | exact sigC_all _ _ _ _ | exact sigP_all _ _ _ | exact pathF_all _ _ _) (by decide) | exact Seen.reN h.seenV | exact h.seenV | exact h.seenA (by first | decide | (simp only [maxLen]; omega)) (by first | (with_reducible exact key_len _ _ (by (first | with_reducible assumption | exact L16.h))) | with_reducible rfl | (simp only [v8s_length, v32s_length, vis_length, vns_length, v64s_length, List.length_replicate]; first | done | with_reducible assumption | omega) | (rw [v8s_length]; (first | with_reducible assumption | exact L16.h)) | rfl) | exact h.seen_old (by assumption) | exact h.seen_oldL (by assumption) (by assumption) | exact Seen.re8 (h.seen_fact (by repeat (first | exact List.mem_cons_self .. | apply List.mem_cons_of_mem))) | exact h.seen_fact (by repeat (first | exact List.mem_cons_self .. | apply List.mem_cons_of_mem))) (by first | assumption | exact signF_all _ _ | exact sg_all _ _ | exact sigC_all _ _ _ _ | exact sigP_all _ _ _ | exact pathF_all _ _ _) (glob h hG)) rfl (fun b120 => ?_)
            refine wpl_re 120 rfl (congrArg Value.bool (decide_eq_true (by rw [hS.kh]; exact ⟨hS.chk, hS.root.trans hS.kr.symm⟩))) ?_
            refine wpl_q (q_pure rfl) rfl ?_
            refine wpl_q (q_pure rfl) rfl ?_
            refine wpl_nil ?_
            refine ex_then ?_
            refine wpc_ret ?_
            refine ret1 (.inl rfl) rfl rfl ?_
            exact fun w h => ⟨rfl, h.below⟩

end Go.Proofs.YtbkgfndojlhdoaaDoor
