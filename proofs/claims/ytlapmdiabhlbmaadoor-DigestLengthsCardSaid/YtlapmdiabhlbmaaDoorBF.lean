/- The law DigestLengths. -/
import Derived.Test.YtlapmdiabhlbmaaDoorBE
namespace Go.Proofs.YtlapmdiabhlbmaaDoor
set_option linter.unusedSimpArgs false
set_option linter.unusedVariables false
open Go Go.PL Go.RowKit

theorem hexD_ok : ∀ j, j < 16 → (48 ≤ (hexD.getD j 0).toNat ∧ (hexD.getD j 0).toNat ≤ 57) ∨ (97 ≤ (hexD.getD j 0).toNat ∧ (hexD.getD j 0).toNat ≤ 102) := by decide
theorem mem_getD {l : List UInt8} {i : Nat} (h : i < l.length) : l.getD i 0 ∈ l := by
  rw [List.getD_eq_getElem?_getD, List.getElem?_eq_getElem h]; exact List.getElem_mem h
theorem hexF_mem (xs : List UInt8) : ∀ n, ∀ c ∈ hexF xs n, (48 ≤ c.toNat ∧ c.toNat ≤ 57) ∨ (97 ≤ c.toNat ∧ c.toNat ≤ 102)
  | 0, c, h => by simp [hexF] at h
  | n + 1, c, h => by
    rw [hexF, List.mem_append, List.mem_append] at h
    rcases h with (h | h) | h
    · exact hexF_mem xs n c h
    · simp only [List.mem_cons, List.not_mem_nil, or_false] at h; subst h; exact hexD_ok _ (sr8_lt _)
    · simp only [List.mem_cons, List.not_mem_nil, or_false] at h; subst h; exact hexD_ok _ (and8_lt _)
theorem hex_char (xs : List UInt8) (n i : Nat) (h : i < (hexF xs n).length) : (48 ≤ ((hexF xs n).getD i 0).toNat ∧ ((hexF xs n).getD i 0).toNat ≤ 57) ∨ (97 ≤ ((hexF xs n).getD i 0).toNat ∧ ((hexF xs n).getD i 0).toNat ≤ 102) := hexF_mem xs n _ (mem_getD h)
/-- A character of base64. -/
def B64ok (c : UInt8) : Prop := c.toNat ≠ 61 ∧ ((65 ≤ c.toNat ∧ c.toNat ≤ 90) ∨ (97 ≤ c.toNat ∧ c.toNat ≤ 122) ∨ (48 ≤ c.toNat ∧ c.toNat ≤ 57) ∨ c.toNat = 43 ∨ c.toNat = 47)
instance (c : UInt8) : Decidable (B64ok c) := by unfold B64ok; infer_instance
theorem b64A_ok : ∀ j, j < 64 → B64ok (b64A.getD j 0) := by decide
theorem b64G_get (xs : List UInt8) (n : Nat) : ∀ m k, k < m → (b64G xs n m).getD k 0 = b64C xs n k
  | 0, k, h => absurd h (Nat.not_lt_zero _)
  | m + 1, k, h => by
    rw [b64G, List.getD_eq_getElem?_getD]
    by_cases e : k < m
    · rw [List.getElem?_append_left (by rw [b64G_length]; exact e), ← List.getD_eq_getElem?_getD, b64G_get xs n m k e]
    · obtain rfl : k = m := by omega
      rw [List.getElem?_append_right (by rw [b64G_length]; exact Nat.le_refl _), b64G_length, Nat.sub_self]; rfl
theorem b64F_get (xs : List UInt8) : ∀ g i, i < 4 * g → (b64F xs g).getD i 0 = b64C (pad3 (xs.drop (3 * (i / 4)))) (min (xs.drop (3 * (i / 4))).length 3) (i % 4)
  | 0, i, h => absurd h (by omega)
  | g + 1, i, h => by
    rw [b64F, List.getD_eq_getElem?_getD]
    by_cases e : i < 4 * g
    · rw [List.getElem?_append_left (by rw [b64F_length]; exact e), ← List.getD_eq_getElem?_getD, b64F_get xs g i e]
    · rw [List.getElem?_append_right (by rw [b64F_length]; omega), b64F_length, ← List.getD_eq_getElem?_getD, b64G_get _ _ 4 _ (by omega)]
      rw [show i / 4 = g by omega, show i - 4 * g = i % 4 by omega]
theorem base64F_length (xs : List UInt8) : (base64F xs).length = (xs.length + 2) / 3 * 4 := by rw [base64F, b64F_length]; omega
theorem base64_char (xs : List UInt8) (i : Nat) (h : i < (base64F xs).length) : (((base64F xs).getD i 0).toNat = 61 ∧ (base64F xs).length - (3 - xs.length % 3) % 3 ≤ i) ∨ (B64ok ((base64F xs).getD i 0) ∧ i < (base64F xs).length - (3 - xs.length % 3) % 3) := by
  rw [base64F_length] at h ⊢
  have e : (base64F xs).getD i 0 = b64C (pad3 (xs.drop (3 * (i / 4)))) (min (xs.drop (3 * (i / 4))).length 3) (i % 4) := b64F_get xs _ i (by omega)
  have hl : (xs.drop (3 * (i / 4))).length = xs.length - 3 * (i / 4) := List.length_drop
  rw [e, b64C]
  split
  · rename_i hlt
    rw [hl] at hlt
    exact .inl ⟨rfl, by omega⟩
  · rename_i hlt
    rw [hl] at hlt
    exact .inr ⟨b64A_ok _ (and63_lt _), by omega⟩

set_option maxRecDepth 100000 in
theorem lawLengths (bv : Value) (bs : List UInt8) (w : World) (hbv : Seen w.cell? bv bs.length 1 (v8s bs)) (hG : Glb w) :
    Calls Tryd.prog 5 [bv].toArray w (Pur w (.bool true)) := by
  have sbv := hbv.sv
  have lbv := sbv.le
  simp only [maxLen] at lbv
  refine enter (m := 126) (R := Mem w [] [] []) Tryd.func5 rfl rfl (Nat.le_of_ble_eq_true rfl) (Mem.start w) ?_
  refine wpc_seq ?_
  refine wpc_region ?_
  refine wpl_q (q_pure rfl) rfl ?_
  refine wpl_nil ?_
  refine ex_then ?_
  refine wpc_seq ?_
  refine wpc_region ?_
  refine wpl_t (t_pur Tryd.hb17 rfl fun w h => alive w (glob h hG)) rfl (fun b10 => ?_)
  refine wpl_q (q_pure rfl) rfl ?_
  refine wpl_nil ?_
  refine ex_then ?_
  refine wpc_seq ?_
  refine wpc_seq ?_
  refine wpc_region ?_
  refine wpl_q (q_pure rfl) rfl ?_
  refine wpl_q (q_lenW Tryd.underlying22 rfl (by first | assumption | exact SV.nil | exact SV.slv (by assumption) (by omega) (by omega) | exact arv_sv (by first | decide | (simp only [maxLen]; omega)))) rfl ?_
  refine wpl_q (q_pure rfl) rfl ?_
  refine wpl_q (q_pure rfl) rfl ?_
  refine wpl_bool2 14 13 rfl rfl (fun hb14 => ?_) (fun hb14 => ?_)
  ·
    try simp only [decide_eq_true_eq, decide_eq_false_iff_not, Bool.and_eq_true, Bool.or_eq_true, beq_iff_eq, bne_iff_ne, ne_eq, Bool.not_eq_true', Bool.not_eq_false', Decidable.not_not] at hb14
    refine wpl_off rfl rfl rfl rfl ?_
    refine wpl_off rfl rfl rfl rfl ?_
    refine wpl_q (q_pure rfl) rfl ?_
    refine wpl_nil ?_
    refine ex_then ?_
    refine wpc_cond_t rfl ?_
    refine wpc_seq ?_
    refine wpc_region ?_
    refine wpl_q (q_pure rfl) rfl ?_
    refine wpl_q (q_pure rfl) rfl ?_
    refine wpl_nil ?_
    refine ex_then ?_
    refine wpc_ret ?_
    refine ex_then_ret ?_
    refine ret1 (.inl rfl) rfl rfl ?_
    exact fun w h => ⟨rfl, h.below⟩
  ·
    try simp only [decide_eq_false_iff_not] at hb14
    have hb0 : bs.length ≤ 2000 := by omega
    have hhl := hexF_length bs bs.length
    have hbl := base64F_length bs
    refine wpl_on rfl rfl ?_
    refine wpl_q (q_pure rfl) rfl ?_
    refine wpl_on rfl rfl ?_
    refine wpl_q (q_pure rfl) rfl ?_
    refine wpl_q (q_pure rfl) rfl ?_
    refine wpl_nil ?_
    refine ex_then ?_
    refine wpc_cond_f rfl ?_
    refine wpc_skip ?_
    refine ex_then ?_
    refine wpc_seq ?_
    refine wpc_region ?_
    refine wpl_q (q_pure rfl) rfl ?_
    refine wpl_t (t_pur Tryd.hb18 rfl fun w h => hexW _ _ w (by first | exact Seen.re8 h.seenV | exact Seen.reS h.seenV (by assumption) (by decide) | exact Seen.reN h.seenV | exact h.seenV | exact h.seenA (by first | decide | (simp only [maxLen]; omega)) (by first | with_reducible rfl | (simp only [v8s_length, v32s_length, vis_length, vns_length, v64s_length, List.length_replicate]; first | done | with_reducible assumption | omega) | (rw [v8s_length]; (first | with_reducible assumption | with_reducible exact shortF_length _ | with_reducible exact stepF_length _ _ _ | with_reducible exact sumF_length _ | with_reducible exact climbF_length _ (by first | with_reducible assumption | with_reducible exact shortF_length _ | with_reducible exact beginF_length _ _ | with_reducible exact getD_mem_len (by assumption) (by omega)) _ _ _ | with_reducible exact beginF_length _ _ | with_reducible exact chainF_length _ _ _ | with_reducible exact recF_length _ _ | with_reducible exact publicF_length _ | with_reducible exact getD_mem_len (by assumption) (by omega) | (with_reducible exact List.length_replicate))) | rfl) | exact h.seen_old (by assumption) | exact h.seen_oldL (by assumption) (by assumption) | exact Seen.re8 (h.seen_fact (by repeat (first | exact List.mem_cons_self .. | apply List.mem_cons_of_mem))) | exact h.seen_fact (by repeat (first | exact List.mem_cons_self .. | apply List.mem_cons_of_mem))) (by first | omega | (simp only [maxLen]; omega) | (simp only [List.length_append, List.length_cons, List.length_nil, List.length_take, maxLen]; omega) | (simp only [List.length_append, List.length_cons, List.length_nil, List.length_take]; omega))) rfl (fun b20 => ?_)
    refine wpl_q (q_pure rfl) rfl ?_
    refine wpl_t (t_pur Tryd.hb19 rfl fun w h => base64 _ _ w (by first | exact Seen.re8 h.seenV | exact Seen.reS h.seenV (by assumption) (by decide) | exact Seen.reN h.seenV | exact h.seenV | exact h.seenA (by first | decide | (simp only [maxLen]; omega)) (by first | with_reducible rfl | (simp only [v8s_length, v32s_length, vis_length, vns_length, v64s_length, List.length_replicate]; first | done | with_reducible assumption | omega) | (rw [v8s_length]; (first | with_reducible assumption | with_reducible exact shortF_length _ | with_reducible exact stepF_length _ _ _ | with_reducible exact sumF_length _ | with_reducible exact climbF_length _ (by first | with_reducible assumption | with_reducible exact shortF_length _ | with_reducible exact beginF_length _ _ | with_reducible exact getD_mem_len (by assumption) (by omega)) _ _ _ | with_reducible exact beginF_length _ _ | with_reducible exact chainF_length _ _ _ | with_reducible exact recF_length _ _ | with_reducible exact publicF_length _ | with_reducible exact getD_mem_len (by assumption) (by omega) | (with_reducible exact List.length_replicate))) | rfl) | exact h.seen_old (by assumption) | exact h.seen_oldL (by assumption) (by assumption) | exact Seen.re8 (h.seen_fact (by repeat (first | exact List.mem_cons_self .. | apply List.mem_cons_of_mem))) | exact h.seen_fact (by repeat (first | exact List.mem_cons_self .. | apply List.mem_cons_of_mem))) (by first | omega | (simp only [maxLen]; omega) | (simp only [List.length_append, List.length_cons, List.length_nil, List.length_take, maxLen]; omega) | (simp only [List.length_append, List.length_cons, List.length_nil, List.length_take]; omega))) rfl (fun b22 => ?_)
    refine wpl_q (q_pure rfl) rfl ?_
    refine wpl_q (q_pure rfl) rfl ?_
    refine wpl_nil ?_
    refine ex_then ?_
    refine wpc_seq ?_
    refine wpc_seq ?_
    refine wpc_region ?_
    refine wpl_q (q_pure rfl) rfl ?_
    refine wpl_q (q_lenS Tryd.underlying9 rfl) rfl ?_
    refine wpl_q (q_pure rfl) rfl ?_
    refine wpl_q (q_lenW Tryd.underlying22 rfl (by first | assumption | exact SV.nil | exact SV.slv (by assumption) (by omega) (by omega) | exact arv_sv (by first | decide | (simp only [maxLen]; omega)))) rfl ?_
    refine wpl_q (q_mulN (a := 2) rfl rfl (by first | omega | (simp only [maxLen]; omega) | (simp only [List.length_append, List.length_cons, List.length_nil, List.length_take, maxLen]; omega) | (simp only [List.length_append, List.length_cons, List.length_nil, List.length_take]; omega))) rfl ?_
    refine wpl_q (q_bt (q_neI rfl rfl) (bnot_false (congrArg (fun n : Nat => (n : Int)) hhl))) rfl ?_
    refine wpl_q (q_pure rfl) rfl ?_
    refine wpl_on rfl rfl ?_
    refine wpl_q (q_pure rfl) rfl ?_
    refine wpl_on rfl rfl ?_
    refine wpl_q (q_lenS Tryd.underlying9 rfl) rfl ?_
    refine wpl_on rfl rfl ?_
    refine wpl_q (q_pure rfl) rfl ?_
    refine wpl_on rfl rfl ?_
    refine wpl_q (q_lenW Tryd.underlying22 rfl (by first | assumption | exact SV.nil | exact SV.slv (by assumption) (by omega) (by omega) | exact arv_sv (by first | decide | (simp only [maxLen]; omega)))) rfl ?_
    refine wpl_on rfl rfl ?_
    refine wpl_q (q_addN (b := 2) rfl rfl (by first | omega | (simp only [maxLen]; omega) | (simp only [List.length_append, List.length_cons, List.length_nil, List.length_take, maxLen]; omega) | (simp only [List.length_append, List.length_cons, List.length_nil, List.length_take]; omega))) rfl ?_
    refine wpl_on rfl rfl ?_
    refine wpl_q (q_quoN (b := 3) rfl rfl (by first | decide | omega) (by first | omega | (simp only [maxLen]; omega) | (simp only [List.length_append, List.length_cons, List.length_nil, List.length_take, maxLen]; omega) | (simp only [List.length_append, List.length_cons, List.length_nil, List.length_take]; omega))) rfl ?_
    refine wpl_on rfl rfl ?_
    refine wpl_q (q_mulN (b := 4) rfl rfl (by first | omega | (simp only [maxLen]; omega) | (simp only [List.length_append, List.length_cons, List.length_nil, List.length_take, maxLen]; omega) | (simp only [List.length_append, List.length_cons, List.length_nil, List.length_take]; omega))) rfl ?_
    refine wpl_on rfl rfl ?_
    refine wpl_q (q_bt (q_neI rfl rfl) (bnot_false (congrArg (fun n : Nat => (n : Int)) hbl))) rfl ?_
    refine wpl_q (q_pure rfl) rfl ?_
    refine wpl_nil ?_
    refine ex_then ?_
    refine wpc_cond_f rfl ?_
    refine wpc_skip ?_
    refine ex_then ?_
    refine wpc_seq ?_
    refine wpc_seq ?_
    refine wpc_region ?_
    refine wpl_q (q_pure rfl) rfl ?_
    refine wpl_nil ?_
    refine ex_then ?_
    refine wpc_block ?_
    refine wpc_loopc (ι := { x : Nat // (x ≤ (hexF bs bs.length).length) }) [(0, _), (3, _), (4, _), (5, _)] (fun x Lc => (6, .int .i64 ((x.1 : Nat) : Int)) :: Lc) (fun x => Mem w [] [] []) (fun x => (hexF bs bs.length).length - x.1) ⟨0, by first | omega | assumption | decide | exact SV.nil | (simp; done) | (dsimp only; omega)⟩ (by repeat (first | exact trivial | refine ⟨rfl, ?_⟩)) ?_ ?_
    · exact fun w h => h
    · rintro ⟨i, hi0⟩; try dsimp only
      have hi0 : i ≤ (hexF bs bs.length).length := hi0
      refine wpc_seq ?_
      refine wpc_seq ?_
      refine wpc_region ?_
      refine wpl_q (q_pure rfl) rfl ?_
      refine wpl_q (q_pure rfl) rfl ?_
      refine wpl_q (q_lenS Tryd.underlying9 rfl) rfl ?_
      refine wpl_q (q_pure rfl) rfl ?_
      refine wpl_nil ?_
      refine ex_then ?_
      refine wpc_cond rfl (fun hc42 => ?_) (fun hc42 => ?_)
      ·
        simp only [decide_eq_true_eq] at hc42
        have hch := hex_char bs bs.length i (by omega)
        refine wpc_skip ?_
        refine ex_then ?_
        refine wpc_seq ?_
        refine wpc_block ?_
        refine wpc_seq ?_
        refine wpc_region ?_
        refine wpl_q (q_pure rfl) rfl ?_
        refine wpl_q (q_pure rfl) rfl ?_
        refine wpl_q (q_strIdx Tryd.underlying9 rfl rfl (by first | omega | (simp only [maxLen]; omega) | (simp only [List.length_append, List.length_cons, List.length_nil, List.length_take, maxLen]; omega) | (simp only [List.length_append, List.length_cons, List.length_nil, List.length_take]; omega))) rfl ?_
        refine wpl_q (q_pure rfl) rfl ?_
        refine wpl_q (q_pure rfl) rfl ?_
        refine wpl_bool2 49 48 rfl rfl (fun hb49 => ?_) (fun hb49 => ?_)
        ·
          try simp only [decide_eq_true_eq, decide_eq_false_iff_not, Bool.and_eq_true, Bool.or_eq_true, beq_iff_eq, bne_iff_ne, ne_eq, Bool.not_eq_true', Bool.not_eq_false', Decidable.not_not] at hb49
          refine wpl_on rfl rfl ?_
          refine wpl_q (q_pure rfl) rfl ?_
          refine wpl_on rfl rfl ?_
          refine wpl_q (q_pure rfl) rfl ?_
          refine wpl_on rfl rfl ?_
          refine wpl_q (q_strIdx Tryd.underlying9 rfl rfl (by first | omega | (simp only [maxLen]; omega) | (simp only [List.length_append, List.length_cons, List.length_nil, List.length_take, maxLen]; omega) | (simp only [List.length_append, List.length_cons, List.length_nil, List.length_take]; omega))) rfl ?_
          refine wpl_on rfl rfl ?_
          refine wpl_q (q_pure rfl) rfl ?_
          refine wpl_q (q_pure rfl) rfl ?_
          refine wpl_q (q_pure rfl) rfl ?_
          refine wpl_bool2 55 53 rfl rfl (fun hb55 => ?_) (fun hb55 => ?_)
          ·
            try simp only [decide_eq_true_eq, decide_eq_false_iff_not, Bool.and_eq_true, Bool.or_eq_true, beq_iff_eq, bne_iff_ne, ne_eq, Bool.not_eq_true', Bool.not_eq_false', Decidable.not_not] at hb55
            refine wpl_off rfl rfl rfl rfl ?_
            refine wpl_off rfl rfl rfl rfl ?_
            refine wpl_off rfl rfl rfl rfl ?_
            refine wpl_off rfl rfl rfl rfl ?_
            refine wpl_off rfl rfl rfl rfl ?_
            refine wpl_off rfl rfl rfl rfl ?_
            refine wpl_off rfl rfl rfl rfl ?_
            refine wpl_off rfl rfl rfl rfl ?_
            refine wpl_off rfl rfl rfl rfl ?_
            refine wpl_off rfl rfl rfl rfl ?_
            refine wpl_q (q_pure rfl) rfl ?_
            refine wpl_q (q_pure rfl) rfl ?_
            refine wpl_nil ?_
            refine ex_then ?_
            refine wpc_cond_f rfl ?_
            refine wpc_skip ?_
            refine ex_block ?_
            refine ex_then ?_
            refine wpc_region ?_
            refine wpl_q (q_pure rfl) rfl ?_
            refine wpl_q (q_addN (b := 1) rfl rfl (by first | omega | (simp only [maxLen]; omega) | (simp only [List.length_append, List.length_cons, List.length_nil, List.length_take, maxLen]; omega) | (simp only [List.length_append, List.length_cons, List.length_nil, List.length_take]; omega))) rfl ?_
            refine wpl_q (q_pure rfl) rfl ?_
            refine wpl_nil ?_
            refine ex_again ⟨i + 1, by first | omega | assumption | decide | exact SV.nil | (simp; done) | (dsimp only; omega)⟩ ?_ ?_ ?_
            · exact (by repeat (first | exact trivial | refine ⟨rfl, ?_⟩))
            · exact fun w h => by first | exact h | exact h.sub (by repeat (first | exact Sub.nil | exact Sub.refl _ | with_reducible refine Sub.keep ?_ | refine Sub.drop ?_)) (by repeat (first | exact Sub.nil | exact Sub.refl _ | with_reducible refine Sub.keep ?_ | refine Sub.drop ?_))
            · (show (hexF bs bs.length).length - (i + 1) < (hexF bs bs.length).length - i); omega
          ·
            try simp only [decide_eq_true_eq, decide_eq_false_iff_not, Bool.and_eq_true, Bool.or_eq_true, beq_iff_eq, bne_iff_ne, ne_eq, Bool.not_eq_true', Bool.not_eq_false', Decidable.not_not] at hb55
            refine wpl_on rfl rfl ?_
            refine wpl_q (q_pure rfl) rfl ?_
            refine wpl_on rfl rfl ?_
            refine wpl_q (q_pure rfl) rfl ?_
            refine wpl_on rfl rfl ?_
            refine wpl_q (q_strIdx Tryd.underlying9 rfl rfl (by first | omega | (simp only [maxLen]; omega) | (simp only [List.length_append, List.length_cons, List.length_nil, List.length_take, maxLen]; omega) | (simp only [List.length_append, List.length_cons, List.length_nil, List.length_take]; omega))) rfl ?_
            refine wpl_on rfl rfl ?_
            refine wpl_q (q_pure rfl) rfl ?_
            refine wpl_on rfl rfl ?_
            refine wpl_q (q_pure rfl) rfl ?_
            refine wpl_bool2 60 59 rfl rfl (fun hb60 => ?_) (fun hb60 => ?_)
            ·
              try simp only [decide_eq_true_eq, decide_eq_false_iff_not, Bool.and_eq_true, Bool.or_eq_true, beq_iff_eq, bne_iff_ne, ne_eq, Bool.not_eq_true', Bool.not_eq_false', Decidable.not_not] at hb60
              refine wpl_on rfl rfl ?_
              refine wpl_q (q_pure rfl) rfl ?_
              refine wpl_on rfl rfl ?_
              refine wpl_q (q_pure rfl) rfl ?_
              refine wpl_on rfl rfl ?_
              refine wpl_q (q_strIdx Tryd.underlying9 rfl rfl (by first | omega | (simp only [maxLen]; omega) | (simp only [List.length_append, List.length_cons, List.length_nil, List.length_take, maxLen]; omega) | (simp only [List.length_append, List.length_cons, List.length_nil, List.length_take]; omega))) rfl ?_
              refine wpl_on rfl rfl ?_
              refine wpl_q (q_pure rfl) rfl ?_
              refine wpl_on rfl rfl ?_
              refine wpl_q (q_pure rfl) rfl ?_
              refine wpl_q (q_pure rfl) rfl ?_
              refine wpl_q (q_pure rfl) rfl ?_
              refine wpl_nil ?_
              refine ex_then ?_
              refine wpc_cond rfl (fun hc67 => ?_) (fun hc67 => ?_)
              ·
                simp only [Bool.not_eq_true', decide_eq_false_iff_not] at hc67; omega
              ·
                try simp only [decide_eq_true_eq, decide_eq_false_iff_not, Bool.and_eq_true, Bool.or_eq_true, beq_iff_eq, bne_iff_ne, ne_eq, Bool.not_eq_true', Bool.not_eq_false', Decidable.not_not] at hc67
                refine wpc_skip ?_
                refine ex_block ?_
                refine ex_then ?_
                refine wpc_region ?_
                refine wpl_q (q_pure rfl) rfl ?_
                refine wpl_q (q_addN (b := 1) rfl rfl (by first | omega | (simp only [maxLen]; omega) | (simp only [List.length_append, List.length_cons, List.length_nil, List.length_take, maxLen]; omega) | (simp only [List.length_append, List.length_cons, List.length_nil, List.length_take]; omega))) rfl ?_
                refine wpl_q (q_pure rfl) rfl ?_
                refine wpl_nil ?_
                refine ex_again ⟨i + 1, by first | omega | assumption | decide | exact SV.nil | (simp; done) | (dsimp only; omega)⟩ ?_ ?_ ?_
                · exact (by repeat (first | exact trivial | refine ⟨rfl, ?_⟩))
                · exact fun w h => by first | exact h | exact h.sub (by repeat (first | exact Sub.nil | exact Sub.refl _ | with_reducible refine Sub.keep ?_ | refine Sub.drop ?_)) (by repeat (first | exact Sub.nil | exact Sub.refl _ | with_reducible refine Sub.keep ?_ | refine Sub.drop ?_))
                · (show (hexF bs bs.length).length - (i + 1) < (hexF bs bs.length).length - i); omega
            ·
              simp only [decide_eq_false_iff_not] at hb60; omega
        ·
          try simp only [decide_eq_true_eq, decide_eq_false_iff_not, Bool.and_eq_true, Bool.or_eq_true, beq_iff_eq, bne_iff_ne, ne_eq, Bool.not_eq_true', Bool.not_eq_false', Decidable.not_not] at hb49
          refine wpl_off rfl rfl rfl rfl ?_
          refine wpl_off rfl rfl rfl rfl ?_
          refine wpl_off rfl rfl rfl rfl ?_
          refine wpl_off rfl rfl rfl rfl ?_
          refine wpl_q (q_pure rfl) rfl ?_
          refine wpl_q (q_pure rfl) rfl ?_
          refine wpl_on rfl rfl ?_
          refine wpl_q (q_pure rfl) rfl ?_
          refine wpl_on rfl rfl ?_
          refine wpl_q (q_pure rfl) rfl ?_
          refine wpl_on rfl rfl ?_
          refine wpl_q (q_strIdx Tryd.underlying9 rfl rfl (by first | omega | (simp only [maxLen]; omega) | (simp only [List.length_append, List.length_cons, List.length_nil, List.length_take, maxLen]; omega) | (simp only [List.length_append, List.length_cons, List.length_nil, List.length_take]; omega))) rfl ?_
          refine wpl_on rfl rfl ?_
          refine wpl_q (q_pure rfl) rfl ?_
          refine wpl_on rfl rfl ?_
          refine wpl_q (q_pure rfl) rfl ?_
          refine wpl_bool2 60 59 rfl rfl (fun hb60 => ?_) (fun hb60 => ?_)
          ·
            try simp only [decide_eq_true_eq, decide_eq_false_iff_not, Bool.and_eq_true, Bool.or_eq_true, beq_iff_eq, bne_iff_ne, ne_eq, Bool.not_eq_true', Bool.not_eq_false', Decidable.not_not] at hb60
            refine wpl_on rfl rfl ?_
            refine wpl_q (q_pure rfl) rfl ?_
            refine wpl_on rfl rfl ?_
            refine wpl_q (q_pure rfl) rfl ?_
            refine wpl_on rfl rfl ?_
            refine wpl_q (q_strIdx Tryd.underlying9 rfl rfl (by first | omega | (simp only [maxLen]; omega) | (simp only [List.length_append, List.length_cons, List.length_nil, List.length_take, maxLen]; omega) | (simp only [List.length_append, List.length_cons, List.length_nil, List.length_take]; omega))) rfl ?_
            refine wpl_on rfl rfl ?_
            refine wpl_q (q_pure rfl) rfl ?_
            refine wpl_on rfl rfl ?_
            refine wpl_q (q_pure rfl) rfl ?_
            refine wpl_q (q_pure rfl) rfl ?_
            refine wpl_q (q_pure rfl) rfl ?_
            refine wpl_nil ?_
            refine ex_then ?_
            refine wpc_cond rfl (fun hc67 => ?_) (fun hc67 => ?_)
            ·
              simp only [Bool.not_eq_true', decide_eq_false_iff_not] at hc67; omega
            ·
              try simp only [decide_eq_true_eq, decide_eq_false_iff_not, Bool.and_eq_true, Bool.or_eq_true, beq_iff_eq, bne_iff_ne, ne_eq, Bool.not_eq_true', Bool.not_eq_false', Decidable.not_not] at hc67
              refine wpc_skip ?_
              refine ex_block ?_
              refine ex_then ?_
              refine wpc_region ?_
              refine wpl_q (q_pure rfl) rfl ?_
              refine wpl_q (q_addN (b := 1) rfl rfl (by first | omega | (simp only [maxLen]; omega) | (simp only [List.length_append, List.length_cons, List.length_nil, List.length_take, maxLen]; omega) | (simp only [List.length_append, List.length_cons, List.length_nil, List.length_take]; omega))) rfl ?_
              refine wpl_q (q_pure rfl) rfl ?_
              refine wpl_nil ?_
              refine ex_again ⟨i + 1, by first | omega | assumption | decide | exact SV.nil | (simp; done) | (dsimp only; omega)⟩ ?_ ?_ ?_
              · exact (by repeat (first | exact trivial | refine ⟨rfl, ?_⟩))
              · exact fun w h => by first | exact h | exact h.sub (by repeat (first | exact Sub.nil | exact Sub.refl _ | with_reducible refine Sub.keep ?_ | refine Sub.drop ?_)) (by repeat (first | exact Sub.nil | exact Sub.refl _ | with_reducible refine Sub.keep ?_ | refine Sub.drop ?_))
              · (show (hexF bs bs.length).length - (i + 1) < (hexF bs bs.length).length - i); omega
          ·
            simp only [decide_eq_false_iff_not] at hb60; omega
      ·
        try simp only [decide_eq_true_eq, decide_eq_false_iff_not, Bool.and_eq_true, Bool.or_eq_true, beq_iff_eq, bne_iff_ne, ne_eq, Bool.not_eq_true', Bool.not_eq_false', Decidable.not_not] at hc42
        refine wpc_exit ?_
        refine ex_then_exit ?_
        refine ex_then_exit ?_
        refine ex_block_hit ?_
        refine ex_then ?_
        refine wpc_seq ?_
        refine wpc_region ?_
        refine wpl_q (q_pure rfl) rfl ?_
        first | refine wpl_re 7 rfl (congrArg (fun n : Nat => Value.int .i64 (n : Int)) (show i - ((base64F bs).length - (3 - bs.length % 3) % 3) + 1 = i + 1 - ((base64F bs).length - (3 - bs.length % 3) % 3) by omega)) ?_ | skip
        refine wpl_nil ?_
        refine ex_then ?_
        refine wpc_seq ?_
        refine wpc_seq ?_
        refine wpc_region ?_
        refine wpl_q (q_pure rfl) rfl ?_
        first | refine wpl_re 7 rfl (congrArg (fun n : Nat => Value.int .i64 (n : Int)) (show i - ((base64F bs).length - (3 - bs.length % 3) % 3) = i + 1 - ((base64F bs).length - (3 - bs.length % 3) % 3) by omega)) ?_ | refine wpl_re 7 rfl (congrArg (fun n : Nat => Value.int .i64 (n : Int)) (show (0 : Nat) = 0 - ((base64F bs).length - (3 - bs.length % 3) % 3) by omega)) ?_ | skip
        refine wpl_nil ?_
        refine ex_then ?_
        refine wpc_block ?_
        refine wpc_loopc (ι := { x : Nat // (x ≤ (base64F bs).length) }) [(0, _), (3, _), (5, _)] (fun x Lc => (8, .int .i64 ((x.1 : Nat) : Int)) :: (7, .int .i64 ((x.1 - ((base64F bs).length - (3 - bs.length % 3) % 3) : Nat) : Int)) :: Lc) (fun x => Mem w [] [] []) (fun x => (base64F bs).length - x.1) ⟨0, by first | omega | assumption | decide | exact SV.nil | (simp; done) | (dsimp only; omega)⟩ (by repeat (first | exact trivial | refine ⟨rfl, ?_⟩)) ?_ ?_
        · exact fun w h => h
        · rintro ⟨i, hi0⟩; try dsimp only
          have hi0 : i ≤ (base64F bs).length := hi0
          refine wpc_seq ?_
          refine wpc_seq ?_
          refine wpc_region ?_
          refine wpl_q (q_pure rfl) rfl ?_
          refine wpl_q (q_pure rfl) rfl ?_
          refine wpl_q (q_lenS Tryd.underlying9 rfl) rfl ?_
          refine wpl_q (q_pure rfl) rfl ?_
          refine wpl_nil ?_
          refine ex_then ?_
          refine wpc_cond rfl (fun hc71 => ?_) (fun hc71 => ?_)
          ·
            simp only [decide_eq_true_eq] at hc71
            have hch := base64_char bs i (by omega)
            simp only [B64ok] at hch
            refine wpc_skip ?_
            refine ex_then ?_
            refine wpc_seq ?_
            refine wpc_block ?_
            refine wpc_seq ?_
            refine wpc_region ?_
            refine wpl_q (q_pure rfl) rfl ?_
            refine wpl_q (q_pure rfl) rfl ?_
            refine wpl_q (q_strIdx Tryd.underlying9 rfl rfl (by first | omega | (simp only [maxLen]; omega) | (simp only [List.length_append, List.length_cons, List.length_nil, List.length_take, maxLen]; omega) | (simp only [List.length_append, List.length_cons, List.length_nil, List.length_take]; omega))) rfl ?_
            refine wpl_q (q_pure rfl) rfl ?_
            refine wpl_nil ?_
            refine ex_then ?_
            refine wpc_seq ?_
            refine wpc_region ?_
            refine wpl_q (q_pure rfl) rfl ?_
            refine wpl_q (q8_eql (b := (61 : UInt8)) rfl rfl) rfl ?_
            refine wpl_nil ?_
            refine ex_then ?_
            refine wpc_cond rfl (fun hc78 => ?_) (fun hc78 => ?_)
            ·
              simp only [decide_eq_true_eq] at hc78
              have hcn : ((base64F bs).getD i 0).toNat = 61 := congrArg UInt8.toNat hc78
              refine wpc_region ?_
              refine wpl_q (q_pure rfl) rfl ?_
              refine wpl_q (q_addN (b := 1) rfl rfl (by first | omega | (simp only [maxLen]; omega) | (simp only [List.length_append, List.length_cons, List.length_nil, List.length_take, maxLen]; omega) | (simp only [List.length_append, List.length_cons, List.length_nil, List.length_take]; omega))) rfl ?_
              refine wpl_q (q_pure rfl) rfl ?_
              first | refine wpl_re 7 rfl (congrArg (fun n : Nat => Value.int .i64 (n : Int)) (show i - ((base64F bs).length - (3 - bs.length % 3) % 3) + 1 = i + 1 - ((base64F bs).length - (3 - bs.length % 3) % 3) by omega)) ?_ | skip
              refine wpl_nil ?_
              refine ex_block ?_
              refine ex_then ?_
              refine wpc_region ?_
              refine wpl_q (q_pure rfl) rfl ?_
              refine wpl_q (q_addN (b := 1) rfl rfl (by first | omega | (simp only [maxLen]; omega) | (simp only [List.length_append, List.length_cons, List.length_nil, List.length_take, maxLen]; omega) | (simp only [List.length_append, List.length_cons, List.length_nil, List.length_take]; omega))) rfl ?_
              refine wpl_q (q_pure rfl) rfl ?_
              first | refine wpl_re 7 rfl (congrArg (fun n : Nat => Value.int .i64 (n : Int)) (show i - ((base64F bs).length - (3 - bs.length % 3) % 3) = i + 1 - ((base64F bs).length - (3 - bs.length % 3) % 3) by omega)) ?_ | refine wpl_re 7 rfl (congrArg (fun n : Nat => Value.int .i64 (n : Int)) (show (0 : Nat) = 0 - ((base64F bs).length - (3 - bs.length % 3) % 3) by omega)) ?_ | skip
              refine wpl_nil ?_
              refine ex_again ⟨i + 1, by first | omega | assumption | decide | exact SV.nil | (simp; done) | (dsimp only; omega)⟩ ?_ ?_ ?_
              · exact (by repeat (first | exact trivial | refine ⟨rfl, ?_⟩))
              · exact fun w h => by first | exact h | exact h.sub (by repeat (first | exact Sub.nil | exact Sub.refl _ | with_reducible refine Sub.keep ?_ | refine Sub.drop ?_)) (by repeat (first | exact Sub.nil | exact Sub.refl _ | with_reducible refine Sub.keep ?_ | refine Sub.drop ?_))
              · (show (base64F bs).length - (i + 1) < (base64F bs).length - i); omega
            ·
              simp only [decide_eq_false_iff_not] at hc78
              have hcn : ((base64F bs).getD i 0).toNat ≠ 61 := (fun e => hc78 (UInt8.toNat_inj.1 (show ((base64F bs).getD i 0).toNat = (61 : UInt8).toNat from e)))
              refine wpc_seq ?_
              refine wpc_region ?_
              refine wpl_q (q_pure rfl) rfl ?_
              refine wpl_q (q_pure rfl) rfl ?_
              refine wpl_q (q_pure rfl) rfl ?_
              refine wpl_bool2 83 82 rfl rfl (fun hb83 => ?_) (fun hb83 => ?_)
              ·
                simp only [decide_eq_true_eq] at hb83; omega
              ·
                try simp only [decide_eq_true_eq, decide_eq_false_iff_not, Bool.and_eq_true, Bool.or_eq_true, beq_iff_eq, bne_iff_ne, ne_eq, Bool.not_eq_true', Bool.not_eq_false', Decidable.not_not] at hb83
                refine wpl_on rfl rfl ?_
                refine wpl_q (q_pure rfl) rfl ?_
                refine wpl_on rfl rfl ?_
                refine wpl_q (q_pure rfl) rfl ?_
                refine wpl_on rfl rfl ?_
                refine wpl_q (q_pure rfl) rfl ?_
                refine wpl_bool2 86 85 rfl rfl (fun hb86 => ?_) (fun hb86 => ?_)
                ·
                  try simp only [decide_eq_true_eq, decide_eq_false_iff_not, Bool.and_eq_true, Bool.or_eq_true, beq_iff_eq, bne_iff_ne, ne_eq, Bool.not_eq_true', Bool.not_eq_false', Decidable.not_not] at hb86
                  refine wpl_on rfl rfl ?_
                  refine wpl_q (q_pure rfl) rfl ?_
                  refine wpl_on rfl rfl ?_
                  refine wpl_q (q_pure rfl) rfl ?_
                  refine wpl_on rfl rfl ?_
                  refine wpl_q (q_pure rfl) rfl ?_
                  refine wpl_on rfl rfl ?_
                  refine wpl_q (q_pure rfl) rfl ?_
                  refine wpl_bool2 90 88 rfl rfl (fun hb90 => ?_) (fun hb90 => ?_)
                  ·
                    try simp only [decide_eq_true_eq, decide_eq_false_iff_not, Bool.and_eq_true, Bool.or_eq_true, beq_iff_eq, bne_iff_ne, ne_eq, Bool.not_eq_true', Bool.not_eq_false', Decidable.not_not] at hb90
                    refine wpl_off rfl rfl rfl rfl ?_
                    refine wpl_off rfl rfl rfl rfl ?_
                    refine wpl_off rfl rfl rfl rfl ?_
                    refine wpl_off rfl rfl rfl rfl ?_
                    refine wpl_off rfl rfl rfl rfl ?_
                    refine wpl_off rfl rfl rfl rfl ?_
                    refine wpl_on rfl rfl ?_
                    refine wpl_q (q_pure rfl) rfl ?_
                    refine wpl_on rfl rfl ?_
                    refine wpl_q (q_pure rfl) rfl ?_
                    refine wpl_off rfl rfl rfl rfl ?_
                    refine wpl_off rfl rfl rfl rfl ?_
                    refine wpl_off rfl rfl rfl rfl ?_
                    refine wpl_off rfl rfl rfl rfl ?_
                    refine wpl_off rfl rfl rfl rfl ?_
                    refine wpl_off rfl rfl rfl rfl ?_
                    refine wpl_on rfl rfl ?_
                    refine wpl_q (q_pure rfl) rfl ?_
                    refine wpl_on rfl rfl ?_
                    refine wpl_q (q_pure rfl) rfl ?_
                    refine wpl_off rfl rfl rfl rfl ?_
                    refine wpl_off rfl rfl rfl rfl ?_
                    refine wpl_on rfl rfl ?_
                    refine wpl_q (q_pure rfl) rfl ?_
                    refine wpl_on rfl rfl ?_
                    refine wpl_q (q_pure rfl) rfl ?_
                    refine wpl_off rfl rfl rfl rfl ?_
                    refine wpl_off rfl rfl rfl rfl ?_
                    refine wpl_on rfl rfl ?_
                    refine wpl_q (q_pure rfl) rfl ?_
                    refine wpl_on rfl rfl ?_
                    refine wpl_q (q_pure rfl) rfl ?_
                    refine wpl_q (q_pure rfl) rfl ?_
                    refine wpl_nil ?_
                    refine ex_then ?_
                    refine wpc_cond_f rfl ?_
                    refine wpc_skip ?_
                    refine ex_block ?_
                    refine ex_then ?_
                    refine wpc_region ?_
                    refine wpl_q (q_pure rfl) rfl ?_
                    refine wpl_q (q_addN (b := 1) rfl rfl (by first | omega | (simp only [maxLen]; omega) | (simp only [List.length_append, List.length_cons, List.length_nil, List.length_take, maxLen]; omega) | (simp only [List.length_append, List.length_cons, List.length_nil, List.length_take]; omega))) rfl ?_
                    refine wpl_q (q_pure rfl) rfl ?_
                    first | refine wpl_re 7 rfl (congrArg (fun n : Nat => Value.int .i64 (n : Int)) (show i - ((base64F bs).length - (3 - bs.length % 3) % 3) = i + 1 - ((base64F bs).length - (3 - bs.length % 3) % 3) by omega)) ?_ | refine wpl_re 7 rfl (congrArg (fun n : Nat => Value.int .i64 (n : Int)) (show (0 : Nat) = 0 - ((base64F bs).length - (3 - bs.length % 3) % 3) by omega)) ?_ | skip
                    refine wpl_nil ?_
                    refine ex_again ⟨i + 1, by first | omega | assumption | decide | exact SV.nil | (simp; done) | (dsimp only; omega)⟩ ?_ ?_ ?_
                    · exact (by repeat (first | exact trivial | refine ⟨rfl, ?_⟩))
                    · exact fun w h => by first | exact h | exact h.sub (by repeat (first | exact Sub.nil | exact Sub.refl _ | with_reducible refine Sub.keep ?_ | refine Sub.drop ?_)) (by repeat (first | exact Sub.nil | exact Sub.refl _ | with_reducible refine Sub.keep ?_ | refine Sub.drop ?_))
                    · (show (base64F bs).length - (i + 1) < (base64F bs).length - i); omega
                  ·
                    try simp only [decide_eq_true_eq, decide_eq_false_iff_not, Bool.and_eq_true, Bool.or_eq_true, beq_iff_eq, bne_iff_ne, ne_eq, Bool.not_eq_true', Bool.not_eq_false', Decidable.not_not] at hb90
                    refine wpl_on rfl rfl ?_
                    refine wpl_q (q_pure rfl) rfl ?_
                    refine wpl_on rfl rfl ?_
                    refine wpl_q (q_pure rfl) rfl ?_
                    refine wpl_on rfl rfl ?_
                    refine wpl_q (q_pure rfl) rfl ?_
                    refine wpl_bool2 93 92 rfl rfl (fun hb93 => ?_) (fun hb93 => ?_)
                    ·
                      try simp only [decide_eq_true_eq, decide_eq_false_iff_not, Bool.and_eq_true, Bool.or_eq_true, beq_iff_eq, bne_iff_ne, ne_eq, Bool.not_eq_true', Bool.not_eq_false', Decidable.not_not] at hb93
                      refine wpl_on rfl rfl ?_
                      refine wpl_q (q_pure rfl) rfl ?_
                      refine wpl_on rfl rfl ?_
                      refine wpl_q (q_pure rfl) rfl ?_
                      refine wpl_on rfl rfl ?_
                      refine wpl_q (q_pure rfl) rfl ?_
                      refine wpl_on rfl rfl ?_
                      refine wpl_q (q_pure rfl) rfl ?_
                      refine wpl_on rfl rfl ?_
                      refine wpl_q (q_pure rfl) rfl ?_
                      refine wpl_bool2 98 95 rfl rfl (fun hb98 => ?_) (fun hb98 => ?_)
                      ·
                        try simp only [decide_eq_true_eq, decide_eq_false_iff_not, Bool.and_eq_true, Bool.or_eq_true, beq_iff_eq, bne_iff_ne, ne_eq, Bool.not_eq_true', Bool.not_eq_false', Decidable.not_not] at hb98
                        refine wpl_off rfl rfl rfl rfl ?_
                        refine wpl_off rfl rfl rfl rfl ?_
                        refine wpl_off rfl rfl rfl rfl ?_
                        refine wpl_off rfl rfl rfl rfl ?_
                        refine wpl_off rfl rfl rfl rfl ?_
                        refine wpl_off rfl rfl rfl rfl ?_
                        refine wpl_on rfl rfl ?_
                        refine wpl_q (q_pure rfl) rfl ?_
                        refine wpl_on rfl rfl ?_
                        refine wpl_q (q_pure rfl) rfl ?_
                        refine wpl_off rfl rfl rfl rfl ?_
                        refine wpl_off rfl rfl rfl rfl ?_
                        refine wpl_on rfl rfl ?_
                        refine wpl_q (q_pure rfl) rfl ?_
                        refine wpl_on rfl rfl ?_
                        refine wpl_q (q_pure rfl) rfl ?_
                        refine wpl_off rfl rfl rfl rfl ?_
                        refine wpl_off rfl rfl rfl rfl ?_
                        refine wpl_on rfl rfl ?_
                        refine wpl_q (q_pure rfl) rfl ?_
                        refine wpl_on rfl rfl ?_
                        refine wpl_q (q_pure rfl) rfl ?_
                        refine wpl_q (q_pure rfl) rfl ?_
                        refine wpl_nil ?_
                        refine ex_then ?_
                        refine wpc_cond_f rfl ?_
                        refine wpc_skip ?_
                        refine ex_block ?_
                        refine ex_then ?_
                        refine wpc_region ?_
                        refine wpl_q (q_pure rfl) rfl ?_
                        refine wpl_q (q_addN (b := 1) rfl rfl (by first | omega | (simp only [maxLen]; omega) | (simp only [List.length_append, List.length_cons, List.length_nil, List.length_take, maxLen]; omega) | (simp only [List.length_append, List.length_cons, List.length_nil, List.length_take]; omega))) rfl ?_
                        refine wpl_q (q_pure rfl) rfl ?_
                        first | refine wpl_re 7 rfl (congrArg (fun n : Nat => Value.int .i64 (n : Int)) (show i - ((base64F bs).length - (3 - bs.length % 3) % 3) = i + 1 - ((base64F bs).length - (3 - bs.length % 3) % 3) by omega)) ?_ | refine wpl_re 7 rfl (congrArg (fun n : Nat => Value.int .i64 (n : Int)) (show (0 : Nat) = 0 - ((base64F bs).length - (3 - bs.length % 3) % 3) by omega)) ?_ | skip
                        refine wpl_nil ?_
                        refine ex_again ⟨i + 1, by first | omega | assumption | decide | exact SV.nil | (simp; done) | (dsimp only; omega)⟩ ?_ ?_ ?_
                        · exact (by repeat (first | exact trivial | refine ⟨rfl, ?_⟩))
                        · exact fun w h => by first | exact h | exact h.sub (by repeat (first | exact Sub.nil | exact Sub.refl _ | with_reducible refine Sub.keep ?_ | refine Sub.drop ?_)) (by repeat (first | exact Sub.nil | exact Sub.refl _ | with_reducible refine Sub.keep ?_ | refine Sub.drop ?_))
                        · (show (base64F bs).length - (i + 1) < (base64F bs).length - i); omega
                      ·
                        try simp only [decide_eq_true_eq, decide_eq_false_iff_not, Bool.and_eq_true, Bool.or_eq_true, beq_iff_eq, bne_iff_ne, ne_eq, Bool.not_eq_true', Bool.not_eq_false', Decidable.not_not] at hb98
                        refine wpl_on rfl rfl ?_
                        refine wpl_q (q_pure rfl) rfl ?_
                        refine wpl_on rfl rfl ?_
                        refine wpl_q (q_pure rfl) rfl ?_
                        refine wpl_on rfl rfl ?_
                        refine wpl_q (q_pure rfl) rfl ?_
                        refine wpl_bool2 101 100 rfl rfl (fun hb101 => ?_) (fun hb101 => ?_)
                        ·
                          try simp only [decide_eq_true_eq, decide_eq_false_iff_not, Bool.and_eq_true, Bool.or_eq_true, beq_iff_eq, bne_iff_ne, ne_eq, Bool.not_eq_true', Bool.not_eq_false', Decidable.not_not] at hb101
                          refine wpl_on rfl rfl ?_
                          refine wpl_q (q_pure rfl) rfl ?_
                          refine wpl_on rfl rfl ?_
                          refine wpl_q (q_pure rfl) rfl ?_
                          refine wpl_on rfl rfl ?_
                          refine wpl_q (q_pure rfl) rfl ?_
                          refine wpl_on rfl rfl ?_
                          refine wpl_q (q_pure rfl) rfl ?_
                          refine wpl_on rfl rfl ?_
                          refine wpl_q (q_pure rfl) rfl ?_
                          refine wpl_bool2 106 103 rfl rfl (fun hb106 => ?_) (fun hb106 => ?_)
                          ·
                            try simp only [decide_eq_true_eq, decide_eq_false_iff_not, Bool.and_eq_true, Bool.or_eq_true, beq_iff_eq, bne_iff_ne, ne_eq, Bool.not_eq_true', Bool.not_eq_false', Decidable.not_not] at hb106
                            refine wpl_off rfl rfl rfl rfl ?_
                            refine wpl_off rfl rfl rfl rfl ?_
                            refine wpl_on rfl rfl ?_
                            refine wpl_q (q_pure rfl) rfl ?_
                            refine wpl_on rfl rfl ?_
                            refine wpl_q (q_pure rfl) rfl ?_
                            refine wpl_off rfl rfl rfl rfl ?_
                            refine wpl_off rfl rfl rfl rfl ?_
                            refine wpl_on rfl rfl ?_
                            refine wpl_q (q_pure rfl) rfl ?_
                            refine wpl_on rfl rfl ?_
                            refine wpl_q (q_pure rfl) rfl ?_
                            refine wpl_q (q_pure rfl) rfl ?_
                            refine wpl_nil ?_
                            refine ex_then ?_
                            refine wpc_cond_f rfl ?_
                            refine wpc_skip ?_
                            refine ex_block ?_
                            refine ex_then ?_
                            refine wpc_region ?_
                            refine wpl_q (q_pure rfl) rfl ?_
                            refine wpl_q (q_addN (b := 1) rfl rfl (by first | omega | (simp only [maxLen]; omega) | (simp only [List.length_append, List.length_cons, List.length_nil, List.length_take, maxLen]; omega) | (simp only [List.length_append, List.length_cons, List.length_nil, List.length_take]; omega))) rfl ?_
                            refine wpl_q (q_pure rfl) rfl ?_
                            first | refine wpl_re 7 rfl (congrArg (fun n : Nat => Value.int .i64 (n : Int)) (show i - ((base64F bs).length - (3 - bs.length % 3) % 3) = i + 1 - ((base64F bs).length - (3 - bs.length % 3) % 3) by omega)) ?_ | refine wpl_re 7 rfl (congrArg (fun n : Nat => Value.int .i64 (n : Int)) (show (0 : Nat) = 0 - ((base64F bs).length - (3 - bs.length % 3) % 3) by omega)) ?_ | skip
                            refine wpl_nil ?_
                            refine ex_again ⟨i + 1, by first | omega | assumption | decide | exact SV.nil | (simp; done) | (dsimp only; omega)⟩ ?_ ?_ ?_
                            · exact (by repeat (first | exact trivial | refine ⟨rfl, ?_⟩))
                            · exact fun w h => by first | exact h | exact h.sub (by repeat (first | exact Sub.nil | exact Sub.refl _ | with_reducible refine Sub.keep ?_ | refine Sub.drop ?_)) (by repeat (first | exact Sub.nil | exact Sub.refl _ | with_reducible refine Sub.keep ?_ | refine Sub.drop ?_))
                            · (show (base64F bs).length - (i + 1) < (base64F bs).length - i); omega
                          ·
                            try simp only [decide_eq_true_eq, decide_eq_false_iff_not, Bool.and_eq_true, Bool.or_eq_true, beq_iff_eq, bne_iff_ne, ne_eq, Bool.not_eq_true', Bool.not_eq_false', Decidable.not_not] at hb106
                            refine wpl_on rfl rfl ?_
                            refine wpl_q (q_pure rfl) rfl ?_
                            refine wpl_on rfl rfl ?_
                            refine wpl_q (q8_eql (b := (43 : UInt8)) rfl rfl) rfl ?_
                            refine wpl_on rfl rfl ?_
                            refine wpl_q (q_pure rfl) rfl ?_
                            refine wpl_on rfl rfl ?_
                            refine wpl_q (q_pure rfl) rfl ?_
                            refine wpl_bool2 110 108 rfl rfl (fun hb110 => ?_) (fun hb110 => ?_)
                            ·
                              try simp only [decide_eq_true_eq, decide_eq_false_iff_not, Bool.and_eq_true, Bool.or_eq_true, beq_iff_eq, bne_iff_ne, ne_eq, Bool.not_eq_true', Bool.not_eq_false', Decidable.not_not] at hb110
                              refine wpl_off rfl rfl rfl rfl ?_
                              refine wpl_off rfl rfl rfl rfl ?_
                              refine wpl_on rfl rfl ?_
                              refine wpl_q (q_pure rfl) rfl ?_
                              refine wpl_on rfl rfl ?_
                              refine wpl_q (q_pure rfl) rfl ?_
                              refine wpl_q (q_pure rfl) rfl ?_
                              refine wpl_nil ?_
                              refine ex_then ?_
                              refine wpc_cond_f rfl ?_
                              refine wpc_skip ?_
                              refine ex_block ?_
                              refine ex_then ?_
                              refine wpc_region ?_
                              refine wpl_q (q_pure rfl) rfl ?_
                              refine wpl_q (q_addN (b := 1) rfl rfl (by first | omega | (simp only [maxLen]; omega) | (simp only [List.length_append, List.length_cons, List.length_nil, List.length_take, maxLen]; omega) | (simp only [List.length_append, List.length_cons, List.length_nil, List.length_take]; omega))) rfl ?_
                              refine wpl_q (q_pure rfl) rfl ?_
                              first | refine wpl_re 7 rfl (congrArg (fun n : Nat => Value.int .i64 (n : Int)) (show i - ((base64F bs).length - (3 - bs.length % 3) % 3) = i + 1 - ((base64F bs).length - (3 - bs.length % 3) % 3) by omega)) ?_ | refine wpl_re 7 rfl (congrArg (fun n : Nat => Value.int .i64 (n : Int)) (show (0 : Nat) = 0 - ((base64F bs).length - (3 - bs.length % 3) % 3) by omega)) ?_ | skip
                              refine wpl_nil ?_
                              refine ex_again ⟨i + 1, by first | omega | assumption | decide | exact SV.nil | (simp; done) | (dsimp only; omega)⟩ ?_ ?_ ?_
                              · exact (by repeat (first | exact trivial | refine ⟨rfl, ?_⟩))
                              · exact fun w h => by first | exact h | exact h.sub (by repeat (first | exact Sub.nil | exact Sub.refl _ | with_reducible refine Sub.keep ?_ | refine Sub.drop ?_)) (by repeat (first | exact Sub.nil | exact Sub.refl _ | with_reducible refine Sub.keep ?_ | refine Sub.drop ?_))
                              · (show (base64F bs).length - (i + 1) < (base64F bs).length - i); omega
                            ·
                              try simp only [decide_eq_false_iff_not] at hb110
                              have h43 : ((base64F bs).getD i 0).toNat ≠ 43 := (fun e => hb110 (UInt8.toNat_inj.1 (show ((base64F bs).getD i 0).toNat = (43 : UInt8).toNat from e)))
                              refine wpl_on rfl rfl ?_
                              refine wpl_q (q_pure rfl) rfl ?_
                              refine wpl_on rfl rfl ?_
                              refine wpl_q (q8_eql (b := (47 : UInt8)) rfl rfl) rfl ?_
                              refine wpl_on rfl rfl ?_
                              refine wpl_q (q_pure rfl) rfl ?_
                              refine wpl_on rfl rfl ?_
                              refine wpl_q (q_pure rfl) rfl ?_
                              refine wpl_q (q_pure rfl) rfl ?_
                              refine wpl_nil ?_
                              refine ex_then ?_
                              refine wpc_cond rfl (fun hc115 => ?_) (fun hc115 => ?_)
                              ·
                                simp only [Bool.not_eq_true', decide_eq_false_iff_not] at hc115; have h47 : ((base64F bs).getD i 0).toNat ≠ 47 := (fun e => hc115 (UInt8.toNat_inj.1 (show ((base64F bs).getD i 0).toNat = (47 : UInt8).toNat from e))); omega
                              ·
                                try simp only [decide_eq_true_eq, decide_eq_false_iff_not, Bool.and_eq_true, Bool.or_eq_true, beq_iff_eq, bne_iff_ne, ne_eq, Bool.not_eq_true', Bool.not_eq_false', Decidable.not_not] at hc115
                                refine wpc_skip ?_
                                refine ex_block ?_
                                refine ex_then ?_
                                refine wpc_region ?_
                                refine wpl_q (q_pure rfl) rfl ?_
                                refine wpl_q (q_addN (b := 1) rfl rfl (by first | omega | (simp only [maxLen]; omega) | (simp only [List.length_append, List.length_cons, List.length_nil, List.length_take, maxLen]; omega) | (simp only [List.length_append, List.length_cons, List.length_nil, List.length_take]; omega))) rfl ?_
                                refine wpl_q (q_pure rfl) rfl ?_
                                first | refine wpl_re 7 rfl (congrArg (fun n : Nat => Value.int .i64 (n : Int)) (show i - ((base64F bs).length - (3 - bs.length % 3) % 3) = i + 1 - ((base64F bs).length - (3 - bs.length % 3) % 3) by omega)) ?_ | refine wpl_re 7 rfl (congrArg (fun n : Nat => Value.int .i64 (n : Int)) (show (0 : Nat) = 0 - ((base64F bs).length - (3 - bs.length % 3) % 3) by omega)) ?_ | skip
                                refine wpl_nil ?_
                                refine ex_again ⟨i + 1, by first | omega | assumption | decide | exact SV.nil | (simp; done) | (dsimp only; omega)⟩ ?_ ?_ ?_
                                · exact (by repeat (first | exact trivial | refine ⟨rfl, ?_⟩))
                                · exact fun w h => by first | exact h | exact h.sub (by repeat (first | exact Sub.nil | exact Sub.refl _ | with_reducible refine Sub.keep ?_ | refine Sub.drop ?_)) (by repeat (first | exact Sub.nil | exact Sub.refl _ | with_reducible refine Sub.keep ?_ | refine Sub.drop ?_))
                                · (show (base64F bs).length - (i + 1) < (base64F bs).length - i); omega
                        ·
                          try simp only [decide_eq_true_eq, decide_eq_false_iff_not, Bool.and_eq_true, Bool.or_eq_true, beq_iff_eq, bne_iff_ne, ne_eq, Bool.not_eq_true', Bool.not_eq_false', Decidable.not_not] at hb101
                          refine wpl_off rfl rfl rfl rfl ?_
                          refine wpl_off rfl rfl rfl rfl ?_
                          refine wpl_on rfl rfl ?_
                          refine wpl_q (q_pure rfl) rfl ?_
                          refine wpl_on rfl rfl ?_
                          refine wpl_q (q_pure rfl) rfl ?_
                          refine wpl_on rfl rfl ?_
                          refine wpl_q (q_pure rfl) rfl ?_
                          refine wpl_on rfl rfl ?_
                          refine wpl_q (q_pure rfl) rfl ?_
                          refine wpl_on rfl rfl ?_
                          refine wpl_q (q8_eql (b := (43 : UInt8)) rfl rfl) rfl ?_
                          refine wpl_on rfl rfl ?_
                          refine wpl_q (q_pure rfl) rfl ?_
                          refine wpl_on rfl rfl ?_
                          refine wpl_q (q_pure rfl) rfl ?_
                          refine wpl_bool2 110 108 rfl rfl (fun hb110 => ?_) (fun hb110 => ?_)
                          ·
                            try simp only [decide_eq_true_eq, decide_eq_false_iff_not, Bool.and_eq_true, Bool.or_eq_true, beq_iff_eq, bne_iff_ne, ne_eq, Bool.not_eq_true', Bool.not_eq_false', Decidable.not_not] at hb110
                            refine wpl_off rfl rfl rfl rfl ?_
                            refine wpl_off rfl rfl rfl rfl ?_
                            refine wpl_on rfl rfl ?_
                            refine wpl_q (q_pure rfl) rfl ?_
                            refine wpl_on rfl rfl ?_
                            refine wpl_q (q_pure rfl) rfl ?_
                            refine wpl_q (q_pure rfl) rfl ?_
                            refine wpl_nil ?_
                            refine ex_then ?_
                            refine wpc_cond_f rfl ?_
                            refine wpc_skip ?_
                            refine ex_block ?_
                            refine ex_then ?_
                            refine wpc_region ?_
                            refine wpl_q (q_pure rfl) rfl ?_
                            refine wpl_q (q_addN (b := 1) rfl rfl (by first | omega | (simp only [maxLen]; omega) | (simp only [List.length_append, List.length_cons, List.length_nil, List.length_take, maxLen]; omega) | (simp only [List.length_append, List.length_cons, List.length_nil, List.length_take]; omega))) rfl ?_
                            refine wpl_q (q_pure rfl) rfl ?_
                            first | refine wpl_re 7 rfl (congrArg (fun n : Nat => Value.int .i64 (n : Int)) (show i - ((base64F bs).length - (3 - bs.length % 3) % 3) = i + 1 - ((base64F bs).length - (3 - bs.length % 3) % 3) by omega)) ?_ | refine wpl_re 7 rfl (congrArg (fun n : Nat => Value.int .i64 (n : Int)) (show (0 : Nat) = 0 - ((base64F bs).length - (3 - bs.length % 3) % 3) by omega)) ?_ | skip
                            refine wpl_nil ?_
                            refine ex_again ⟨i + 1, by first | omega | assumption | decide | exact SV.nil | (simp; done) | (dsimp only; omega)⟩ ?_ ?_ ?_
                            · exact (by repeat (first | exact trivial | refine ⟨rfl, ?_⟩))
                            · exact fun w h => by first | exact h | exact h.sub (by repeat (first | exact Sub.nil | exact Sub.refl _ | with_reducible refine Sub.keep ?_ | refine Sub.drop ?_)) (by repeat (first | exact Sub.nil | exact Sub.refl _ | with_reducible refine Sub.keep ?_ | refine Sub.drop ?_))
                            · (show (base64F bs).length - (i + 1) < (base64F bs).length - i); omega
                          ·
                            try simp only [decide_eq_false_iff_not] at hb110
                            have h43 : ((base64F bs).getD i 0).toNat ≠ 43 := (fun e => hb110 (UInt8.toNat_inj.1 (show ((base64F bs).getD i 0).toNat = (43 : UInt8).toNat from e)))
                            refine wpl_on rfl rfl ?_
                            refine wpl_q (q_pure rfl) rfl ?_
                            refine wpl_on rfl rfl ?_
                            refine wpl_q (q8_eql (b := (47 : UInt8)) rfl rfl) rfl ?_
                            refine wpl_on rfl rfl ?_
                            refine wpl_q (q_pure rfl) rfl ?_
                            refine wpl_on rfl rfl ?_
                            refine wpl_q (q_pure rfl) rfl ?_
                            refine wpl_q (q_pure rfl) rfl ?_
                            refine wpl_nil ?_
                            refine ex_then ?_
                            refine wpc_cond rfl (fun hc115 => ?_) (fun hc115 => ?_)
                            ·
                              simp only [Bool.not_eq_true', decide_eq_false_iff_not] at hc115; have h47 : ((base64F bs).getD i 0).toNat ≠ 47 := (fun e => hc115 (UInt8.toNat_inj.1 (show ((base64F bs).getD i 0).toNat = (47 : UInt8).toNat from e))); omega
                            ·
                              try simp only [decide_eq_true_eq, decide_eq_false_iff_not, Bool.and_eq_true, Bool.or_eq_true, beq_iff_eq, bne_iff_ne, ne_eq, Bool.not_eq_true', Bool.not_eq_false', Decidable.not_not] at hc115
                              refine wpc_skip ?_
                              refine ex_block ?_
                              refine ex_then ?_
                              refine wpc_region ?_
                              refine wpl_q (q_pure rfl) rfl ?_
                              refine wpl_q (q_addN (b := 1) rfl rfl (by first | omega | (simp only [maxLen]; omega) | (simp only [List.length_append, List.length_cons, List.length_nil, List.length_take, maxLen]; omega) | (simp only [List.length_append, List.length_cons, List.length_nil, List.length_take]; omega))) rfl ?_
                              refine wpl_q (q_pure rfl) rfl ?_
                              first | refine wpl_re 7 rfl (congrArg (fun n : Nat => Value.int .i64 (n : Int)) (show i - ((base64F bs).length - (3 - bs.length % 3) % 3) = i + 1 - ((base64F bs).length - (3 - bs.length % 3) % 3) by omega)) ?_ | refine wpl_re 7 rfl (congrArg (fun n : Nat => Value.int .i64 (n : Int)) (show (0 : Nat) = 0 - ((base64F bs).length - (3 - bs.length % 3) % 3) by omega)) ?_ | skip
                              refine wpl_nil ?_
                              refine ex_again ⟨i + 1, by first | omega | assumption | decide | exact SV.nil | (simp; done) | (dsimp only; omega)⟩ ?_ ?_ ?_
                              · exact (by repeat (first | exact trivial | refine ⟨rfl, ?_⟩))
                              · exact fun w h => by first | exact h | exact h.sub (by repeat (first | exact Sub.nil | exact Sub.refl _ | with_reducible refine Sub.keep ?_ | refine Sub.drop ?_)) (by repeat (first | exact Sub.nil | exact Sub.refl _ | with_reducible refine Sub.keep ?_ | refine Sub.drop ?_))
                              · (show (base64F bs).length - (i + 1) < (base64F bs).length - i); omega
                    ·
                      try simp only [decide_eq_true_eq, decide_eq_false_iff_not, Bool.and_eq_true, Bool.or_eq_true, beq_iff_eq, bne_iff_ne, ne_eq, Bool.not_eq_true', Bool.not_eq_false', Decidable.not_not] at hb93
                      refine wpl_off rfl rfl rfl rfl ?_
                      refine wpl_off rfl rfl rfl rfl ?_
                      refine wpl_on rfl rfl ?_
                      refine wpl_q (q_pure rfl) rfl ?_
                      refine wpl_on rfl rfl ?_
                      refine wpl_q (q_pure rfl) rfl ?_
                      refine wpl_on rfl rfl ?_
                      refine wpl_q (q_pure rfl) rfl ?_
                      refine wpl_on rfl rfl ?_
                      refine wpl_q (q_pure rfl) rfl ?_
                      refine wpl_on rfl rfl ?_
                      refine wpl_q (q_pure rfl) rfl ?_
                      refine wpl_on rfl rfl ?_
                      refine wpl_q (q_pure rfl) rfl ?_
                      refine wpl_bool2 101 100 rfl rfl (fun hb101 => ?_) (fun hb101 => ?_)
                      ·
                        try simp only [decide_eq_true_eq, decide_eq_false_iff_not, Bool.and_eq_true, Bool.or_eq_true, beq_iff_eq, bne_iff_ne, ne_eq, Bool.not_eq_true', Bool.not_eq_false', Decidable.not_not] at hb101
                        refine wpl_on rfl rfl ?_
                        refine wpl_q (q_pure rfl) rfl ?_
                        refine wpl_on rfl rfl ?_
                        refine wpl_q (q_pure rfl) rfl ?_
                        refine wpl_on rfl rfl ?_
                        refine wpl_q (q_pure rfl) rfl ?_
                        refine wpl_on rfl rfl ?_
                        refine wpl_q (q_pure rfl) rfl ?_
                        refine wpl_on rfl rfl ?_
                        refine wpl_q (q_pure rfl) rfl ?_
                        refine wpl_bool2 106 103 rfl rfl (fun hb106 => ?_) (fun hb106 => ?_)
                        ·
                          try simp only [decide_eq_true_eq, decide_eq_false_iff_not, Bool.and_eq_true, Bool.or_eq_true, beq_iff_eq, bne_iff_ne, ne_eq, Bool.not_eq_true', Bool.not_eq_false', Decidable.not_not] at hb106
                          refine wpl_off rfl rfl rfl rfl ?_
                          refine wpl_off rfl rfl rfl rfl ?_
                          refine wpl_on rfl rfl ?_
                          refine wpl_q (q_pure rfl) rfl ?_
                          refine wpl_on rfl rfl ?_
                          refine wpl_q (q_pure rfl) rfl ?_
                          refine wpl_off rfl rfl rfl rfl ?_
                          refine wpl_off rfl rfl rfl rfl ?_
                          refine wpl_on rfl rfl ?_
                          refine wpl_q (q_pure rfl) rfl ?_
                          refine wpl_on rfl rfl ?_
                          refine wpl_q (q_pure rfl) rfl ?_
                          refine wpl_q (q_pure rfl) rfl ?_
                          refine wpl_nil ?_
                          refine ex_then ?_
                          refine wpc_cond_f rfl ?_
                          refine wpc_skip ?_
                          refine ex_block ?_
                          refine ex_then ?_
                          refine wpc_region ?_
                          refine wpl_q (q_pure rfl) rfl ?_
                          refine wpl_q (q_addN (b := 1) rfl rfl (by first | omega | (simp only [maxLen]; omega) | (simp only [List.length_append, List.length_cons, List.length_nil, List.length_take, maxLen]; omega) | (simp only [List.length_append, List.length_cons, List.length_nil, List.length_take]; omega))) rfl ?_
                          refine wpl_q (q_pure rfl) rfl ?_
                          first | refine wpl_re 7 rfl (congrArg (fun n : Nat => Value.int .i64 (n : Int)) (show i - ((base64F bs).length - (3 - bs.length % 3) % 3) = i + 1 - ((base64F bs).length - (3 - bs.length % 3) % 3) by omega)) ?_ | refine wpl_re 7 rfl (congrArg (fun n : Nat => Value.int .i64 (n : Int)) (show (0 : Nat) = 0 - ((base64F bs).length - (3 - bs.length % 3) % 3) by omega)) ?_ | skip
                          refine wpl_nil ?_
                          refine ex_again ⟨i + 1, by first | omega | assumption | decide | exact SV.nil | (simp; done) | (dsimp only; omega)⟩ ?_ ?_ ?_
                          · exact (by repeat (first | exact trivial | refine ⟨rfl, ?_⟩))
                          · exact fun w h => by first | exact h | exact h.sub (by repeat (first | exact Sub.nil | exact Sub.refl _ | with_reducible refine Sub.keep ?_ | refine Sub.drop ?_)) (by repeat (first | exact Sub.nil | exact Sub.refl _ | with_reducible refine Sub.keep ?_ | refine Sub.drop ?_))
                          · (show (base64F bs).length - (i + 1) < (base64F bs).length - i); omega
                        ·
                          try simp only [decide_eq_true_eq, decide_eq_false_iff_not, Bool.and_eq_true, Bool.or_eq_true, beq_iff_eq, bne_iff_ne, ne_eq, Bool.not_eq_true', Bool.not_eq_false', Decidable.not_not] at hb106
                          refine wpl_on rfl rfl ?_
                          refine wpl_q (q_pure rfl) rfl ?_
                          refine wpl_on rfl rfl ?_
                          refine wpl_q (q8_eql (b := (43 : UInt8)) rfl rfl) rfl ?_
                          refine wpl_on rfl rfl ?_
                          refine wpl_q (q_pure rfl) rfl ?_
                          refine wpl_on rfl rfl ?_
                          refine wpl_q (q_pure rfl) rfl ?_
                          refine wpl_bool2 110 108 rfl rfl (fun hb110 => ?_) (fun hb110 => ?_)
                          ·
                            try simp only [decide_eq_true_eq, decide_eq_false_iff_not, Bool.and_eq_true, Bool.or_eq_true, beq_iff_eq, bne_iff_ne, ne_eq, Bool.not_eq_true', Bool.not_eq_false', Decidable.not_not] at hb110
                            refine wpl_off rfl rfl rfl rfl ?_
                            refine wpl_off rfl rfl rfl rfl ?_
                            refine wpl_on rfl rfl ?_
                            refine wpl_q (q_pure rfl) rfl ?_
                            refine wpl_on rfl rfl ?_
                            refine wpl_q (q_pure rfl) rfl ?_
                            refine wpl_q (q_pure rfl) rfl ?_
                            refine wpl_nil ?_
                            refine ex_then ?_
                            refine wpc_cond_f rfl ?_
                            refine wpc_skip ?_
                            refine ex_block ?_
                            refine ex_then ?_
                            refine wpc_region ?_
                            refine wpl_q (q_pure rfl) rfl ?_
                            refine wpl_q (q_addN (b := 1) rfl rfl (by first | omega | (simp only [maxLen]; omega) | (simp only [List.length_append, List.length_cons, List.length_nil, List.length_take, maxLen]; omega) | (simp only [List.length_append, List.length_cons, List.length_nil, List.length_take]; omega))) rfl ?_
                            refine wpl_q (q_pure rfl) rfl ?_
                            first | refine wpl_re 7 rfl (congrArg (fun n : Nat => Value.int .i64 (n : Int)) (show i - ((base64F bs).length - (3 - bs.length % 3) % 3) = i + 1 - ((base64F bs).length - (3 - bs.length % 3) % 3) by omega)) ?_ | refine wpl_re 7 rfl (congrArg (fun n : Nat => Value.int .i64 (n : Int)) (show (0 : Nat) = 0 - ((base64F bs).length - (3 - bs.length % 3) % 3) by omega)) ?_ | skip
                            refine wpl_nil ?_
                            refine ex_again ⟨i + 1, by first | omega | assumption | decide | exact SV.nil | (simp; done) | (dsimp only; omega)⟩ ?_ ?_ ?_
                            · exact (by repeat (first | exact trivial | refine ⟨rfl, ?_⟩))
                            · exact fun w h => by first | exact h | exact h.sub (by repeat (first | exact Sub.nil | exact Sub.refl _ | with_reducible refine Sub.keep ?_ | refine Sub.drop ?_)) (by repeat (first | exact Sub.nil | exact Sub.refl _ | with_reducible refine Sub.keep ?_ | refine Sub.drop ?_))
                            · (show (base64F bs).length - (i + 1) < (base64F bs).length - i); omega
                          ·
                            try simp only [decide_eq_false_iff_not] at hb110
                            have h43 : ((base64F bs).getD i 0).toNat ≠ 43 := (fun e => hb110 (UInt8.toNat_inj.1 (show ((base64F bs).getD i 0).toNat = (43 : UInt8).toNat from e)))
                            refine wpl_on rfl rfl ?_
                            refine wpl_q (q_pure rfl) rfl ?_
                            refine wpl_on rfl rfl ?_
                            refine wpl_q (q8_eql (b := (47 : UInt8)) rfl rfl) rfl ?_
                            refine wpl_on rfl rfl ?_
                            refine wpl_q (q_pure rfl) rfl ?_
                            refine wpl_on rfl rfl ?_
                            refine wpl_q (q_pure rfl) rfl ?_
                            refine wpl_q (q_pure rfl) rfl ?_
                            refine wpl_nil ?_
                            refine ex_then ?_
                            refine wpc_cond rfl (fun hc115 => ?_) (fun hc115 => ?_)
                            ·
                              simp only [Bool.not_eq_true', decide_eq_false_iff_not] at hc115; have h47 : ((base64F bs).getD i 0).toNat ≠ 47 := (fun e => hc115 (UInt8.toNat_inj.1 (show ((base64F bs).getD i 0).toNat = (47 : UInt8).toNat from e))); omega
                            ·
                              try simp only [decide_eq_true_eq, decide_eq_false_iff_not, Bool.and_eq_true, Bool.or_eq_true, beq_iff_eq, bne_iff_ne, ne_eq, Bool.not_eq_true', Bool.not_eq_false', Decidable.not_not] at hc115
                              refine wpc_skip ?_
                              refine ex_block ?_
                              refine ex_then ?_
                              refine wpc_region ?_
                              refine wpl_q (q_pure rfl) rfl ?_
                              refine wpl_q (q_addN (b := 1) rfl rfl (by first | omega | (simp only [maxLen]; omega) | (simp only [List.length_append, List.length_cons, List.length_nil, List.length_take, maxLen]; omega) | (simp only [List.length_append, List.length_cons, List.length_nil, List.length_take]; omega))) rfl ?_
                              refine wpl_q (q_pure rfl) rfl ?_
                              first | refine wpl_re 7 rfl (congrArg (fun n : Nat => Value.int .i64 (n : Int)) (show i - ((base64F bs).length - (3 - bs.length % 3) % 3) = i + 1 - ((base64F bs).length - (3 - bs.length % 3) % 3) by omega)) ?_ | refine wpl_re 7 rfl (congrArg (fun n : Nat => Value.int .i64 (n : Int)) (show (0 : Nat) = 0 - ((base64F bs).length - (3 - bs.length % 3) % 3) by omega)) ?_ | skip
                              refine wpl_nil ?_
                              refine ex_again ⟨i + 1, by first | omega | assumption | decide | exact SV.nil | (simp; done) | (dsimp only; omega)⟩ ?_ ?_ ?_
                              · exact (by repeat (first | exact trivial | refine ⟨rfl, ?_⟩))
                              · exact fun w h => by first | exact h | exact h.sub (by repeat (first | exact Sub.nil | exact Sub.refl _ | with_reducible refine Sub.keep ?_ | refine Sub.drop ?_)) (by repeat (first | exact Sub.nil | exact Sub.refl _ | with_reducible refine Sub.keep ?_ | refine Sub.drop ?_))
                              · (show (base64F bs).length - (i + 1) < (base64F bs).length - i); omega
                      ·
                        try simp only [decide_eq_true_eq, decide_eq_false_iff_not, Bool.and_eq_true, Bool.or_eq_true, beq_iff_eq, bne_iff_ne, ne_eq, Bool.not_eq_true', Bool.not_eq_false', Decidable.not_not] at hb101
                        refine wpl_off rfl rfl rfl rfl ?_
                        refine wpl_off rfl rfl rfl rfl ?_
                        refine wpl_on rfl rfl ?_
                        refine wpl_q (q_pure rfl) rfl ?_
                        refine wpl_on rfl rfl ?_
                        refine wpl_q (q_pure rfl) rfl ?_
                        refine wpl_on rfl rfl ?_
                        refine wpl_q (q_pure rfl) rfl ?_
                        refine wpl_on rfl rfl ?_
                        refine wpl_q (q_pure rfl) rfl ?_
                        refine wpl_on rfl rfl ?_
                        refine wpl_q (q8_eql (b := (43 : UInt8)) rfl rfl) rfl ?_
                        refine wpl_on rfl rfl ?_
                        refine wpl_q (q_pure rfl) rfl ?_
                        refine wpl_on rfl rfl ?_
                        refine wpl_q (q_pure rfl) rfl ?_
                        refine wpl_bool2 110 108 rfl rfl (fun hb110 => ?_) (fun hb110 => ?_)
                        ·
                          try simp only [decide_eq_true_eq, decide_eq_false_iff_not, Bool.and_eq_true, Bool.or_eq_true, beq_iff_eq, bne_iff_ne, ne_eq, Bool.not_eq_true', Bool.not_eq_false', Decidable.not_not] at hb110
                          refine wpl_off rfl rfl rfl rfl ?_
                          refine wpl_off rfl rfl rfl rfl ?_
                          refine wpl_on rfl rfl ?_
                          refine wpl_q (q_pure rfl) rfl ?_
                          refine wpl_on rfl rfl ?_
                          refine wpl_q (q_pure rfl) rfl ?_
                          refine wpl_q (q_pure rfl) rfl ?_
                          refine wpl_nil ?_
                          refine ex_then ?_
                          refine wpc_cond_f rfl ?_
                          refine wpc_skip ?_
                          refine ex_block ?_
                          refine ex_then ?_
                          refine wpc_region ?_
                          refine wpl_q (q_pure rfl) rfl ?_
                          refine wpl_q (q_addN (b := 1) rfl rfl (by first | omega | (simp only [maxLen]; omega) | (simp only [List.length_append, List.length_cons, List.length_nil, List.length_take, maxLen]; omega) | (simp only [List.length_append, List.length_cons, List.length_nil, List.length_take]; omega))) rfl ?_
                          refine wpl_q (q_pure rfl) rfl ?_
                          first | refine wpl_re 7 rfl (congrArg (fun n : Nat => Value.int .i64 (n : Int)) (show i - ((base64F bs).length - (3 - bs.length % 3) % 3) = i + 1 - ((base64F bs).length - (3 - bs.length % 3) % 3) by omega)) ?_ | refine wpl_re 7 rfl (congrArg (fun n : Nat => Value.int .i64 (n : Int)) (show (0 : Nat) = 0 - ((base64F bs).length - (3 - bs.length % 3) % 3) by omega)) ?_ | skip
                          refine wpl_nil ?_
                          refine ex_again ⟨i + 1, by first | omega | assumption | decide | exact SV.nil | (simp; done) | (dsimp only; omega)⟩ ?_ ?_ ?_
                          · exact (by repeat (first | exact trivial | refine ⟨rfl, ?_⟩))
                          · exact fun w h => by first | exact h | exact h.sub (by repeat (first | exact Sub.nil | exact Sub.refl _ | with_reducible refine Sub.keep ?_ | refine Sub.drop ?_)) (by repeat (first | exact Sub.nil | exact Sub.refl _ | with_reducible refine Sub.keep ?_ | refine Sub.drop ?_))
                          · (show (base64F bs).length - (i + 1) < (base64F bs).length - i); omega
                        ·
                          try simp only [decide_eq_false_iff_not] at hb110
                          have h43 : ((base64F bs).getD i 0).toNat ≠ 43 := (fun e => hb110 (UInt8.toNat_inj.1 (show ((base64F bs).getD i 0).toNat = (43 : UInt8).toNat from e)))
                          refine wpl_on rfl rfl ?_
                          refine wpl_q (q_pure rfl) rfl ?_
                          refine wpl_on rfl rfl ?_
                          refine wpl_q (q8_eql (b := (47 : UInt8)) rfl rfl) rfl ?_
                          refine wpl_on rfl rfl ?_
                          refine wpl_q (q_pure rfl) rfl ?_
                          refine wpl_on rfl rfl ?_
                          refine wpl_q (q_pure rfl) rfl ?_
                          refine wpl_q (q_pure rfl) rfl ?_
                          refine wpl_nil ?_
                          refine ex_then ?_
                          refine wpc_cond rfl (fun hc115 => ?_) (fun hc115 => ?_)
                          ·
                            simp only [Bool.not_eq_true', decide_eq_false_iff_not] at hc115; have h47 : ((base64F bs).getD i 0).toNat ≠ 47 := (fun e => hc115 (UInt8.toNat_inj.1 (show ((base64F bs).getD i 0).toNat = (47 : UInt8).toNat from e))); omega
                          ·
                            try simp only [decide_eq_true_eq, decide_eq_false_iff_not, Bool.and_eq_true, Bool.or_eq_true, beq_iff_eq, bne_iff_ne, ne_eq, Bool.not_eq_true', Bool.not_eq_false', Decidable.not_not] at hc115
                            refine wpc_skip ?_
                            refine ex_block ?_
                            refine ex_then ?_
                            refine wpc_region ?_
                            refine wpl_q (q_pure rfl) rfl ?_
                            refine wpl_q (q_addN (b := 1) rfl rfl (by first | omega | (simp only [maxLen]; omega) | (simp only [List.length_append, List.length_cons, List.length_nil, List.length_take, maxLen]; omega) | (simp only [List.length_append, List.length_cons, List.length_nil, List.length_take]; omega))) rfl ?_
                            refine wpl_q (q_pure rfl) rfl ?_
                            first | refine wpl_re 7 rfl (congrArg (fun n : Nat => Value.int .i64 (n : Int)) (show i - ((base64F bs).length - (3 - bs.length % 3) % 3) = i + 1 - ((base64F bs).length - (3 - bs.length % 3) % 3) by omega)) ?_ | refine wpl_re 7 rfl (congrArg (fun n : Nat => Value.int .i64 (n : Int)) (show (0 : Nat) = 0 - ((base64F bs).length - (3 - bs.length % 3) % 3) by omega)) ?_ | skip
                            refine wpl_nil ?_
                            refine ex_again ⟨i + 1, by first | omega | assumption | decide | exact SV.nil | (simp; done) | (dsimp only; omega)⟩ ?_ ?_ ?_
                            · exact (by repeat (first | exact trivial | refine ⟨rfl, ?_⟩))
                            · exact fun w h => by first | exact h | exact h.sub (by repeat (first | exact Sub.nil | exact Sub.refl _ | with_reducible refine Sub.keep ?_ | refine Sub.drop ?_)) (by repeat (first | exact Sub.nil | exact Sub.refl _ | with_reducible refine Sub.keep ?_ | refine Sub.drop ?_))
                            · (show (base64F bs).length - (i + 1) < (base64F bs).length - i); omega
                ·
                  try simp only [decide_eq_true_eq, decide_eq_false_iff_not, Bool.and_eq_true, Bool.or_eq_true, beq_iff_eq, bne_iff_ne, ne_eq, Bool.not_eq_true', Bool.not_eq_false', Decidable.not_not] at hb86
                  refine wpl_off rfl rfl rfl rfl ?_
                  refine wpl_off rfl rfl rfl rfl ?_
                  refine wpl_on rfl rfl ?_
                  refine wpl_q (q_pure rfl) rfl ?_
                  refine wpl_on rfl rfl ?_
                  refine wpl_q (q_pure rfl) rfl ?_
                  refine wpl_on rfl rfl ?_
                  refine wpl_q (q_pure rfl) rfl ?_
                  refine wpl_on rfl rfl ?_
                  refine wpl_q (q_pure rfl) rfl ?_
                  refine wpl_on rfl rfl ?_
                  refine wpl_q (q_pure rfl) rfl ?_
                  refine wpl_bool2 93 92 rfl rfl (fun hb93 => ?_) (fun hb93 => ?_)
                  ·
                    try simp only [decide_eq_true_eq, decide_eq_false_iff_not, Bool.and_eq_true, Bool.or_eq_true, beq_iff_eq, bne_iff_ne, ne_eq, Bool.not_eq_true', Bool.not_eq_false', Decidable.not_not] at hb93
                    refine wpl_on rfl rfl ?_
                    refine wpl_q (q_pure rfl) rfl ?_
                    refine wpl_on rfl rfl ?_
                    refine wpl_q (q_pure rfl) rfl ?_
                    refine wpl_on rfl rfl ?_
                    refine wpl_q (q_pure rfl) rfl ?_
                    refine wpl_on rfl rfl ?_
                    refine wpl_q (q_pure rfl) rfl ?_
                    refine wpl_on rfl rfl ?_
                    refine wpl_q (q_pure rfl) rfl ?_
                    refine wpl_bool2 98 95 rfl rfl (fun hb98 => ?_) (fun hb98 => ?_)
                    ·
                      try simp only [decide_eq_true_eq, decide_eq_false_iff_not, Bool.and_eq_true, Bool.or_eq_true, beq_iff_eq, bne_iff_ne, ne_eq, Bool.not_eq_true', Bool.not_eq_false', Decidable.not_not] at hb98
                      refine wpl_off rfl rfl rfl rfl ?_
                      refine wpl_off rfl rfl rfl rfl ?_
                      refine wpl_off rfl rfl rfl rfl ?_
                      refine wpl_off rfl rfl rfl rfl ?_
                      refine wpl_off rfl rfl rfl rfl ?_
                      refine wpl_off rfl rfl rfl rfl ?_
                      refine wpl_on rfl rfl ?_
                      refine wpl_q (q_pure rfl) rfl ?_
                      refine wpl_on rfl rfl ?_
                      refine wpl_q (q_pure rfl) rfl ?_
                      refine wpl_off rfl rfl rfl rfl ?_
                      refine wpl_off rfl rfl rfl rfl ?_
                      refine wpl_on rfl rfl ?_
                      refine wpl_q (q_pure rfl) rfl ?_
                      refine wpl_on rfl rfl ?_
                      refine wpl_q (q_pure rfl) rfl ?_
                      refine wpl_off rfl rfl rfl rfl ?_
                      refine wpl_off rfl rfl rfl rfl ?_
                      refine wpl_on rfl rfl ?_
                      refine wpl_q (q_pure rfl) rfl ?_
                      refine wpl_on rfl rfl ?_
                      refine wpl_q (q_pure rfl) rfl ?_
                      refine wpl_q (q_pure rfl) rfl ?_
                      refine wpl_nil ?_
                      refine ex_then ?_
                      refine wpc_cond_f rfl ?_
                      refine wpc_skip ?_
                      refine ex_block ?_
                      refine ex_then ?_
                      refine wpc_region ?_
                      refine wpl_q (q_pure rfl) rfl ?_
                      refine wpl_q (q_addN (b := 1) rfl rfl (by first | omega | (simp only [maxLen]; omega) | (simp only [List.length_append, List.length_cons, List.length_nil, List.length_take, maxLen]; omega) | (simp only [List.length_append, List.length_cons, List.length_nil, List.length_take]; omega))) rfl ?_
                      refine wpl_q (q_pure rfl) rfl ?_
                      first | refine wpl_re 7 rfl (congrArg (fun n : Nat => Value.int .i64 (n : Int)) (show i - ((base64F bs).length - (3 - bs.length % 3) % 3) = i + 1 - ((base64F bs).length - (3 - bs.length % 3) % 3) by omega)) ?_ | refine wpl_re 7 rfl (congrArg (fun n : Nat => Value.int .i64 (n : Int)) (show (0 : Nat) = 0 - ((base64F bs).length - (3 - bs.length % 3) % 3) by omega)) ?_ | skip
                      refine wpl_nil ?_
                      refine ex_again ⟨i + 1, by first | omega | assumption | decide | exact SV.nil | (simp; done) | (dsimp only; omega)⟩ ?_ ?_ ?_
                      · exact (by repeat (first | exact trivial | refine ⟨rfl, ?_⟩))
                      · exact fun w h => by first | exact h | exact h.sub (by repeat (first | exact Sub.nil | exact Sub.refl _ | with_reducible refine Sub.keep ?_ | refine Sub.drop ?_)) (by repeat (first | exact Sub.nil | exact Sub.refl _ | with_reducible refine Sub.keep ?_ | refine Sub.drop ?_))
                      · (show (base64F bs).length - (i + 1) < (base64F bs).length - i); omega
                    ·
                      try simp only [decide_eq_true_eq, decide_eq_false_iff_not, Bool.and_eq_true, Bool.or_eq_true, beq_iff_eq, bne_iff_ne, ne_eq, Bool.not_eq_true', Bool.not_eq_false', Decidable.not_not] at hb98
                      refine wpl_on rfl rfl ?_
                      refine wpl_q (q_pure rfl) rfl ?_
                      refine wpl_on rfl rfl ?_
                      refine wpl_q (q_pure rfl) rfl ?_
                      refine wpl_on rfl rfl ?_
                      refine wpl_q (q_pure rfl) rfl ?_
                      refine wpl_bool2 101 100 rfl rfl (fun hb101 => ?_) (fun hb101 => ?_)
                      ·
                        try simp only [decide_eq_true_eq, decide_eq_false_iff_not, Bool.and_eq_true, Bool.or_eq_true, beq_iff_eq, bne_iff_ne, ne_eq, Bool.not_eq_true', Bool.not_eq_false', Decidable.not_not] at hb101
                        refine wpl_on rfl rfl ?_
                        refine wpl_q (q_pure rfl) rfl ?_
                        refine wpl_on rfl rfl ?_
                        refine wpl_q (q_pure rfl) rfl ?_
                        refine wpl_on rfl rfl ?_
                        refine wpl_q (q_pure rfl) rfl ?_
                        refine wpl_on rfl rfl ?_
                        refine wpl_q (q_pure rfl) rfl ?_
                        refine wpl_on rfl rfl ?_
                        refine wpl_q (q_pure rfl) rfl ?_
                        refine wpl_bool2 106 103 rfl rfl (fun hb106 => ?_) (fun hb106 => ?_)
                        ·
                          try simp only [decide_eq_true_eq, decide_eq_false_iff_not, Bool.and_eq_true, Bool.or_eq_true, beq_iff_eq, bne_iff_ne, ne_eq, Bool.not_eq_true', Bool.not_eq_false', Decidable.not_not] at hb106
                          refine wpl_off rfl rfl rfl rfl ?_
                          refine wpl_off rfl rfl rfl rfl ?_
                          refine wpl_on rfl rfl ?_
                          refine wpl_q (q_pure rfl) rfl ?_
                          refine wpl_on rfl rfl ?_
                          refine wpl_q (q_pure rfl) rfl ?_
                          refine wpl_off rfl rfl rfl rfl ?_
                          refine wpl_off rfl rfl rfl rfl ?_
                          refine wpl_on rfl rfl ?_
                          refine wpl_q (q_pure rfl) rfl ?_
                          refine wpl_on rfl rfl ?_
                          refine wpl_q (q_pure rfl) rfl ?_
                          refine wpl_q (q_pure rfl) rfl ?_
                          refine wpl_nil ?_
                          refine ex_then ?_
                          refine wpc_cond_f rfl ?_
                          refine wpc_skip ?_
                          refine ex_block ?_
                          refine ex_then ?_
                          refine wpc_region ?_
                          refine wpl_q (q_pure rfl) rfl ?_
                          refine wpl_q (q_addN (b := 1) rfl rfl (by first | omega | (simp only [maxLen]; omega) | (simp only [List.length_append, List.length_cons, List.length_nil, List.length_take, maxLen]; omega) | (simp only [List.length_append, List.length_cons, List.length_nil, List.length_take]; omega))) rfl ?_
                          refine wpl_q (q_pure rfl) rfl ?_
                          first | refine wpl_re 7 rfl (congrArg (fun n : Nat => Value.int .i64 (n : Int)) (show i - ((base64F bs).length - (3 - bs.length % 3) % 3) = i + 1 - ((base64F bs).length - (3 - bs.length % 3) % 3) by omega)) ?_ | refine wpl_re 7 rfl (congrArg (fun n : Nat => Value.int .i64 (n : Int)) (show (0 : Nat) = 0 - ((base64F bs).length - (3 - bs.length % 3) % 3) by omega)) ?_ | skip
                          refine wpl_nil ?_
                          refine ex_again ⟨i + 1, by first | omega | assumption | decide | exact SV.nil | (simp; done) | (dsimp only; omega)⟩ ?_ ?_ ?_
                          · exact (by repeat (first | exact trivial | refine ⟨rfl, ?_⟩))
                          · exact fun w h => by first | exact h | exact h.sub (by repeat (first | exact Sub.nil | exact Sub.refl _ | with_reducible refine Sub.keep ?_ | refine Sub.drop ?_)) (by repeat (first | exact Sub.nil | exact Sub.refl _ | with_reducible refine Sub.keep ?_ | refine Sub.drop ?_))
                          · (show (base64F bs).length - (i + 1) < (base64F bs).length - i); omega
                        ·
                          try simp only [decide_eq_true_eq, decide_eq_false_iff_not, Bool.and_eq_true, Bool.or_eq_true, beq_iff_eq, bne_iff_ne, ne_eq, Bool.not_eq_true', Bool.not_eq_false', Decidable.not_not] at hb106
                          refine wpl_on rfl rfl ?_
                          refine wpl_q (q_pure rfl) rfl ?_
                          refine wpl_on rfl rfl ?_
                          refine wpl_q (q8_eql (b := (43 : UInt8)) rfl rfl) rfl ?_
                          refine wpl_on rfl rfl ?_
                          refine wpl_q (q_pure rfl) rfl ?_
                          refine wpl_on rfl rfl ?_
                          refine wpl_q (q_pure rfl) rfl ?_
                          refine wpl_bool2 110 108 rfl rfl (fun hb110 => ?_) (fun hb110 => ?_)
                          ·
                            try simp only [decide_eq_true_eq, decide_eq_false_iff_not, Bool.and_eq_true, Bool.or_eq_true, beq_iff_eq, bne_iff_ne, ne_eq, Bool.not_eq_true', Bool.not_eq_false', Decidable.not_not] at hb110
                            refine wpl_off rfl rfl rfl rfl ?_
                            refine wpl_off rfl rfl rfl rfl ?_
                            refine wpl_on rfl rfl ?_
                            refine wpl_q (q_pure rfl) rfl ?_
                            refine wpl_on rfl rfl ?_
                            refine wpl_q (q_pure rfl) rfl ?_
                            refine wpl_q (q_pure rfl) rfl ?_
                            refine wpl_nil ?_
                            refine ex_then ?_
                            refine wpc_cond_f rfl ?_
                            refine wpc_skip ?_
                            refine ex_block ?_
                            refine ex_then ?_
                            refine wpc_region ?_
                            refine wpl_q (q_pure rfl) rfl ?_
                            refine wpl_q (q_addN (b := 1) rfl rfl (by first | omega | (simp only [maxLen]; omega) | (simp only [List.length_append, List.length_cons, List.length_nil, List.length_take, maxLen]; omega) | (simp only [List.length_append, List.length_cons, List.length_nil, List.length_take]; omega))) rfl ?_
                            refine wpl_q (q_pure rfl) rfl ?_
                            first | refine wpl_re 7 rfl (congrArg (fun n : Nat => Value.int .i64 (n : Int)) (show i - ((base64F bs).length - (3 - bs.length % 3) % 3) = i + 1 - ((base64F bs).length - (3 - bs.length % 3) % 3) by omega)) ?_ | refine wpl_re 7 rfl (congrArg (fun n : Nat => Value.int .i64 (n : Int)) (show (0 : Nat) = 0 - ((base64F bs).length - (3 - bs.length % 3) % 3) by omega)) ?_ | skip
                            refine wpl_nil ?_
                            refine ex_again ⟨i + 1, by first | omega | assumption | decide | exact SV.nil | (simp; done) | (dsimp only; omega)⟩ ?_ ?_ ?_
                            · exact (by repeat (first | exact trivial | refine ⟨rfl, ?_⟩))
                            · exact fun w h => by first | exact h | exact h.sub (by repeat (first | exact Sub.nil | exact Sub.refl _ | with_reducible refine Sub.keep ?_ | refine Sub.drop ?_)) (by repeat (first | exact Sub.nil | exact Sub.refl _ | with_reducible refine Sub.keep ?_ | refine Sub.drop ?_))
                            · (show (base64F bs).length - (i + 1) < (base64F bs).length - i); omega
                          ·
                            try simp only [decide_eq_false_iff_not] at hb110
                            have h43 : ((base64F bs).getD i 0).toNat ≠ 43 := (fun e => hb110 (UInt8.toNat_inj.1 (show ((base64F bs).getD i 0).toNat = (43 : UInt8).toNat from e)))
                            refine wpl_on rfl rfl ?_
                            refine wpl_q (q_pure rfl) rfl ?_
                            refine wpl_on rfl rfl ?_
                            refine wpl_q (q8_eql (b := (47 : UInt8)) rfl rfl) rfl ?_
                            refine wpl_on rfl rfl ?_
                            refine wpl_q (q_pure rfl) rfl ?_
                            refine wpl_on rfl rfl ?_
                            refine wpl_q (q_pure rfl) rfl ?_
                            refine wpl_q (q_pure rfl) rfl ?_
                            refine wpl_nil ?_
                            refine ex_then ?_
                            refine wpc_cond rfl (fun hc115 => ?_) (fun hc115 => ?_)
                            ·
                              simp only [Bool.not_eq_true', decide_eq_false_iff_not] at hc115; have h47 : ((base64F bs).getD i 0).toNat ≠ 47 := (fun e => hc115 (UInt8.toNat_inj.1 (show ((base64F bs).getD i 0).toNat = (47 : UInt8).toNat from e))); omega
                            ·
                              try simp only [decide_eq_true_eq, decide_eq_false_iff_not, Bool.and_eq_true, Bool.or_eq_true, beq_iff_eq, bne_iff_ne, ne_eq, Bool.not_eq_true', Bool.not_eq_false', Decidable.not_not] at hc115
                              refine wpc_skip ?_
                              refine ex_block ?_
                              refine ex_then ?_
                              refine wpc_region ?_
                              refine wpl_q (q_pure rfl) rfl ?_
                              refine wpl_q (q_addN (b := 1) rfl rfl (by first | omega | (simp only [maxLen]; omega) | (simp only [List.length_append, List.length_cons, List.length_nil, List.length_take, maxLen]; omega) | (simp only [List.length_append, List.length_cons, List.length_nil, List.length_take]; omega))) rfl ?_
                              refine wpl_q (q_pure rfl) rfl ?_
                              first | refine wpl_re 7 rfl (congrArg (fun n : Nat => Value.int .i64 (n : Int)) (show i - ((base64F bs).length - (3 - bs.length % 3) % 3) = i + 1 - ((base64F bs).length - (3 - bs.length % 3) % 3) by omega)) ?_ | refine wpl_re 7 rfl (congrArg (fun n : Nat => Value.int .i64 (n : Int)) (show (0 : Nat) = 0 - ((base64F bs).length - (3 - bs.length % 3) % 3) by omega)) ?_ | skip
                              refine wpl_nil ?_
                              refine ex_again ⟨i + 1, by first | omega | assumption | decide | exact SV.nil | (simp; done) | (dsimp only; omega)⟩ ?_ ?_ ?_
                              · exact (by repeat (first | exact trivial | refine ⟨rfl, ?_⟩))
                              · exact fun w h => by first | exact h | exact h.sub (by repeat (first | exact Sub.nil | exact Sub.refl _ | with_reducible refine Sub.keep ?_ | refine Sub.drop ?_)) (by repeat (first | exact Sub.nil | exact Sub.refl _ | with_reducible refine Sub.keep ?_ | refine Sub.drop ?_))
                              · (show (base64F bs).length - (i + 1) < (base64F bs).length - i); omega
                      ·
                        try simp only [decide_eq_true_eq, decide_eq_false_iff_not, Bool.and_eq_true, Bool.or_eq_true, beq_iff_eq, bne_iff_ne, ne_eq, Bool.not_eq_true', Bool.not_eq_false', Decidable.not_not] at hb101
                        refine wpl_off rfl rfl rfl rfl ?_
                        refine wpl_off rfl rfl rfl rfl ?_
                        refine wpl_on rfl rfl ?_
                        refine wpl_q (q_pure rfl) rfl ?_
                        refine wpl_on rfl rfl ?_
                        refine wpl_q (q_pure rfl) rfl ?_
                        refine wpl_on rfl rfl ?_
                        refine wpl_q (q_pure rfl) rfl ?_
                        refine wpl_on rfl rfl ?_
                        refine wpl_q (q_pure rfl) rfl ?_
                        refine wpl_on rfl rfl ?_
                        refine wpl_q (q8_eql (b := (43 : UInt8)) rfl rfl) rfl ?_
                        refine wpl_on rfl rfl ?_
                        refine wpl_q (q_pure rfl) rfl ?_
                        refine wpl_on rfl rfl ?_
                        refine wpl_q (q_pure rfl) rfl ?_
                        refine wpl_bool2 110 108 rfl rfl (fun hb110 => ?_) (fun hb110 => ?_)
                        ·
                          try simp only [decide_eq_true_eq, decide_eq_false_iff_not, Bool.and_eq_true, Bool.or_eq_true, beq_iff_eq, bne_iff_ne, ne_eq, Bool.not_eq_true', Bool.not_eq_false', Decidable.not_not] at hb110
                          refine wpl_off rfl rfl rfl rfl ?_
                          refine wpl_off rfl rfl rfl rfl ?_
                          refine wpl_on rfl rfl ?_
                          refine wpl_q (q_pure rfl) rfl ?_
                          refine wpl_on rfl rfl ?_
                          refine wpl_q (q_pure rfl) rfl ?_
                          refine wpl_q (q_pure rfl) rfl ?_
                          refine wpl_nil ?_
                          refine ex_then ?_
                          refine wpc_cond_f rfl ?_
                          refine wpc_skip ?_
                          refine ex_block ?_
                          refine ex_then ?_
                          refine wpc_region ?_
                          refine wpl_q (q_pure rfl) rfl ?_
                          refine wpl_q (q_addN (b := 1) rfl rfl (by first | omega | (simp only [maxLen]; omega) | (simp only [List.length_append, List.length_cons, List.length_nil, List.length_take, maxLen]; omega) | (simp only [List.length_append, List.length_cons, List.length_nil, List.length_take]; omega))) rfl ?_
                          refine wpl_q (q_pure rfl) rfl ?_
                          first | refine wpl_re 7 rfl (congrArg (fun n : Nat => Value.int .i64 (n : Int)) (show i - ((base64F bs).length - (3 - bs.length % 3) % 3) = i + 1 - ((base64F bs).length - (3 - bs.length % 3) % 3) by omega)) ?_ | refine wpl_re 7 rfl (congrArg (fun n : Nat => Value.int .i64 (n : Int)) (show (0 : Nat) = 0 - ((base64F bs).length - (3 - bs.length % 3) % 3) by omega)) ?_ | skip
                          refine wpl_nil ?_
                          refine ex_again ⟨i + 1, by first | omega | assumption | decide | exact SV.nil | (simp; done) | (dsimp only; omega)⟩ ?_ ?_ ?_
                          · exact (by repeat (first | exact trivial | refine ⟨rfl, ?_⟩))
                          · exact fun w h => by first | exact h | exact h.sub (by repeat (first | exact Sub.nil | exact Sub.refl _ | with_reducible refine Sub.keep ?_ | refine Sub.drop ?_)) (by repeat (first | exact Sub.nil | exact Sub.refl _ | with_reducible refine Sub.keep ?_ | refine Sub.drop ?_))
                          · (show (base64F bs).length - (i + 1) < (base64F bs).length - i); omega
                        ·
                          try simp only [decide_eq_false_iff_not] at hb110
                          have h43 : ((base64F bs).getD i 0).toNat ≠ 43 := (fun e => hb110 (UInt8.toNat_inj.1 (show ((base64F bs).getD i 0).toNat = (43 : UInt8).toNat from e)))
                          refine wpl_on rfl rfl ?_
                          refine wpl_q (q_pure rfl) rfl ?_
                          refine wpl_on rfl rfl ?_
                          refine wpl_q (q8_eql (b := (47 : UInt8)) rfl rfl) rfl ?_
                          refine wpl_on rfl rfl ?_
                          refine wpl_q (q_pure rfl) rfl ?_
                          refine wpl_on rfl rfl ?_
                          refine wpl_q (q_pure rfl) rfl ?_
                          refine wpl_q (q_pure rfl) rfl ?_
                          refine wpl_nil ?_
                          refine ex_then ?_
                          refine wpc_cond rfl (fun hc115 => ?_) (fun hc115 => ?_)
                          ·
                            simp only [Bool.not_eq_true', decide_eq_false_iff_not] at hc115; have h47 : ((base64F bs).getD i 0).toNat ≠ 47 := (fun e => hc115 (UInt8.toNat_inj.1 (show ((base64F bs).getD i 0).toNat = (47 : UInt8).toNat from e))); omega
                          ·
                            try simp only [decide_eq_true_eq, decide_eq_false_iff_not, Bool.and_eq_true, Bool.or_eq_true, beq_iff_eq, bne_iff_ne, ne_eq, Bool.not_eq_true', Bool.not_eq_false', Decidable.not_not] at hc115
                            refine wpc_skip ?_
                            refine ex_block ?_
                            refine ex_then ?_
                            refine wpc_region ?_
                            refine wpl_q (q_pure rfl) rfl ?_
                            refine wpl_q (q_addN (b := 1) rfl rfl (by first | omega | (simp only [maxLen]; omega) | (simp only [List.length_append, List.length_cons, List.length_nil, List.length_take, maxLen]; omega) | (simp only [List.length_append, List.length_cons, List.length_nil, List.length_take]; omega))) rfl ?_
                            refine wpl_q (q_pure rfl) rfl ?_
                            first | refine wpl_re 7 rfl (congrArg (fun n : Nat => Value.int .i64 (n : Int)) (show i - ((base64F bs).length - (3 - bs.length % 3) % 3) = i + 1 - ((base64F bs).length - (3 - bs.length % 3) % 3) by omega)) ?_ | refine wpl_re 7 rfl (congrArg (fun n : Nat => Value.int .i64 (n : Int)) (show (0 : Nat) = 0 - ((base64F bs).length - (3 - bs.length % 3) % 3) by omega)) ?_ | skip
                            refine wpl_nil ?_
                            refine ex_again ⟨i + 1, by first | omega | assumption | decide | exact SV.nil | (simp; done) | (dsimp only; omega)⟩ ?_ ?_ ?_
                            · exact (by repeat (first | exact trivial | refine ⟨rfl, ?_⟩))
                            · exact fun w h => by first | exact h | exact h.sub (by repeat (first | exact Sub.nil | exact Sub.refl _ | with_reducible refine Sub.keep ?_ | refine Sub.drop ?_)) (by repeat (first | exact Sub.nil | exact Sub.refl _ | with_reducible refine Sub.keep ?_ | refine Sub.drop ?_))
                            · (show (base64F bs).length - (i + 1) < (base64F bs).length - i); omega
                  ·
                    try simp only [decide_eq_true_eq, decide_eq_false_iff_not, Bool.and_eq_true, Bool.or_eq_true, beq_iff_eq, bne_iff_ne, ne_eq, Bool.not_eq_true', Bool.not_eq_false', Decidable.not_not] at hb93
                    refine wpl_off rfl rfl rfl rfl ?_
                    refine wpl_off rfl rfl rfl rfl ?_
                    refine wpl_on rfl rfl ?_
                    refine wpl_q (q_pure rfl) rfl ?_
                    refine wpl_on rfl rfl ?_
                    refine wpl_q (q_pure rfl) rfl ?_
                    refine wpl_on rfl rfl ?_
                    refine wpl_q (q_pure rfl) rfl ?_
                    refine wpl_on rfl rfl ?_
                    refine wpl_q (q_pure rfl) rfl ?_
                    refine wpl_on rfl rfl ?_
                    refine wpl_q (q_pure rfl) rfl ?_
                    refine wpl_on rfl rfl ?_
                    refine wpl_q (q_pure rfl) rfl ?_
                    refine wpl_bool2 101 100 rfl rfl (fun hb101 => ?_) (fun hb101 => ?_)
                    ·
                      try simp only [decide_eq_true_eq, decide_eq_false_iff_not, Bool.and_eq_true, Bool.or_eq_true, beq_iff_eq, bne_iff_ne, ne_eq, Bool.not_eq_true', Bool.not_eq_false', Decidable.not_not] at hb101
                      refine wpl_on rfl rfl ?_
                      refine wpl_q (q_pure rfl) rfl ?_
                      refine wpl_on rfl rfl ?_
                      refine wpl_q (q_pure rfl) rfl ?_
                      refine wpl_on rfl rfl ?_
                      refine wpl_q (q_pure rfl) rfl ?_
                      refine wpl_on rfl rfl ?_
                      refine wpl_q (q_pure rfl) rfl ?_
                      refine wpl_on rfl rfl ?_
                      refine wpl_q (q_pure rfl) rfl ?_
                      refine wpl_bool2 106 103 rfl rfl (fun hb106 => ?_) (fun hb106 => ?_)
                      ·
                        try simp only [decide_eq_true_eq, decide_eq_false_iff_not, Bool.and_eq_true, Bool.or_eq_true, beq_iff_eq, bne_iff_ne, ne_eq, Bool.not_eq_true', Bool.not_eq_false', Decidable.not_not] at hb106
                        refine wpl_off rfl rfl rfl rfl ?_
                        refine wpl_off rfl rfl rfl rfl ?_
                        refine wpl_on rfl rfl ?_
                        refine wpl_q (q_pure rfl) rfl ?_
                        refine wpl_on rfl rfl ?_
                        refine wpl_q (q_pure rfl) rfl ?_
                        refine wpl_off rfl rfl rfl rfl ?_
                        refine wpl_off rfl rfl rfl rfl ?_
                        refine wpl_on rfl rfl ?_
                        refine wpl_q (q_pure rfl) rfl ?_
                        refine wpl_on rfl rfl ?_
                        refine wpl_q (q_pure rfl) rfl ?_
                        refine wpl_q (q_pure rfl) rfl ?_
                        refine wpl_nil ?_
                        refine ex_then ?_
                        refine wpc_cond_f rfl ?_
                        refine wpc_skip ?_
                        refine ex_block ?_
                        refine ex_then ?_
                        refine wpc_region ?_
                        refine wpl_q (q_pure rfl) rfl ?_
                        refine wpl_q (q_addN (b := 1) rfl rfl (by first | omega | (simp only [maxLen]; omega) | (simp only [List.length_append, List.length_cons, List.length_nil, List.length_take, maxLen]; omega) | (simp only [List.length_append, List.length_cons, List.length_nil, List.length_take]; omega))) rfl ?_
                        refine wpl_q (q_pure rfl) rfl ?_
                        first | refine wpl_re 7 rfl (congrArg (fun n : Nat => Value.int .i64 (n : Int)) (show i - ((base64F bs).length - (3 - bs.length % 3) % 3) = i + 1 - ((base64F bs).length - (3 - bs.length % 3) % 3) by omega)) ?_ | refine wpl_re 7 rfl (congrArg (fun n : Nat => Value.int .i64 (n : Int)) (show (0 : Nat) = 0 - ((base64F bs).length - (3 - bs.length % 3) % 3) by omega)) ?_ | skip
                        refine wpl_nil ?_
                        refine ex_again ⟨i + 1, by first | omega | assumption | decide | exact SV.nil | (simp; done) | (dsimp only; omega)⟩ ?_ ?_ ?_
                        · exact (by repeat (first | exact trivial | refine ⟨rfl, ?_⟩))
                        · exact fun w h => by first | exact h | exact h.sub (by repeat (first | exact Sub.nil | exact Sub.refl _ | with_reducible refine Sub.keep ?_ | refine Sub.drop ?_)) (by repeat (first | exact Sub.nil | exact Sub.refl _ | with_reducible refine Sub.keep ?_ | refine Sub.drop ?_))
                        · (show (base64F bs).length - (i + 1) < (base64F bs).length - i); omega
                      ·
                        try simp only [decide_eq_true_eq, decide_eq_false_iff_not, Bool.and_eq_true, Bool.or_eq_true, beq_iff_eq, bne_iff_ne, ne_eq, Bool.not_eq_true', Bool.not_eq_false', Decidable.not_not] at hb106
                        refine wpl_on rfl rfl ?_
                        refine wpl_q (q_pure rfl) rfl ?_
                        refine wpl_on rfl rfl ?_
                        refine wpl_q (q8_eql (b := (43 : UInt8)) rfl rfl) rfl ?_
                        refine wpl_on rfl rfl ?_
                        refine wpl_q (q_pure rfl) rfl ?_
                        refine wpl_on rfl rfl ?_
                        refine wpl_q (q_pure rfl) rfl ?_
                        refine wpl_bool2 110 108 rfl rfl (fun hb110 => ?_) (fun hb110 => ?_)
                        ·
                          try simp only [decide_eq_true_eq, decide_eq_false_iff_not, Bool.and_eq_true, Bool.or_eq_true, beq_iff_eq, bne_iff_ne, ne_eq, Bool.not_eq_true', Bool.not_eq_false', Decidable.not_not] at hb110
                          refine wpl_off rfl rfl rfl rfl ?_
                          refine wpl_off rfl rfl rfl rfl ?_
                          refine wpl_on rfl rfl ?_
                          refine wpl_q (q_pure rfl) rfl ?_
                          refine wpl_on rfl rfl ?_
                          refine wpl_q (q_pure rfl) rfl ?_
                          refine wpl_q (q_pure rfl) rfl ?_
                          refine wpl_nil ?_
                          refine ex_then ?_
                          refine wpc_cond_f rfl ?_
                          refine wpc_skip ?_
                          refine ex_block ?_
                          refine ex_then ?_
                          refine wpc_region ?_
                          refine wpl_q (q_pure rfl) rfl ?_
                          refine wpl_q (q_addN (b := 1) rfl rfl (by first | omega | (simp only [maxLen]; omega) | (simp only [List.length_append, List.length_cons, List.length_nil, List.length_take, maxLen]; omega) | (simp only [List.length_append, List.length_cons, List.length_nil, List.length_take]; omega))) rfl ?_
                          refine wpl_q (q_pure rfl) rfl ?_
                          first | refine wpl_re 7 rfl (congrArg (fun n : Nat => Value.int .i64 (n : Int)) (show i - ((base64F bs).length - (3 - bs.length % 3) % 3) = i + 1 - ((base64F bs).length - (3 - bs.length % 3) % 3) by omega)) ?_ | refine wpl_re 7 rfl (congrArg (fun n : Nat => Value.int .i64 (n : Int)) (show (0 : Nat) = 0 - ((base64F bs).length - (3 - bs.length % 3) % 3) by omega)) ?_ | skip
                          refine wpl_nil ?_
                          refine ex_again ⟨i + 1, by first | omega | assumption | decide | exact SV.nil | (simp; done) | (dsimp only; omega)⟩ ?_ ?_ ?_
                          · exact (by repeat (first | exact trivial | refine ⟨rfl, ?_⟩))
                          · exact fun w h => by first | exact h | exact h.sub (by repeat (first | exact Sub.nil | exact Sub.refl _ | with_reducible refine Sub.keep ?_ | refine Sub.drop ?_)) (by repeat (first | exact Sub.nil | exact Sub.refl _ | with_reducible refine Sub.keep ?_ | refine Sub.drop ?_))
                          · (show (base64F bs).length - (i + 1) < (base64F bs).length - i); omega
                        ·
                          try simp only [decide_eq_false_iff_not] at hb110
                          have h43 : ((base64F bs).getD i 0).toNat ≠ 43 := (fun e => hb110 (UInt8.toNat_inj.1 (show ((base64F bs).getD i 0).toNat = (43 : UInt8).toNat from e)))
                          refine wpl_on rfl rfl ?_
                          refine wpl_q (q_pure rfl) rfl ?_
                          refine wpl_on rfl rfl ?_
                          refine wpl_q (q8_eql (b := (47 : UInt8)) rfl rfl) rfl ?_
                          refine wpl_on rfl rfl ?_
                          refine wpl_q (q_pure rfl) rfl ?_
                          refine wpl_on rfl rfl ?_
                          refine wpl_q (q_pure rfl) rfl ?_
                          refine wpl_q (q_pure rfl) rfl ?_
                          refine wpl_nil ?_
                          refine ex_then ?_
                          refine wpc_cond rfl (fun hc115 => ?_) (fun hc115 => ?_)
                          ·
                            simp only [Bool.not_eq_true', decide_eq_false_iff_not] at hc115; have h47 : ((base64F bs).getD i 0).toNat ≠ 47 := (fun e => hc115 (UInt8.toNat_inj.1 (show ((base64F bs).getD i 0).toNat = (47 : UInt8).toNat from e))); omega
                          ·
                            try simp only [decide_eq_true_eq, decide_eq_false_iff_not, Bool.and_eq_true, Bool.or_eq_true, beq_iff_eq, bne_iff_ne, ne_eq, Bool.not_eq_true', Bool.not_eq_false', Decidable.not_not] at hc115
                            refine wpc_skip ?_
                            refine ex_block ?_
                            refine ex_then ?_
                            refine wpc_region ?_
                            refine wpl_q (q_pure rfl) rfl ?_
                            refine wpl_q (q_addN (b := 1) rfl rfl (by first | omega | (simp only [maxLen]; omega) | (simp only [List.length_append, List.length_cons, List.length_nil, List.length_take, maxLen]; omega) | (simp only [List.length_append, List.length_cons, List.length_nil, List.length_take]; omega))) rfl ?_
                            refine wpl_q (q_pure rfl) rfl ?_
                            first | refine wpl_re 7 rfl (congrArg (fun n : Nat => Value.int .i64 (n : Int)) (show i - ((base64F bs).length - (3 - bs.length % 3) % 3) = i + 1 - ((base64F bs).length - (3 - bs.length % 3) % 3) by omega)) ?_ | refine wpl_re 7 rfl (congrArg (fun n : Nat => Value.int .i64 (n : Int)) (show (0 : Nat) = 0 - ((base64F bs).length - (3 - bs.length % 3) % 3) by omega)) ?_ | skip
                            refine wpl_nil ?_
                            refine ex_again ⟨i + 1, by first | omega | assumption | decide | exact SV.nil | (simp; done) | (dsimp only; omega)⟩ ?_ ?_ ?_
                            · exact (by repeat (first | exact trivial | refine ⟨rfl, ?_⟩))
                            · exact fun w h => by first | exact h | exact h.sub (by repeat (first | exact Sub.nil | exact Sub.refl _ | with_reducible refine Sub.keep ?_ | refine Sub.drop ?_)) (by repeat (first | exact Sub.nil | exact Sub.refl _ | with_reducible refine Sub.keep ?_ | refine Sub.drop ?_))
                            · (show (base64F bs).length - (i + 1) < (base64F bs).length - i); omega
                    ·
                      try simp only [decide_eq_true_eq, decide_eq_false_iff_not, Bool.and_eq_true, Bool.or_eq_true, beq_iff_eq, bne_iff_ne, ne_eq, Bool.not_eq_true', Bool.not_eq_false', Decidable.not_not] at hb101
                      refine wpl_off rfl rfl rfl rfl ?_
                      refine wpl_off rfl rfl rfl rfl ?_
                      refine wpl_on rfl rfl ?_
                      refine wpl_q (q_pure rfl) rfl ?_
                      refine wpl_on rfl rfl ?_
                      refine wpl_q (q_pure rfl) rfl ?_
                      refine wpl_on rfl rfl ?_
                      refine wpl_q (q_pure rfl) rfl ?_
                      refine wpl_on rfl rfl ?_
                      refine wpl_q (q_pure rfl) rfl ?_
                      refine wpl_on rfl rfl ?_
                      refine wpl_q (q8_eql (b := (43 : UInt8)) rfl rfl) rfl ?_
                      refine wpl_on rfl rfl ?_
                      refine wpl_q (q_pure rfl) rfl ?_
                      refine wpl_on rfl rfl ?_
                      refine wpl_q (q_pure rfl) rfl ?_
                      refine wpl_bool2 110 108 rfl rfl (fun hb110 => ?_) (fun hb110 => ?_)
                      ·
                        try simp only [decide_eq_true_eq, decide_eq_false_iff_not, Bool.and_eq_true, Bool.or_eq_true, beq_iff_eq, bne_iff_ne, ne_eq, Bool.not_eq_true', Bool.not_eq_false', Decidable.not_not] at hb110
                        refine wpl_off rfl rfl rfl rfl ?_
                        refine wpl_off rfl rfl rfl rfl ?_
                        refine wpl_on rfl rfl ?_
                        refine wpl_q (q_pure rfl) rfl ?_
                        refine wpl_on rfl rfl ?_
                        refine wpl_q (q_pure rfl) rfl ?_
                        refine wpl_q (q_pure rfl) rfl ?_
                        refine wpl_nil ?_
                        refine ex_then ?_
                        refine wpc_cond_f rfl ?_
                        refine wpc_skip ?_
                        refine ex_block ?_
                        refine ex_then ?_
                        refine wpc_region ?_
                        refine wpl_q (q_pure rfl) rfl ?_
                        refine wpl_q (q_addN (b := 1) rfl rfl (by first | omega | (simp only [maxLen]; omega) | (simp only [List.length_append, List.length_cons, List.length_nil, List.length_take, maxLen]; omega) | (simp only [List.length_append, List.length_cons, List.length_nil, List.length_take]; omega))) rfl ?_
                        refine wpl_q (q_pure rfl) rfl ?_
                        first | refine wpl_re 7 rfl (congrArg (fun n : Nat => Value.int .i64 (n : Int)) (show i - ((base64F bs).length - (3 - bs.length % 3) % 3) = i + 1 - ((base64F bs).length - (3 - bs.length % 3) % 3) by omega)) ?_ | refine wpl_re 7 rfl (congrArg (fun n : Nat => Value.int .i64 (n : Int)) (show (0 : Nat) = 0 - ((base64F bs).length - (3 - bs.length % 3) % 3) by omega)) ?_ | skip
                        refine wpl_nil ?_
                        refine ex_again ⟨i + 1, by first | omega | assumption | decide | exact SV.nil | (simp; done) | (dsimp only; omega)⟩ ?_ ?_ ?_
                        · exact (by repeat (first | exact trivial | refine ⟨rfl, ?_⟩))
                        · exact fun w h => by first | exact h | exact h.sub (by repeat (first | exact Sub.nil | exact Sub.refl _ | with_reducible refine Sub.keep ?_ | refine Sub.drop ?_)) (by repeat (first | exact Sub.nil | exact Sub.refl _ | with_reducible refine Sub.keep ?_ | refine Sub.drop ?_))
                        · (show (base64F bs).length - (i + 1) < (base64F bs).length - i); omega
                      ·
                        try simp only [decide_eq_false_iff_not] at hb110
                        have h43 : ((base64F bs).getD i 0).toNat ≠ 43 := (fun e => hb110 (UInt8.toNat_inj.1 (show ((base64F bs).getD i 0).toNat = (43 : UInt8).toNat from e)))
                        refine wpl_on rfl rfl ?_
                        refine wpl_q (q_pure rfl) rfl ?_
                        refine wpl_on rfl rfl ?_
                        refine wpl_q (q8_eql (b := (47 : UInt8)) rfl rfl) rfl ?_
                        refine wpl_on rfl rfl ?_
                        refine wpl_q (q_pure rfl) rfl ?_
                        refine wpl_on rfl rfl ?_
                        refine wpl_q (q_pure rfl) rfl ?_
                        refine wpl_q (q_pure rfl) rfl ?_
                        refine wpl_nil ?_
                        refine ex_then ?_
                        refine wpc_cond rfl (fun hc115 => ?_) (fun hc115 => ?_)
                        ·
                          simp only [Bool.not_eq_true', decide_eq_false_iff_not] at hc115; have h47 : ((base64F bs).getD i 0).toNat ≠ 47 := (fun e => hc115 (UInt8.toNat_inj.1 (show ((base64F bs).getD i 0).toNat = (47 : UInt8).toNat from e))); omega
                        ·
                          try simp only [decide_eq_true_eq, decide_eq_false_iff_not, Bool.and_eq_true, Bool.or_eq_true, beq_iff_eq, bne_iff_ne, ne_eq, Bool.not_eq_true', Bool.not_eq_false', Decidable.not_not] at hc115
                          refine wpc_skip ?_
                          refine ex_block ?_
                          refine ex_then ?_
                          refine wpc_region ?_
                          refine wpl_q (q_pure rfl) rfl ?_
                          refine wpl_q (q_addN (b := 1) rfl rfl (by first | omega | (simp only [maxLen]; omega) | (simp only [List.length_append, List.length_cons, List.length_nil, List.length_take, maxLen]; omega) | (simp only [List.length_append, List.length_cons, List.length_nil, List.length_take]; omega))) rfl ?_
                          refine wpl_q (q_pure rfl) rfl ?_
                          first | refine wpl_re 7 rfl (congrArg (fun n : Nat => Value.int .i64 (n : Int)) (show i - ((base64F bs).length - (3 - bs.length % 3) % 3) = i + 1 - ((base64F bs).length - (3 - bs.length % 3) % 3) by omega)) ?_ | refine wpl_re 7 rfl (congrArg (fun n : Nat => Value.int .i64 (n : Int)) (show (0 : Nat) = 0 - ((base64F bs).length - (3 - bs.length % 3) % 3) by omega)) ?_ | skip
                          refine wpl_nil ?_
                          refine ex_again ⟨i + 1, by first | omega | assumption | decide | exact SV.nil | (simp; done) | (dsimp only; omega)⟩ ?_ ?_ ?_
                          · exact (by repeat (first | exact trivial | refine ⟨rfl, ?_⟩))
                          · exact fun w h => by first | exact h | exact h.sub (by repeat (first | exact Sub.nil | exact Sub.refl _ | with_reducible refine Sub.keep ?_ | refine Sub.drop ?_)) (by repeat (first | exact Sub.nil | exact Sub.refl _ | with_reducible refine Sub.keep ?_ | refine Sub.drop ?_))
                          · (show (base64F bs).length - (i + 1) < (base64F bs).length - i); omega
          ·
            simp only [decide_eq_false_iff_not] at hc71
            obtain rfl : i = (base64F bs).length := by omega
            refine wpc_exit ?_
            refine ex_then_exit ?_
            refine ex_then_exit ?_
            refine ex_block_hit ?_
            refine ex_then ?_
            refine wpc_seq ?_
            refine wpc_region ?_
            refine wpl_q (q_pure rfl) rfl ?_
            refine wpl_q (q_pure rfl) rfl ?_
            refine wpl_on rfl rfl ?_
            refine wpl_q (q_pure rfl) rfl ?_
            refine wpl_on rfl rfl ?_
            refine wpl_q (q_pure rfl) rfl ?_
            refine wpl_on rfl rfl ?_
            refine wpl_q (q_lenW Tryd.underlying22 rfl (by first | assumption | exact SV.nil | exact SV.slv (by assumption) (by omega) (by omega) | exact arv_sv (by first | decide | (simp only [maxLen]; omega)))) rfl ?_
            refine wpl_on rfl rfl ?_
            refine wpl_q (q_remN (b := 3) rfl rfl (by first | decide | omega)) rfl ?_
            refine wpl_on rfl rfl ?_
            refine wpl_q (q_subN (a := 3) rfl rfl (by omega) (by first | omega | (simp only [maxLen]; omega) | (simp only [List.length_append, List.length_cons, List.length_nil, List.length_take, maxLen]; omega) | (simp only [List.length_append, List.length_cons, List.length_nil, List.length_take]; omega))) rfl ?_
            refine wpl_on rfl rfl ?_
            refine wpl_q (q_remN (b := 3) rfl rfl (by first | decide | omega)) rfl ?_
            refine wpl_on rfl rfl ?_
            refine wpl_q (q_tru (q_eqI rfl rfl) (by omega)) rfl ?_
            refine wpl_q (q_pure rfl) rfl ?_
            refine wpl_q (q_pure rfl) rfl ?_
            refine wpl_nil ?_
            refine ex_then ?_
            refine wpc_ret ?_
            refine ret1 (.inl rfl) rfl rfl ?_
            exact fun w h => ⟨rfl, h.below⟩

end Go.Proofs.YtlapmdiabhlbmaaDoor
