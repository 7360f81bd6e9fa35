/- Numbers, strings and lists come back. -/
import Derived.Test.YtommkigkkeailaaOAP
namespace Go.Proofs.Ytommkigkkeailaa
set_option linter.unusedSimpArgs false
set_option linter.unusedVariables false
open Go Go.PL Go.RowKit

theorem numOf_snoc (xs : List UInt8) (b : UInt8) : numOf (xs ++ [b]) = 256 * numOf xs + b.toNat := by rw [numOf, List.foldl_append]; rfl
theorem numOf_numB (n : Nat) : numOf (numB n) = n := by
  induction n using Nat.strongRecOn with
  | _ n ih =>
    by_cases h : n = 0
    · subst h; rfl
    · rw [numB_step h, numOf_snoc, ih _ (by omega), of8_lt (by omega)]; omega
theorem numB_first (n : Nat) : ¬ (0 < (numB n).length ∧ (numB n).getD 0 0 = 0) := by
  induction n using Nat.strongRecOn with
  | _ n ih =>
    by_cases h : n = 0
    · subst h; rintro ⟨h, _⟩; exact absurd h (by decide)
    · rintro ⟨_, h2⟩
      rw [numB_step h] at h2
      cases hl : numB (n / 256) with
      | nil =>
        rw [hl] at h2
        have h3 := numOf_numB (n / 256)
        rw [hl] at h3
        have h4 : of8 ((n % 256 : Nat) : Int) = 0 := h2
        have h5 := of8_lt (n := n % 256) (by omega)
        rw [h4] at h5
        have h5 : 0 = n % 256 := h5
        have h3 : 0 = n / 256 := h3
        omega
      | cons b l =>
        rw [hl] at h2
        exact ih (n / 256) (by omega) (by rw [hl]; exact ⟨Nat.succ_pos _, h2⟩)
theorem rdNum_num (g o : UInt8) (z mx : UInt64) : rdNum (Tr.nd g (numB z.toNat) []) o mx = if g ≠ o ∨ mx.toNat < z.toNat then (0, 12) else (z, 0) := by
  have h1 := numB_len z.toNat_lt
  have h2 := numB_first z.toNat
  by_cases hg : g = o
  · subst hg
    have hb : ¬ badN g (Tr.nd g (numB z.toNat) []) := by
      rintro (h | h | h | h)
      · exact h rfl
      · exact absurd h (by show ¬ 0 < 0; omega)
      · have h : 8 < (numB z.toNat).length := h
        omega
      · exact h2 h
    have e : numOf (Tr.nd g (numB z.toNat) []).bs = z.toNat := numOf_numB _
    rw [rdNum, if_neg hb, e]
    by_cases hm : mx.toNat < z.toNat
    · rw [if_pos hm, if_pos (.inr hm)]
    · rw [if_neg hm, if_neg (by rintro (h | h); · exact h rfl
                                · exact hm h), UInt64.ofNat_toNat]
  · rw [if_pos (.inl hg), rdNum, if_pos (.inl hg)]
theorem rdStr_str (g o : UInt8) (bs : List UInt8) (mx : Int) : rdStr (Tr.nd g bs []) o mx = if g ≠ o ∨ mx < (bs.length : Int) then ([], 12) else (bs, 0) := by
  rw [rdStr]
  by_cases h : badS o mx (Tr.nd g bs [])
  · rw [if_pos h, if_pos]
    rcases h with h | h | h
    · exact .inl h
    · exact absurd h (by show ¬ 0 < 0; omega)
    · exact .inr h
  · rw [if_neg h, if_neg (by rintro (h2 | h2); · exact h (.inl h2)
                             · exact h (.inr (.inr h2)))]
    rfl
theorem rdNum_ok {g o : UInt8} {z mx : UInt64} (h : (rdNum (Tr.nd g (numB z.toNat) []) o mx).2 = 0) : (rdNum (Tr.nd g (numB z.toNat) []) o mx).1 = z ∧ g = o ∧ ¬ mx.toNat < z.toNat := by
  rw [rdNum_num] at h ⊢
  split at h
  · cases h
  · rename_i h2
    rw [if_neg h2]
    rw [not_or, Decidable.not_not] at h2
    exact ⟨rfl, h2.1, h2.2⟩
theorem rdNum_bad {g o : UInt8} {z mx : UInt64} (h : ¬ (rdNum (Tr.nd g (numB z.toNat) []) o mx).2 = 0) : g ≠ o ∨ mx.toNat < z.toNat := by
  rw [rdNum_num] at h
  split at h
  · assumption
  · exact absurd rfl h
theorem rdStr_ok {g : UInt8} {bs : List UInt8} {n : Nat} (h : (rdStr (Tr.nd g bs []) g ((n : Nat) : Int)).2 = 0) : (rdStr (Tr.nd g bs []) g ((n : Nat) : Int)).1 = bs ∧ bs.length ≤ n := by
  rw [rdStr_str] at h ⊢
  split at h
  · cases h
  · rename_i h2
    rw [if_neg h2]
    rw [not_or] at h2
    exact ⟨rfl, by omega⟩
theorem rdStr_bad {g : UInt8} {bs : List UInt8} {n : Nat} (h : ¬ (rdStr (Tr.nd g bs []) g ((n : Nat) : Int)).2 = 0) : n < bs.length := by
  rw [rdStr_str] at h
  split at h
  · rename_i h2
    rcases h2 with h2 | h2
    · exact absurd rfl h2
    · omega
  · exact absurd rfl h
theorem ne_bools {a b : Bool} (h : a = true ↔ b = true) : (a != b) = false := by cases a <;> cases b <;> simp_all
section
variable {P : Program} {n : Cx} {R : World → Prop} {L : Slots}
theorem q_strNe {t t' : TypeId} {x y : Operand} {xs ys : List UInt8} (hu : P.underlying t = some .string) (hx : ev L x = some (str xs)) (hy : ev L y = some (str ys)) (hg : P.eqGuardType P.depth t = false) : QOp P n R L (.binOp .neq t x y t') (.bool (!decide (xs = ys))) := by
  intro d ty pos af g a w hs _
  have hx' : ev L x = some (.string ⟨xs.toArray⟩) := hx
  have hy' : ev L y = some (.string ⟨ys.toArray⟩) := hy
  simp only [execOp, hs.eval hx', hs.eval hy']
  have h2 : (binOp .neq t (.string ⟨xs.toArray⟩) (.string ⟨ys.toArray⟩)).run P w = .ok (.bool (!decide (xs = ys))) w := by
    show (Op.stringOp .neq ⟨xs.toArray⟩ ⟨ys.toArray⟩).run P w = _
    simp [Op.stringOp]
    rw [Bool.eq_iff_iff]; simp
  simp [eqGuard, hg, h2]
end

set_option maxRecDepth 100000 in
theorem octetNumbers (g : UInt8) (o : UInt8) (z : UInt64) (mx : UInt64) (bs : List UInt8) (cs : List UInt8) (w : World)   :
    Calls Try.prog 11 [.int .u8 g.toNat, .int .u8 o.toNat, .int .u64 z.toNat, .int .u64 mx.toNat, str bs, str cs].toArray w (Pur w (.bool true)) := by
  refine enter (m := 157) (R := Mem w [] [] []) Try.func11 rfl rfl (Nat.le_of_ble_eq_true rfl) (Mem.start w) ?_
  refine wpc_seq ?_
  refine wpc_region ?_
  refine wpl_q (q_pure rfl) rfl ?_
  refine wpl_nil ?_
  refine ex_then ?_
  refine wpc_seq ?_
  refine wpc_region ?_
  refine wpl_t (t_pur (v := .bool true) Try.hb38 rfl fun w h => alive w) rfl (fun b24 => ?_)
  refine wpl_q (q_pure rfl) rfl ?_
  refine wpl_nil ?_
  refine ex_then ?_
  refine wpc_seq ?_
  refine wpc_seq ?_
  refine wpc_region ?_
  refine wpl_q (q_pure rfl) rfl ?_
  refine wpl_q (q_lenS Try.underlying9 rfl) rfl ?_
  refine wpl_q (q_pure rfl) rfl ?_
  refine wpl_q (q_pure rfl) rfl ?_
  refine wpl_bool2 28 27 rfl rfl (fun hb28 => ?_) (fun hb28 => ?_)
  ·
   refine wpl_off rfl rfl rfl rfl ?_
   refine wpl_off rfl rfl rfl rfl ?_
   refine wpl_off rfl rfl rfl rfl ?_
   refine wpl_q (q_pure rfl) rfl ?_
   refine wpl_q (q_pure rfl) rfl ?_
   refine wpl_off rfl rfl rfl rfl ?_
   refine wpl_off rfl rfl rfl rfl ?_
   refine wpl_q (q_pure rfl) rfl ?_
   refine wpl_nil ?_
   refine ex_then ?_
   refine wpc_cond_t rfl ?_
   refine wpc_seq ?_
   refine wpc_region ?_
   refine wpl_q (q_pure rfl) rfl ?_
   refine wpl_q (q_pure rfl) rfl ?_
   refine wpl_nil ?_
   refine ex_then ?_
   refine wpc_ret ?_
   refine ex_then_ret ?_
   refine ret1 (.inl rfl) rfl rfl ?_
   exact fun w h => ⟨rfl, h.below⟩
  ·
   try simp only [decide_eq_false_iff_not] at hb28
   have lbs : bs.length ≤ 1000 := by omega
   refine wpl_on rfl rfl ?_
   refine wpl_q (q_pure rfl) rfl ?_
   refine wpl_on rfl rfl ?_
   refine wpl_q (q_lenS Try.underlying9 rfl) rfl ?_
   refine wpl_on rfl rfl ?_
   refine wpl_q (q_pure rfl) rfl ?_
   refine wpl_q (q_pure rfl) rfl ?_
   refine wpl_q (q_pure rfl) rfl ?_
   refine wpl_bool2 33 31 rfl rfl (fun hb33 => ?_) (fun hb33 => ?_)
   ·
    refine wpl_off rfl rfl rfl rfl ?_
    refine wpl_off rfl rfl rfl rfl ?_
    refine wpl_q (q_pure rfl) rfl ?_
    refine wpl_nil ?_
    refine ex_then ?_
    refine wpc_cond_t rfl ?_
    refine wpc_seq ?_
    refine wpc_region ?_
    refine wpl_q (q_pure rfl) rfl ?_
    refine wpl_q (q_pure rfl) rfl ?_
    refine wpl_nil ?_
    refine ex_then ?_
    refine wpc_ret ?_
    refine ex_then_ret ?_
    refine ret1 (.inl rfl) rfl rfl ?_
    exact fun w h => ⟨rfl, h.below⟩
   ·
    try simp only [decide_eq_false_iff_not] at hb33
    have lcs : cs.length ≤ 1000 := by omega
    refine wpl_on rfl rfl ?_
    refine wpl_q (q_pure rfl) rfl ?_
    refine wpl_on rfl rfl ?_
    refine wpl_q (q_pure rfl) rfl ?_
    refine wpl_q (q_pure rfl) rfl ?_
    refine wpl_nil ?_
    refine ex_then ?_
    refine wpc_cond_f rfl ?_
    refine wpc_skip ?_
    refine ex_then ?_
    refine wpc_seq ?_
    refine wpc_region ?_
    refine wpl_q (q_pure rfl) rfl ?_
    refine wpl_q (q_pure rfl) rfl ?_
    refine wpl_tp (t_callPT Try.hb22 rfl fun w h => frz (octNum g z w)) rfl (fun b41 p41 => ?_)
    refine wpl_q (q_pure rfl) rfl ?_
    refine wpl_q (q_pure rfl) rfl ?_
    refine wpl_t (t_pur Try.hb14 rfl fun w h => octReadNum b41 g mx w (Mem.hseenF h (by simp))) rfl (fun b44 => ?_)
    refine wpl_q (q_pure rfl) rfl ?_
    refine wpl_q (q_pure rfl) rfl ?_
    refine wpl_q (q_pure rfl) rfl ?_
    refine wpl_q (q_pure rfl) rfl ?_
    refine wpl_q (q_pure rfl) rfl ?_
    refine wpl_nil ?_
    refine ex_then ?_
    refine wpc_seq ?_
    refine wpc_region ?_
    refine wpl_q (q_pure rfl) rfl ?_
    refine wpl_q (q_pure rfl) rfl ?_
    refine wpl_tp (t_callPT Try.hb22 rfl fun w h => frz (octNum g z w)) rfl (fun b50 p50 => ?_)
    refine wpl_q (q_pure rfl) rfl ?_
    refine wpl_t (t_pur Try.hb14 rfl fun w h => octReadNum b50 o 18446744073709551615 w (Mem.hseenF h (by simp))) rfl (fun b52 => ?_)
    have q1 := rdNum_ok (g := g) (o := g) (z := z) (mx := mx)
    have q2 := rdNum_bad (g := g) (o := g) (z := z) (mx := mx)
    have q3 := rdNum_ok (g := g) (o := o) (z := z) (mx := 18446744073709551615)
    have q4 := rdNum_bad (g := g) (o := o) (z := z) (mx := 18446744073709551615)
    rw [← p41.1] at q1 q2
    rw [← p50.1] at q3 q4
    have hzm : ¬ (18446744073709551615 : UInt64).toNat < z.toNat := by have := z.toNat_lt; show ¬ 18446744073709551615 < _; omega
    refine wpl_q (q_pure rfl) rfl ?_
    refine wpl_q (q_pure rfl) rfl ?_
    refine wpl_q (q_pure rfl) rfl ?_
    refine wpl_q (q_pure rfl) rfl ?_
    refine wpl_q (q_pure rfl) rfl ?_
    refine wpl_nil ?_
    refine ex_then ?_
    refine wpc_seq ?_
    refine wpc_cutc ({ x : Nat // True }) [(0, .int .u8 (g.toNat : Int)), (1, .int .u8 (o.toNat : Int)), (4, str bs), (5, str cs)] (fun x Lc => (86, .bool false) :: (13, .bool true) :: Lc) (fun x => Mem w [] [] []) ?_ ?_
    ·
     refine wpc_region ?_
     refine wpl_q (q_pure rfl) rfl ?_
     refine wpl_q (q_pure rfl) rfl ?_
     refine wpl_q (q_pure rfl) rfl ?_
     refine wpl_q (q_pure rfl) rfl ?_
     refine wpl_q (q_pure rfl) rfl ?_
     refine wpl_q (q_bt (c := false) (q_bne Try.underlying4 rfl rfl) (ne_bools (by simp only [beq_iff_eq, decide_eq_true_eq]; exact ⟨fun h => by have := (q1 (by omega)).2.2; omega, fun h => Decidable.byContradiction fun h2 => by have h3 := (q2 (by omega)).resolve_left (fun h => h rfl); omega⟩))) rfl ?_
     refine wpl_q (q_pure rfl) rfl ?_
     refine wpl_on rfl rfl ?_
     refine wpl_q (q_pure rfl) rfl ?_
     refine wpl_on rfl rfl ?_
     refine wpl_q (q_pure rfl) rfl ?_
     refine wpl_on rfl rfl ?_
     refine wpl_q (q_pure rfl) rfl ?_
     refine wpl_bool2 64 63 rfl rfl (fun hb64 => ?_) (fun hb64 => ?_)
     ·
      have h0 : (rdNum b41.tr g mx).2 = 0 := by simpa using hb64
      refine wpl_on rfl rfl ?_
      refine wpl_q (q_pure rfl) rfl ?_
      refine wpl_on rfl rfl ?_
      refine wpl_q (q_pure rfl) rfl ?_
      refine wpl_on rfl rfl ?_
      refine wpl_q (q_bt (c := false) (q64_neq rfl rfl) (by rw [(q1 h0).1]; simp)) rfl ?_
      refine wpl_on rfl rfl ?_
      refine wpl_q (q_pure rfl) rfl ?_
      refine wpl_q (q_pure rfl) rfl ?_
      refine wpl_q (q_pure rfl) rfl ?_
      refine wpl_on rfl rfl ?_
      refine wpl_q (q_pure rfl) rfl ?_
      refine wpl_on rfl rfl ?_
      refine wpl_q (q_pure rfl) rfl ?_
      refine wpl_on rfl rfl ?_
      refine wpl_q (q_pure rfl) rfl ?_
      refine wpl_on rfl rfl ?_
      refine wpl_q (q_pure rfl) rfl ?_
      refine wpl_on rfl rfl ?_
      refine wpl_q (q8_eql rfl rfl) rfl ?_
      refine wpl_on rfl rfl ?_
      refine wpl_q (q_bt (c := false) (q_bne Try.underlying4 rfl rfl) (ne_bools (by simp only [beq_iff_eq, decide_eq_true_eq]; exact ⟨fun h => (q3 (by omega)).2.1, fun h => Decidable.byContradiction fun h2 => by rcases q4 (by omega) with h3 | h3; exact h3 h; exact hzm h3⟩))) rfl ?_
      refine wpl_q (q_pure rfl) rfl ?_
      refine wpl_q (q_pure rfl) rfl ?_
      refine wpl_on rfl rfl ?_
      refine wpl_q (q_pure rfl) rfl ?_
      refine wpl_on rfl rfl ?_
      refine wpl_q (q_pure rfl) rfl ?_
      refine wpl_on rfl rfl ?_
      refine wpl_q (q_pure rfl) rfl ?_
      refine wpl_bool2 81 80 rfl rfl (fun hb81 => ?_) (fun hb81 => ?_)
      ·
       have h1 : (rdNum b50.tr o 18446744073709551615).2 = 0 := by simpa using hb81
       refine wpl_on rfl rfl ?_
       refine wpl_q (q_pure rfl) rfl ?_
       refine wpl_on rfl rfl ?_
       refine wpl_q (q_pure rfl) rfl ?_
       refine wpl_on rfl rfl ?_
       refine wpl_q (q_bt (c := false) (q64_neq rfl rfl) (by rw [(q3 h1).1]; simp)) rfl ?_
       refine wpl_on rfl rfl ?_
       refine wpl_q (q_pure rfl) rfl ?_
       refine wpl_q (q_pure rfl) rfl ?_
       refine wpl_nil ?_
       refine ex_mid ⟨0, trivial⟩ ?_ ?_
       ·
        exact (by repeat (first | exact trivial | refine ⟨rfl, ?_⟩))
       ·
        exact fun w h => h.sub .nil .nil
      ·
       refine wpl_off rfl rfl rfl rfl ?_
       refine wpl_off rfl rfl rfl rfl ?_
       refine wpl_off rfl rfl rfl rfl ?_
       refine wpl_on rfl rfl ?_
       refine wpl_q (q_pure rfl) rfl ?_
       refine wpl_q (q_pure rfl) rfl ?_
       refine wpl_nil ?_
       refine ex_mid ⟨0, trivial⟩ ?_ ?_
       ·
        exact (by repeat (first | exact trivial | refine ⟨rfl, ?_⟩))
       ·
        exact fun w h => h.sub .nil .nil
     ·
      refine wpl_off rfl rfl rfl rfl ?_
      refine wpl_off rfl rfl rfl rfl ?_
      refine wpl_off rfl rfl rfl rfl ?_
      refine wpl_on rfl rfl ?_
      refine wpl_q (q_pure rfl) rfl ?_
      refine wpl_q (q_pure rfl) rfl ?_
      refine wpl_q (q_pure rfl) rfl ?_
      refine wpl_on rfl rfl ?_
      refine wpl_q (q_pure rfl) rfl ?_
      refine wpl_on rfl rfl ?_
      refine wpl_q (q_pure rfl) rfl ?_
      refine wpl_on rfl rfl ?_
      refine wpl_q (q_pure rfl) rfl ?_
      refine wpl_on rfl rfl ?_
      refine wpl_q (q_pure rfl) rfl ?_
      refine wpl_on rfl rfl ?_
      refine wpl_q (q8_eql rfl rfl) rfl ?_
      refine wpl_on rfl rfl ?_
      refine wpl_q (q_bt (c := false) (q_bne Try.underlying4 rfl rfl) (ne_bools (by simp only [beq_iff_eq, decide_eq_true_eq]; exact ⟨fun h => (q3 (by omega)).2.1, fun h => Decidable.byContradiction fun h2 => by rcases q4 (by omega) with h3 | h3; exact h3 h; exact hzm h3⟩))) rfl ?_
      refine wpl_q (q_pure rfl) rfl ?_
      refine wpl_q (q_pure rfl) rfl ?_
      refine wpl_on rfl rfl ?_
      refine wpl_q (q_pure rfl) rfl ?_
      refine wpl_on rfl rfl ?_
      refine wpl_q (q_pure rfl) rfl ?_
      refine wpl_on rfl rfl ?_
      refine wpl_q (q_pure rfl) rfl ?_
      refine wpl_bool2 81 80 rfl rfl (fun hb81 => ?_) (fun hb81 => ?_)
      ·
       have h1 : (rdNum b50.tr o 18446744073709551615).2 = 0 := by simpa using hb81
       refine wpl_on rfl rfl ?_
       refine wpl_q (q_pure rfl) rfl ?_
       refine wpl_on rfl rfl ?_
       refine wpl_q (q_pure rfl) rfl ?_
       refine wpl_on rfl rfl ?_
       refine wpl_q (q_bt (c := false) (q64_neq rfl rfl) (by rw [(q3 h1).1]; simp)) rfl ?_
       refine wpl_on rfl rfl ?_
       refine wpl_q (q_pure rfl) rfl ?_
       refine wpl_q (q_pure rfl) rfl ?_
       refine wpl_nil ?_
       refine ex_mid ⟨0, trivial⟩ ?_ ?_
       ·
        exact (by repeat (first | exact trivial | refine ⟨rfl, ?_⟩))
       ·
        exact fun w h => h.sub .nil .nil
      ·
       refine wpl_off rfl rfl rfl rfl ?_
       refine wpl_off rfl rfl rfl rfl ?_
       refine wpl_off rfl rfl rfl rfl ?_
       refine wpl_on rfl rfl ?_
       refine wpl_q (q_pure rfl) rfl ?_
       refine wpl_q (q_pure rfl) rfl ?_
       refine wpl_nil ?_
       refine ex_mid ⟨0, trivial⟩ ?_ ?_
       ·
        exact (by repeat (first | exact trivial | refine ⟨rfl, ?_⟩))
       ·
        exact fun w h => h.sub .nil .nil
    ·
     rintro ⟨q, _⟩; try dsimp only
     refine wpc_cond_f rfl ?_
     refine wpc_skip ?_
     refine ex_then ?_
     refine wpc_seq ?_
     refine wpc_region ?_
     refine wpl_q (q_pure rfl) rfl ?_
     refine wpl_q (q_pure rfl) rfl ?_
     refine wpl_tp (t_callPT Try.hb24 rfl fun w h => octStr g bs w (by simp only [maxLen]; omega)) rfl (fun b90 p90 => ?_)
     refine wpl_q (q_pure rfl) rfl ?_
     refine wpl_q (q_pure rfl) rfl ?_
     refine wpl_q (q_lenS Try.underlying9 rfl) rfl ?_
     refine wpl_t (t_pur Try.hb16 rfl fun w h => octReadStr b90 g ((cs.length : Nat) : Int) w (Mem.hseenF h (by simp))) rfl (fun b94 => ?_)
     refine wpl_q (q_pure rfl) rfl ?_
     refine wpl_q (q_pure rfl) rfl ?_
     refine wpl_q (q_pure rfl) rfl ?_
     refine wpl_q (q_pure rfl) rfl ?_
     refine wpl_q (q_pure rfl) rfl ?_
     refine wpl_nil ?_
     refine ex_then ?_
     refine wpc_seq ?_
     refine wpc_region ?_
     refine wpl_q (q_pure rfl) rfl ?_
     refine wpl_q (q_pure rfl) rfl ?_
     refine wpl_q (q_pure rfl) rfl ?_
     refine wpl_tp (t_callPT Try.hb24 rfl fun w h => octStr g bs w (by simp only [maxLen]; omega)) rfl (fun b101 p101 => ?_)
     haveI := p101.2.one
     refine wpl_q (q_pure rfl) rfl ?_
     refine wpl_q (q_pure rfl) rfl ?_
     refine wpl_tp (t_callPT Try.hb24 rfl fun w h => octStr o cs w (by simp only [maxLen]; omega)) rfl (fun b104 p104 => ?_)
     haveI := p104.2.one
     have hsm : Sm (Tr.nd g [] [b101.tr, b104.tr]) := by
       rw [p101.1, p104.1]
       show 0 + (bs.length + 0 + (cs.length + 0 + 0)) + 5 * (1 + (1 + 0 + (1 + 0 + 0))) ≤ 1000000
       omega
     refine wpl_tp (t_bsG [.agg b101.c.toArray, .agg b104.c.toArray] (hcs [b101, b104]) Try.underlying23 Try.ti25 rfl (by decide) rfl (by decide) (by decide) rfl (by intro v hv; simp only [List.mem_cons, List.not_mem_nil, or_false] at hv; rcases hv with rfl | rfl <;> exact HT.c_length _) rfl) rfl (fun b105 p105 => ?_)
     refine wpl_tp (t_callPT Try.hb20 rfl fun w h => frz (octSeq g b105 [b101, b104] w h.seenV ⟨(Mem.hseenF h (by simp)), (Mem.hseenF h (by simp)), trivial⟩ hsm)) rfl (fun b106 p106 => ?_)
     have hsm2 : Sm b106.tr := by rw [p106.1]; exact hsm
     refine wpl_q (q_pure rfl) rfl ?_
     refine wpl_tp (t_callE (fun y : Value × List HT => .row y.1 y.2.length 25 3 (hcs y.2) :: (entsL y.2 ++ [.row b105 2 25 3 (hcs [b101, b104])])) (fun y => List.Perm.refl _) Try.hb18 rfl fun w h => octReadSeq b106 g 2 2 w (Mem.hseenF h (by simp)) hsm2) rfl (fun b108 p108 => ?_)
     obtain ⟨yv, yl⟩ := b108
     dsimp only at p108 ⊢
     have hrs : rdSeq b106.tr g 2 2 = ([Tr.nd g bs [], Tr.nd o cs []], 0) := by
       have e : b106.tr = Tr.nd g [] [Tr.nd g bs [], Tr.nd o cs []] := by rw [p106.1, ← p101.1, ← p104.1]; rfl
       rw [e, rdSeq, if_neg]
       · rfl
       · rintro (h | h | h | h)
         · exact h rfl
         · exact absurd h (by show ¬ 0 < 0; omega)
         · exact absurd h (by show ¬ (2 : Int) < 2; omega)
         · exact absurd h (by show ¬ (2 : Int) < 2; omega)
     have hyt := p108.1
     rw [hrs] at hyt
     have hyl : yl.length = 2 := by rw [← trs_length, hyt]; rfl
     have hy1 : (yl.getD 1 HT.z).tr = Tr.nd o cs [] := by rw [← trs_get (by omega), hyt]; rfl
     have svy := p108.2.1
     haveI := (p108.2.2 _ (getD_memH (show 1 < yl.length by omega))).one
     have q5 := rdStr_ok (g := g) (bs := bs) (n := cs.length)
     have q6 := rdStr_bad (g := g) (bs := bs) (n := cs.length)
     rw [← p90.1] at q5 q6
     refine wpl_q (q_pure rfl) rfl ?_
     refine wpl_q (q_pure rfl) rfl ?_
     refine wpl_q (q_pure rfl) rfl ?_
     refine wpl_q (q_pure rfl) rfl ?_
     refine wpl_q (q_pure rfl) rfl ?_
     refine wpl_nil ?_
     refine ex_then ?_
     refine wpc_seq ?_
     refine wpc_cutc ({ x : Nat // True }) [(1, .int .u8 (o.toNat : Int)), (5, str cs), (20, yv)] (fun x Lc => (136, .bool false) :: (13, .bool true) :: Lc) (fun x => Mem w [] (.row yv yl.length 25 3 (hcs yl) :: entsL yl) []) ?_ ?_
     ·
      refine wpc_region ?_
      refine wpl_q (q_pure rfl) rfl ?_
      refine wpl_q (q_pure rfl) rfl ?_
      refine wpl_q (q_pure rfl) rfl ?_
      refine wpl_q (q_lenS Try.underlying9 rfl) rfl ?_
      refine wpl_q (q_pure rfl) rfl ?_
      refine wpl_q (q_lenS Try.underlying9 rfl) rfl ?_
      refine wpl_q (q_pure rfl) rfl ?_
      refine wpl_q (q_bt (c := false) (q_bne Try.underlying4 rfl rfl) (ne_bools (by simp only [beq_iff_eq, decide_eq_true_eq]; exact ⟨fun h => by have := (q5 (by omega)).2; omega, fun h => Decidable.byContradiction fun h2 => by have := q6 (by omega); omega⟩))) rfl ?_
      refine wpl_q (q_pure rfl) rfl ?_
      refine wpl_on rfl rfl ?_
      refine wpl_q (q_pure rfl) rfl ?_
      refine wpl_on rfl rfl ?_
      refine wpl_q (q_pure rfl) rfl ?_
      refine wpl_on rfl rfl ?_
      refine wpl_q (q_pure rfl) rfl ?_
      refine wpl_bool2 122 121 rfl rfl (fun hb122 => ?_) (fun hb122 => ?_)
      ·
       have h2 : (rdStr b90.tr g ((cs.length : Nat) : Int)).2 = 0 := by simpa using hb122
       refine wpl_on rfl rfl ?_
       refine wpl_q (q_pure rfl) rfl ?_
       refine wpl_on rfl rfl ?_
       refine wpl_q (q_pure rfl) rfl ?_
       refine wpl_on rfl rfl ?_
       refine wpl_q (q_bt (c := false) (q_strNe Try.underlying9 rfl rfl (by kernel_rfl)) (by rw [(q5 h2).1]; simp)) rfl ?_
       refine wpl_on rfl rfl ?_
       refine wpl_q (q_pure rfl) rfl ?_
       refine wpl_q (q_pure rfl) rfl ?_
       refine wpl_q (q_pure rfl) rfl ?_
       refine wpl_on rfl rfl ?_
       refine wpl_q (q_pure rfl) rfl ?_
       refine wpl_on rfl rfl ?_
       refine wpl_q (q_bt (c := false) (q_neI rfl rfl) (by rw [hrs]; rfl)) rfl ?_
       refine wpl_q (q_pure rfl) rfl ?_
       refine wpl_q (q_pure rfl) rfl ?_
       refine wpl_on rfl rfl ?_
       refine wpl_q (q_pure rfl) rfl ?_
       refine wpl_on rfl rfl ?_
       refine wpl_q (q_lenW Try.underlying23 rfl (by first | assumption | exact SV.nil | exact SV.slv (by assumption) (by omega) (by omega) | exact arv_sv (by first | decide | (simp only [maxLen]; omega)))) rfl ?_
       refine wpl_on rfl rfl ?_
       refine wpl_q (q_bt (c := false) (q_neI rfl rfl) (by rw [hyl]; rfl)) rfl ?_
       refine wpl_q (q_pure rfl) rfl ?_
       refine wpl_nil ?_
       refine ex_mid ⟨0, trivial⟩ ?_ ?_
       ·
        exact (by repeat (first | exact trivial | refine ⟨rfl, ?_⟩))
       ·
        exact fun w h => h.sub (.keep (sub_left _ _)) .nil
      ·
       refine wpl_off rfl rfl rfl rfl ?_
       refine wpl_off rfl rfl rfl rfl ?_
       refine wpl_off rfl rfl rfl rfl ?_
       refine wpl_on rfl rfl ?_
       refine wpl_q (q_pure rfl) rfl ?_
       refine wpl_q (q_pure rfl) rfl ?_
       refine wpl_q (q_pure rfl) rfl ?_
       refine wpl_on rfl rfl ?_
       refine wpl_q (q_pure rfl) rfl ?_
       refine wpl_on rfl rfl ?_
       refine wpl_q (q_bt (c := false) (q_neI rfl rfl) (by rw [hrs]; rfl)) rfl ?_
       refine wpl_q (q_pure rfl) rfl ?_
       refine wpl_q (q_pure rfl) rfl ?_
       refine wpl_on rfl rfl ?_
       refine wpl_q (q_pure rfl) rfl ?_
       refine wpl_on rfl rfl ?_
       refine wpl_q (q_lenW Try.underlying23 rfl (by first | assumption | exact SV.nil | exact SV.slv (by assumption) (by omega) (by omega) | exact arv_sv (by first | decide | (simp only [maxLen]; omega)))) rfl ?_
       refine wpl_on rfl rfl ?_
       refine wpl_q (q_bt (c := false) (q_neI rfl rfl) (by rw [hyl]; rfl)) rfl ?_
       refine wpl_q (q_pure rfl) rfl ?_
       refine wpl_nil ?_
       refine ex_mid ⟨0, trivial⟩ ?_ ?_
       ·
        exact (by repeat (first | exact trivial | refine ⟨rfl, ?_⟩))
       ·
        exact fun w h => h.sub (.keep (sub_left _ _)) .nil
     ·
      rintro ⟨q, _⟩; try dsimp only
      refine wpc_cond_f rfl ?_
      refine wpc_skip ?_
      refine ex_then ?_
      refine wpc_seq ?_
      refine wpc_region ?_
      refine wpl_q (q_pure rfl) rfl ?_
      refine wpl_q (q_idxW (j := 1) Try.underlying23 Try.ti25 rfl rfl (by first | assumption | exact SV.nil | exact SV.slv (by assumption) (by omega) (by omega) | exact arv_sv (by first | decide | (simp only [maxLen]; omega))) (by first | omega | (simp only [maxLen]; omega) | (simp only [List.length_append, List.length_cons, List.length_nil, List.length_take, maxLen]; omega) | (simp only [List.length_append, List.length_cons, List.length_nil, List.length_take]; omega))) rfl ?_
      refine wpl_q (q_ldWN Try.underlying25 rfl Try.ti25 rfl (fun w h => h.seenV) (yl.getD 1 HT.z).c (cat_part HT.c_length HT.z (show 1 < yl.length by omega)) (HT.c_length _)) rfl ?_
      refine wpl_q (q_pure rfl) rfl ?_
      refine wpl_q (q_pure rfl) rfl ?_
      refine wpl_q (q_lenS Try.underlying9 rfl) rfl ?_
      refine wpl_t (t_pur (v := .tuple #[str cs, .int .i64 ((0 : Nat) : Int)]) Try.hb16 rfl fun w h => by
        have q := octReadStr (yl.getD 1 HT.z) o ((cs.length : Nat) : Int) w (Mem.hseenM h fun e he => List.mem_cons_of_mem _ (mem_entsL (getD_memH (show 1 < yl.length by omega)) he))
        rw [hy1, rdStr_str, if_neg (by rintro (h | h); · exact h rfl
                                       · omega)] at q
        exact q) rfl (fun b144 => ?_)
      refine wpl_q (q_pure rfl) rfl ?_
      refine wpl_q (q_pure rfl) rfl ?_
      refine wpl_q (q_pure rfl) rfl ?_
      refine wpl_q (q_pure rfl) rfl ?_
      refine wpl_q (q_pure rfl) rfl ?_
      refine wpl_nil ?_
      refine ex_then ?_
      refine wpc_seq ?_
      refine wpc_region ?_
      refine wpl_q (q_pure rfl) rfl ?_
      refine wpl_q (q_pure rfl) rfl ?_
      refine wpl_on rfl rfl ?_
      refine wpl_q (q_pure rfl) rfl ?_
      refine wpl_on rfl rfl ?_
      refine wpl_q (q_tru (q_eqI rfl rfl) rfl) rfl ?_
      refine wpl_q (q_pure rfl) rfl ?_
      refine wpl_q (q_pure rfl) rfl ?_
      refine wpl_on rfl rfl ?_
      refine wpl_q (q_pure rfl) rfl ?_
      refine wpl_on rfl rfl ?_
      refine wpl_q (q_pure rfl) rfl ?_
      refine wpl_on rfl rfl ?_
      refine wpl_q (q_tru (q_strEq Try.underlying9 rfl rfl (by kernel_rfl)) rfl) rfl ?_
      refine wpl_q (q_pure rfl) rfl ?_
      refine wpl_q (q_pure rfl) rfl ?_
      refine wpl_nil ?_
      refine ex_then ?_
      refine wpc_ret ?_
      refine ret1 (.inl rfl) rfl rfl ?_
      exact fun w h => ⟨rfl, h.below⟩

end Go.Proofs.Ytommkigkkeailaa
