/- The law ClockNext over numbers and lists alone: the next event is one of the events, behind the time, and no event lies between. -/
import Derived.Test.YtoefmoniafhgfaaPClockNextx5
import Derived.Test.YtoefmoniafhgfaaFClockNext
namespace Go.Proofs.Ytoefmoniafhgfaa.Pure
open Go.RowKit Go.Proofs.Ytoefmoniafhgfaa.PClockNext Go.Proofs.YtoefmoniafhgfaaW.PrintWords Go.Proofs.YtoefmoniafhgfaaW.PrintLast
open Go.Proofs.Ytoefmoniafhgfaa.Clk (w64)

theorem alive_eq (k : Nat) : gatepathlaw04_alive.f (k + 1) = some true := by
  unfold gatepathlaw04_alive.f
  rw [read_eq, read_eq, read_eq, sure_eq]
  decide +kernel

/-- What is known of the least element behind t of the first elements. -/
def Good (t : Int) (l : List Int) (n : Int) (b : Bool) : Prop :=
  (b = true → n ∈ l ∧ n > t ∧ ∀ x ∈ l, x > t → n ≤ x) ∧ (b = false → n = 0 ∧ ∀ x ∈ l, ¬ x > t)

theorem take_succ' (l : List Int) (i : Nat) (h : i < l.length) : l.take (i + 1) = l.take i ++ [rd l i] := by
  rw [List.take_succ_eq_append_getElem h]
  congr 1
  simp [rd, h]

theorem least_l0 (t : Int) (l : List Int) (hl : l.length ≤ 1200) (m : Nat) : ∀ (k : Nat) (n : Int) (b : Bool) (i : Nat), i ≤ l.length → l.length - i ≤ m → m < k → Good t (l.take i) n b →
    ∃ r c, clock_least.l0 k t n b l l.length i = some (r, c) ∧ Good t l r c := by
  induction m with
  | zero =>
    intro k n b i h0 h1 hk hg
    obtain ⟨k, rfl⟩ : ∃ j, k = j + 1 := ⟨k - 1, by omega⟩
    refine ⟨n, b, ?_, ?_⟩
    · simp only [clock_least.l0]; rw [if_neg (by omega)]
    · rw [List.take_of_length_le (by omega)] at hg; exact hg
  | succ m ih =>
    intro k n b i h0 h1 hk hg
    obtain ⟨k, rfl⟩ : ∃ j, k = j + 1 := ⟨k - 1, by omega⟩
    by_cases hlt : i < l.length
    · have ei : wrap64 ((i : Int) + 1) = ((i + 1 : Nat) : Int) := by rw [w64 (by omega) (by omega)]; omega
      have htk := take_succ' l i hlt
      simp only [clock_least.l0]
      rw [if_pos (by omega), if_pos (by omega), if_pos (by omega), ei]
      generalize rd l (i : Int) = x at *
      by_cases hx : x > t
      · rw [if_pos hx]
        cases b with
        | false =>
          simp only [Bool.false_eq_true, if_false]
          refine ih k _ _ (i + 1) (by omega) (by omega) (by omega) ?_
          rw [htk]
          refine ⟨fun _ => ⟨by simp, hx, fun y hy hy2 => ?_⟩, by simp⟩
          rcases List.mem_append.1 hy with hy | hy
          · exact absurd hy2 ((hg.2 rfl).2 y hy)
          · simp at hy; omega
        | true =>
          simp only [if_true]
          obtain ⟨g1, g2, g3⟩ := hg.1 rfl
          by_cases hxn : x < n
          · rw [if_pos hxn]
            refine ih k _ _ (i + 1) (by omega) (by omega) (by omega) ?_
            rw [htk]
            refine ⟨fun _ => ⟨by simp, hx, fun y hy hy2 => ?_⟩, by simp⟩
            rcases List.mem_append.1 hy with hy | hy
            · have := g3 y hy hy2; omega
            · simp at hy; omega
          · rw [if_neg hxn]
            refine ih k _ _ (i + 1) (by omega) (by omega) (by omega) ?_
            rw [htk]
            refine ⟨fun _ => ⟨List.mem_append_left _ g1, g2, fun y hy hy2 => ?_⟩, by simp⟩
            rcases List.mem_append.1 hy with hy | hy
            · exact g3 y hy hy2
            · simp at hy; omega
      · rw [if_neg hx]
        refine ih k _ _ (i + 1) (by omega) (by omega) (by omega) ?_
        rw [htk]
        refine ⟨fun h => ?_, fun h => ?_⟩
        · obtain ⟨g1, g2, g3⟩ := hg.1 h
          refine ⟨List.mem_append_left _ g1, g2, fun y hy hy2 => ?_⟩
          rcases List.mem_append.1 hy with hy | hy
          · exact g3 y hy hy2
          · simp at hy; subst hy; exact absurd hy2 hx
        · refine ⟨(hg.2 h).1, fun y hy hy2 => ?_⟩
          rcases List.mem_append.1 hy with hy | hy
          · exact (hg.2 h).2 y hy hy2
          · simp at hy; subst hy; exact absurd hy2 hx
    · refine ⟨n, b, ?_, ?_⟩
      · simp only [clock_least.l0]; rw [if_neg (by omega)]
      · rw [List.take_of_length_le (by omega)] at hg; exact hg

theorem next_eq (t : Int) (l : List Int) (hl : l.length ≤ 1000) (k : Nat) (hk : 1000 < k) : ∃ r c, clock_Next.f k l t = some (if c = true then (r, 0) else (0, 6)) ∧ Good t l r c := by
  obtain ⟨r, c, h, hg⟩ := least_l0 t l (by omega) l.length k 0 false 0 (by omega) (by omega) (by omega) ⟨by simp, by simp⟩
  refine ⟨r, c, ?_, hg⟩
  unfold clock_Next.f clock_least.f
  rw [if_neg (by omega)]
  have h' : clock_least.l0 k t 0 false l (l.length : Int) 0 = some (r, c) := h
  rw [h']; simp only [Option.bind_some]
  cases c <;> simp

theorem law_step (k : Nat) (l : List Int) (t n e : Int) (f g : Bool) (i : Nat) (hl : l.length ≤ 1200) (hi : i < l.length) (hno : ¬ (e = 0 ∧ rd l i > t ∧ rd l i < n)) :
    gatepathlaw04_ClockNext.l0 (k + 1) l t true n e f g i = gatepathlaw04_ClockNext.l0 k l t true n e (f || (rd l i == n)) (g || decide (rd l i > t)) ((i + 1 : Nat) : Int) := by
  have ei : wrap64 ((i : Int) + 1) = ((i + 1 : Nat) : Int) := by rw [w64 (by omega) (by omega)]; omega
  have h0 : (0 : Int) ≤ i := by omega
  have h1 : (i : Int) < l.length := by omega
  simp only [gatepathlaw04_ClockNext.l0, if_pos h1, if_pos h0, ei]
  generalize rd l (i : Int) = x at *
  by_cases he : e = 0
  · by_cases hx : x > t
    · have hn : ¬ x < n := fun h => hno ⟨he, hx, h⟩
      cases f <;> cases g <;> simp [he, hx, hn]
    · cases f <;> cases g <;> simp [he, hx]
  · cases f <;> cases g <;> simp [he]

theorem law_l0 (l : List Int) (t n e : Int) (hl : l.length ≤ 1200) (hno : ∀ x ∈ l, ¬ (e = 0 ∧ x > t ∧ x < n)) (m : Nat) : ∀ (k : Nat) (i : Nat), i ≤ l.length → l.length - i ≤ m → m < k →
    (e = 0 → n ∈ l ∧ n > t) → (e ≠ 0 → e = 6 ∧ n = 0 ∧ ∀ x ∈ l, ¬ x > t) →
    gatepathlaw04_ClockNext.l0 k l t true n e ((l.take i).any (· == n)) ((l.take i).any (fun x => decide (x > t))) i = some true := by
  induction m with
  | zero =>
    intro k i h0 h1 hk h5 h6
    obtain ⟨k, rfl⟩ : ∃ j, k = j + 1 := ⟨k - 1, by omega⟩
    have ht : l.take i = l := List.take_of_length_le (by omega)
    simp only [gatepathlaw04_ClockNext.l0, ht]
    rw [if_neg (by omega)]
    by_cases he : e = 0
    · have hf : l.any (· == n) = true := List.any_eq_true.2 ⟨n, (h5 he).1, by simp⟩
      rw [if_pos he, hf]; simp [(h5 he).2]
    · have hg : l.any (fun x => decide (x > t)) = false := by
        rw [List.any_eq_false]; intro x hx; simpa using (h6 he).2.2 x hx
      rw [if_neg he, hg]; simp [(h6 he).1, (h6 he).2.1]
  | succ m ih =>
    intro k i h0 h1 hk h5 h6
    by_cases hlt : i < l.length
    · obtain ⟨k, rfl⟩ : ∃ j, k = j + 1 := ⟨k - 1, by omega⟩
      have hm : rd l (i : Int) ∈ l := by simp [rd, hlt]
      rw [law_step k l t n e _ _ i hl hlt (hno _ hm)]
      have := ih k (i + 1) (by omega) (by omega) (by omega) h5 h6
      rw [take_succ' l i hlt, List.any_append, List.any_append] at this
      simpa using this
    · obtain ⟨k, rfl⟩ : ∃ j, k = j + 1 := ⟨k - 1, by omega⟩
      have ht : l.take i = l := List.take_of_length_le (by omega)
      simp only [gatepathlaw04_ClockNext.l0, ht]
      rw [if_neg (by omega)]
      by_cases he : e = 0
      · have hf : l.any (· == n) = true := List.any_eq_true.2 ⟨n, (h5 he).1, by simp⟩
        rw [if_pos he, hf]; simp [(h5 he).2]
      · have hg : l.any (fun x => decide (x > t)) = false := by
          rw [List.any_eq_false]; intro x hx; simpa using (h6 he).2.2 x hx
        rw [if_neg he, hg]; simp [(h6 he).1, (h6 he).2.1]

theorem Law (l : List Int) (t : Int) : ∃ k, gatepathlaw04_ClockNext.f k l t = some true := by
  refine ⟨3001 + 1, ?_⟩
  unfold gatepathlaw04_ClockNext.f
  rw [alive_eq]
  simp only [Option.bind_some]
  by_cases hl : (l.length : Int) > 1200
  · rw [if_pos hl]; simp [gatepathlaw04_ClockNext.j0]
  · rw [if_neg hl]
    simp only [gatepathlaw04_ClockNext.j0, Bool.not_true, Bool.false_eq_true, if_false]
    by_cases hl2 : (l.length : Int) > 1000
    · unfold clock_Next.f
      rw [if_pos hl2]; simp only [Option.bind_some, if_pos hl2]; simp
    · obtain ⟨r, c, h, hg⟩ := next_eq t l (by omega) 3001 (by omega)
      rw [h]; simp only [Option.bind_some, if_neg hl2]
      cases c with
      | true =>
        obtain ⟨g1, g2, g3⟩ := hg.1 rfl
        simp only [if_true]
        exact law_l0 l t r 0 (by omega) (fun x hx h => by have := g3 x hx h.2.1; omega) l.length 3001 0 (by omega) (by omega) (by omega) (fun _ => ⟨g1, g2⟩) (fun h => absurd rfl h)
      | false =>
        obtain ⟨g1, g2⟩ := hg.2 rfl
        simp only [Bool.false_eq_true, if_false]
        exact law_l0 l t 0 6 (by omega) (fun x hx h => by omega) l.length 3001 0 (by omega) (by omega) (by omega) (fun h => by omega) (fun _ => ⟨rfl, rfl, g2⟩)

theorem walkLaw (a0 : Option Addr) (len0 cap0 : Nat) (z0 : List Int) (w0 : World → (Prop : Type)) (a1 : Int) (_ : (Lit.int .i64 a1).wf = true) (w : World)
    (hw0 : w0 w) (hd : w0 w → (a0 = none ∧ len0 = 0 ∧ cap0 = 0 ∧ z0 = []) ∨ ∃ x, a0 = some x ∧ len0 ≤ cap0 ∧ cap0 ≤ maxLen ∧ z0.length = cap0 ∧ (∀ i, i < z0.length → w.cell? (x.add i) = some (.int .i64 (z0.getD i 0))) ∧ ∀ n ∈ z0, (Lit.int .i64 n).wf = true) :
    Calls Try.prog 7 #[.slice a0 len0 cap0, .int .i64 a1] w fun e w' => e = .returned (.bool true) ∧ RowKit.Below w.heap.size w w' := by
  obtain ⟨l0, rfl, hr0, hm0, hw0, hc0⟩ := ReadsInt.ofRowC (hd hw0)
  obtain ⟨k, h⟩ := Law l0 a1
  exact gatepathlaw04_ClockNext.calls k _ _ l0 a1 true w (Kd.C_of_reads (d := (0 : Int)) (h1 := fun _ => rfl) hr0) hc0 h
end Go.Proofs.Ytoefmoniafhgfaa.Pure
