/- The law ClockReads over numbers alone: what CheckClock, Read and Sure compute is what the reference computes, for every clock and all numbers. -/
import Derived.Test.YtoefmoniafhgfaaFClockReads
namespace Go.Proofs.Ytoefmoniafhgfaa.PClockReads
open Go.RowKit Go.Proofs.Ytoefmoniafhgfaa.Clk Go.Proofs.YtoefmoniafhgfaaW.PrintWords

theorem rchk_eq (s d : Int) : gatepathref04_CheckClock.f s d = some (chk s d) := chk_eq s d
theorem rtim_eq (t : Int) : gatepathref04_Time.f t = some (timB t) := tim_eq t

theorem rshown_eq {s d t : Int} (hv : Valid s d) (h0 : 0 ≤ t) (h1 : t ≤ 1099511627777) : gatepathref04_shown.f s d t = some (S s d t) := by
  have hb := S_bd hv h0 h1
  obtain ⟨a1, a2, a3, a4⟩ := hv
  have e : t + s + t * d / 1000000 = S s d t := rfl
  unfold gatepathref04_shown.f
  have hq := tdiv_bd (a := t * d) (b := 1000000) (by omega)
  rw [w64 (n := t * d) (by omega) (by omega), w64 (n := (t * d).tdiv 1000000) (by omega) (by omega), w64 (n := t + s) (by omega) (by omega), w64 (n := (t * d).tdiv 1000000 * 1000000) (by omega) (by omega)]
  have he : (t * d).tdiv 1000000 = t * d / 1000000 ∨ (t * d).tdiv 1000000 = t * d / 1000000 + 1 := by omega
  have hc : (t * d).tdiv 1000000 * 1000000 > t * d ↔ (t * d).tdiv 1000000 = t * d / 1000000 + 1 := by
    constructor
    · intro h; omega
    · intro h
      have := floor_eq (a := t * d) (b := 1000000) (by omega)
      rw [Int.tmod_def] at this
      by_cases hm : t * d - 1000000 * (t * d).tdiv 1000000 < 0
      · omega
      · rw [if_neg hm] at this; omega
  by_cases h : (t * d).tdiv 1000000 * 1000000 > t * d
  · have h2 := hc.1 h
    rw [if_pos h, h2, w64 (n := t * d / 1000000 + 1 - 1) (by omega) (by omega), w64 (by omega) (by omega)]
    rw [← e]; congr 1; omega
  · have h2 : (t * d).tdiv 1000000 = t * d / 1000000 := he.resolve_right (fun x => h (hc.2 x))
    rw [if_neg h, h2, w64 (by omega) (by omega), e]

theorem rread_eq (s d t : Int) : gatepathref04_Read.f s d t = some (readV s d t) := by
  unfold gatepathref04_Read.f readV
  rw [rchk_eq]; simp only [Option.bind_some, chk]
  cases hv : valB s d
  · rfl
  · simp only [if_true]
    rw [rtim_eq]; simp only [Option.bind_some]
    cases ht : timB t
    · simp
    · have ht' := timB_iff.1 ht
      simp only [if_true]
      rw [rshown_eq (valB_iff.1 hv) ht'.1 (by omega)]; rfl

/-- The search finds the first time at which at least n is shown, or the number behind the last time. -/
theorem first_l0 {s d n : Int} (hv : Valid s d) (m : Nat) : ∀ (k : Nat) (lo hi : Int), 0 ≤ lo → lo ≤ hi → hi ≤ 1099511627777 → hi - lo ≤ m → m < k →
    lo ≤ max 0 (min 1099511627777 (Bg s d n)) → max 0 (min 1099511627777 (Bg s d n)) ≤ hi →
    gatepathref04_first.l0 k n lo hi s d = some (max 0 (min 1099511627777 (Bg s d n))) := by
  induction m with
  | zero =>
    intro k lo hi h0 h1 h2 h3 hk h4 h5
    obtain ⟨k, rfl⟩ : ∃ j, k = j + 1 := ⟨k - 1, by omega⟩
    simp only [gatepathref04_first.l0]
    rw [if_neg (by omega)]; congr 1; omega
  | succ m ih =>
    intro k lo hi h0 h1 h2 h3 hk h4 h5
    obtain ⟨k, rfl⟩ : ∃ j, k = j + 1 := ⟨k - 1, by omega⟩
    simp only [gatepathref04_first.l0]
    by_cases hlt : lo < hi
    · rw [if_pos hlt, w64 (n := lo + hi) (by omega) (by omega)]
      have et : (lo + hi).tdiv 2 = (lo + hi) / 2 := Int.tdiv_eq_ediv_of_nonneg (by omega)
      rw [et, w64 (n := (lo + hi) / 2) (by omega) (by omega), rshown_eq hv (by omega) (by omega)]
      simp only [Option.bind_some]
      have hg := ge_iff (n := n) (t := (lo + hi) / 2) hv
      by_cases hge : S s d ((lo + hi) / 2) ≥ n
      · rw [if_pos hge]
        have := hg.1 hge
        exact ih k _ _ (by omega) (by omega) (by omega) (by omega) (by omega) (by omega) (by omega)
      · rw [if_neg hge, w64 (by omega) (by omega)]
        have : ¬ Bg s d n ≤ (lo + hi) / 2 := fun h => hge (hg.2 h)
        exact ih k _ _ (by omega) (by omega) (by omega) (by omega) (by omega) (by omega) (by omega)
    · rw [if_neg hlt]; congr 1; omega

theorem first_eq {s d n : Int} (hv : Valid s d) (k : Nat) (hk : 1099511627777 < k) : gatepathref04_first.f k s d n = some (max 0 (min 1099511627777 (Bg s d n))) :=
  first_l0 hv 1099511627777 k 0 1099511627777 (by omega) (by omega) (by omega) (by omega) hk (by omega) (by omega)

theorem sure_l0 {s d n : Int} (hv : Valid s d) (fr : Int) (m : Nat) : ∀ (k : Nat) (u : Int), 0 ≤ u → u ≤ 1099511627776 → Bg s d n ≤ u → u < Bg s d (n + 1) → 1099511627776 - u ≤ m → m < k →
    gatepathref04_Sure.l0 k n fr u s d = some (fr, min 1099511627776 (Bg s d (n + 1) - 1), 0) := by
  induction m with
  | zero =>
    intro k u h0 h1 h2 h3 h4 hk
    obtain ⟨k, rfl⟩ : ∃ j, k = j + 1 := ⟨k - 1, by omega⟩
    simp only [gatepathref04_Sure.l0]
    rw [if_neg (by omega)]
    have e : min 1099511627776 (Bg s d (n + 1) - 1) = u := by omega
    rw [e]
  | succ m ih =>
    intro k u h0 h1 h2 h3 h4 hk
    obtain ⟨k, rfl⟩ : ∃ j, k = j + 1 := ⟨k - 1, by omega⟩
    simp only [gatepathref04_Sure.l0]
    by_cases hlt : u < 1099511627776
    · rw [if_pos hlt, w64 (n := u + 1) (by omega) (by omega), rshown_eq hv (by omega) (by omega)]
      simp only [Option.bind_some]
      have hg := ge_iff (n := n) (t := u + 1) hv
      have hg1 := ge_iff (n := n + 1) (t := u + 1) hv
      by_cases he : S s d (u + 1) = n
      · rw [if_pos he]
        have : ¬ Bg s d (n + 1) ≤ u + 1 := fun h => by have := hg1.2 h; omega
        exact ih k _ (by omega) (by omega) (by omega) (by omega) (by omega) (by omega)
      · rw [if_neg he]
        have h7 := hg.2 (by omega)
        have h8 := hg1.1 (by omega)
        have e : min 1099511627776 (Bg s d (n + 1) - 1) = u := by omega
        rw [e]
    · rw [if_neg hlt]
      have e : min 1099511627776 (Bg s d (n + 1) - 1) = u := by omega
      rw [e]

theorem rsure_eq (s d n : Int) (k : Nat) (hk : 1099511627778 < k) : gatepathref04_Sure.f k s d n = some (sureV s d n) := by
  obtain ⟨k, rfl⟩ : ∃ j, k = j + 1 := ⟨k - 1, by omega⟩
  unfold gatepathref04_Sure.f sureV
  rw [rchk_eq]; simp only [Option.bind_some, chk]
  cases hv : valB s d
  · rfl
  · simp only [if_true]
    have hv' := valB_iff.1 hv
    rw [first_eq hv' _ (by omega)]; simp only [Option.bind_some]
    have g0 := ge_iff (n := n) (t := 0) hv'
    have g0' := ge_iff (n := n + 1) (t := 0) hv'
    have gl := ge_iff (n := n) (t := 1099511627776) hv'
    have gl' := ge_iff (n := n + 1) (t := 1099511627776) hv'
    have b0 := S_bd (t := 0) hv' (by omega) (by omega)
    have bl := S_bd (t := 1099511627776) hv' (by omega) (by omega)
    generalize hf : max 0 (min 1099511627777 (Bg s d n)) = f
    have f0 : 0 ≤ f := by omega
    have f1 : f ≤ 1099511627777 := by omega
    have gf := ge_iff (n := n) (t := f) hv'
    have gf' := ge_iff (n := n + 1) (t := f) hv'
    unfold sure
    by_cases h1 : n < -4398046511104 ∨ 4398046511104 < n
    · rw [if_pos h1]
      rcases h1 with h1 | h1
      · have : Bg s d (n + 1) ≤ 0 := g0'.1 (by omega)
        have : Bg s d n ≤ 0 := g0.1 (by omega)
        have ef : f = 0 := by omega
        subst ef
        rw [if_neg (by omega), rshown_eq hv' (by omega) (by omega)]; simp only [Option.bind_some]
        have : (S s d 0 != n) = true := by simp; omega
        rw [this]
        simp [gatepathref04_Sure.j0]
      · have : ¬ Bg s d n ≤ 1099511627776 := fun h => by have := gl.2 h; omega
        have ef : f = 1099511627777 := by omega
        rw [if_pos (by omega)]
        simp [gatepathref04_Sure.j0]
    · rw [if_neg h1]
      have b1 := Bg_bd hv' (n := n) (by omega) (by omega)
      have b2 := Bg_bd hv' (n := n + 1) (by omega) (by omega)
      by_cases hfl : f > 1099511627776
      · rw [if_pos hfl]
        simp only [gatepathref04_Sure.j0, if_true]
        rw [if_pos (by omega)]
      · rw [if_neg hfl, rshown_eq hv' (by omega) (by omega)]; simp only [Option.bind_some]
        simp only [gatepathref04_Sure.j0]
        by_cases he : S s d f = n
        · have hb : (S s d f != n) = false := by simp [he]
          rw [hb]
          simp only [Bool.false_eq_true, if_false]
          have h5 : ¬ Bg s d (n + 1) ≤ f := fun h => by have := gf'.2 h; omega
          have h6 : Bg s d n ≤ f := gf.1 (by omega)
          have ef : max 0 (Bg s d n) = f := by omega
          rw [sure_l0 hv' f 1099511627777 k f (by omega) (by omega) (by omega) (by omega) (by omega) (by omega), ef, if_neg (by omega)]
        · have hb : (S s d f != n) = true := by simp [he]
          rw [hb]
          simp only [if_true]
          have h7 : Bg s d n ≤ f := by omega
          have h8 := gf.2 h7
          have h9 := gf'.1 (by omega)
          rw [if_pos (by omega)]

theorem Law (s d t n : Int) : ∃ k, gatepathlaw04_ClockReads.f k s d t n = some true := by
  refine ⟨1099511627779 + 1, ?_⟩
  unfold gatepathlaw04_ClockReads.f
  rw [read_eq, rread_eq, sure_eq, rsure_eq _ _ _ _ (by omega), chk_eq, rchk_eq]
  simp
end Go.Proofs.Ytoefmoniafhgfaa.PClockReads
namespace Go.Proofs.Ytoefmoniafhgfaa.PClockReads
theorem walkLaw (s d : Int) (_ : (Lit.int .i64 s).wf = true) (_ : (Lit.int .i64 d).wf = true) (t : Int) (_ : (Lit.int .i64 t).wf = true) (n : Int) (_ : (Lit.int .i64 n).wf = true) (w : World) :
    Calls Try.prog 3 #[.agg #[.int .i64 s, .int .i64 d], .int .i64 t, .int .i64 n] w fun e w' => e = .returned (.bool true) ∧ RowKit.Below w.heap.size w w' := by
  obtain ⟨k, hk⟩ := Law s d t n
  exact gatepathlaw04_ClockReads.calls k s d t n true w hk
end Go.Proofs.Ytoefmoniafhgfaa.PClockReads
