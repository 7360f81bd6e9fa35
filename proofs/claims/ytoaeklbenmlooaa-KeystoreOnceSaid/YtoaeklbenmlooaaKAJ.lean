/- No index of a key is taken twice. -/
import Derived.Test.YtoaeklbenmlooaaKAI
namespace Go.Proofs.Ytoaeklbenmlooaa
set_option linter.unusedSimpArgs false
set_option linter.unusedVariables false
open Go Go.PL Go.RowKit

def nxOf (ks : List KE) (id : UInt32) : Int := if 0 ≤ placeF ks id then (ks.getD (placeF ks id).toNat KE.z).nx else 0
theorem nxOf_at {ks : List KE} {id : UInt32} {j : Nat} (h : placeF ks id = ((j : Nat) : Int)) : nxOf ks id = (ks.getD j KE.z).nx := by
  rw [nxOf, h, if_pos (by omega), Int.toNat_natCast]
theorem nxOf_pos {ks : List KE} (h : ∀ i, i < ks.length → 0 ≤ (ks.getD i KE.z).nx) (id : UInt32) : 0 ≤ nxOf ks id := by
  rcases idxF_spec (isId id) KE.z ks with ⟨e, _⟩ | ⟨j, h1, e, _⟩
  · rw [nxOf, placeF, e, if_neg (by decide)]; exact Int.le_refl _
  · rw [nxOf_at e]; exact h j h1
theorem nxOf_mono {a b : List KE} (hl : a.length ≤ b.length) (hid : ∀ i, i < a.length → (b.getD i KE.z).id = (a.getD i KE.z).id) (hn : ∀ i, i < a.length → (a.getD i KE.z).nx ≤ (b.getD i KE.z).nx) (h0 : ∀ i, i < b.length → 0 ≤ (b.getD i KE.z).nx) (id : UInt32) : nxOf a id ≤ nxOf b id := by
  rcases idxF_spec (isId id) KE.z a with ⟨e, _⟩ | ⟨j, h1, e, h2, h3⟩
  · rw [nxOf, placeF, e, if_neg (by decide)]; exact nxOf_pos h0 id
  · have hb : placeF b id = ((j : Nat) : Int) := idxF_found KE.z (fun k hk => by
      have := h3 k hk
      simp only [isId, decide_eq_false_iff_not] at this ⊢
      rw [hid k (by omega)]; exact this) (by omega) (by
      simp only [isId, decide_eq_true_eq] at h2 ⊢
      rw [hid j h1]; exact h2)
    rw [nxOf_at e, nxOf_at hb]; exact hn j h1
theorem nxOf_le2 {a d : List KE} (hl : d.length ≤ a.length) (hid : ∀ i, i < d.length → (d.getD i KE.z).id = (a.getD i KE.z).id) (hn : ∀ i, i < d.length → (a.getD i KE.z).nx ≤ (d.getD i KE.z).nx) (hz : ∀ i, i < a.length → d.length ≤ i → (a.getD i KE.z).nx ≤ 0) (h0 : ∀ i, i < d.length → 0 ≤ (d.getD i KE.z).nx) (id : UInt32) : nxOf a id ≤ nxOf d id := by
  rcases idxF_spec (isId id) KE.z a with ⟨e, _⟩ | ⟨j, h1, e, h2, h3⟩
  · rw [nxOf, placeF, e, if_neg (by decide)]; exact nxOf_pos h0 id
  · rw [nxOf_at e]
    by_cases hj : j < d.length
    · have hb : placeF d id = ((j : Nat) : Int) := idxF_found KE.z (fun k hk => by
        have := h3 k hk
        simp only [isId, decide_eq_false_iff_not] at this ⊢
        rw [hid k (by omega)]; exact this) hj (by
        simp only [isId, decide_eq_true_eq] at h2 ⊢
        rw [hid j hj]; exact h2)
      rw [nxOf_at hb]; exact hn j hj
    · have := hz j h1 (by omega)
      have := nxOf_pos h0 id
      omega
def fut (s : St) (id : UInt32) : Int := nxOf (if s.up = true then s.ks else (scanR s.dk).1) id
theorem fut_up {s : St} (h : s.up = true) (id : UInt32) : fut s id = nxOf s.ks id := by rw [fut, if_pos h]
theorem fut_down {s : St} (h : s.up = false) (id : UInt32) : fut s id = nxOf (scanR s.dk).1 id := by rw [fut, if_neg (by rw [h]; decide)]
theorem nx_pos {s : St} (hU : ChkU s) {i : Nat} (hi : i < s.ks.length) : 0 ≤ (s.ks.getD i KE.z).nx := (okK_iff.1 (hU.2.2.2 i hi)).2.2.2.2.2.1
theorem nx_scan (bs : List UInt8) : ∀ i, i < (scanR bs).1.length → 0 ≤ ((scanR bs).1.getD i KE.z).nx := fun i hi => by
  obtain ⟨g1, _, _, _, g5, _⟩ := (scanR_good bs).get hi
  rw [g1]; exact g5
theorem fut_set {s s' : St} {j : Nat} {k : KE} (hU : ChkU s) (hup : s.up = true) (e : s'.ks = s.ks.set j k) (hup' : s'.up = true) (h1 : k.id = (s.ks.getD j KE.z).id) (h2 : (s.ks.getD j KE.z).nx ≤ k.nx) (h3 : 0 ≤ k.nx) (id : UInt32) : fut s id ≤ fut s' id := by
  rw [fut_up hup, fut_up hup', e]
  refine nxOf_mono (by rw [List.length_set]; exact Nat.le_refl _) (fun i hi => ?_) (fun i hi => ?_) (fun i hi => ?_) id
  · rw [getD_set hi]; split
    · rename_i e; subst e; exact h1
    · rfl
  · rw [getD_set hi]; split
    · rename_i e; subst e; exact h2
    · exact Int.le_refl _
  · rw [List.length_set] at hi
    rw [getD_set hi]; split
    · exact h3
    · exact nx_pos hU hi
theorem fut_mono {s : St} {x : Stp} (id : UInt32) : fut s id ≤ fut (stepF s x).2.1 id := by
  unfold stepF
  split
  · exact Int.le_refl _
  · rename_i h
    have h := Decidable.not_not.1 h
    show fut s id ≤ fut (doF s x).2.1 id
    unfold doF at *
    split
    · rename_i h1; rw [if_pos h1] at h
      obtain ⟨hu, _, _, _, _, _, e⟩ := createF_ok h
      obtain ⟨hc, hup⟩ := upF_ok hu
      have hU := hc.2.2.2.2 hup
      rw [e, fut_up hup, fut_up (by exact hup)]
      refine nxOf_mono (by simp) (fun i hi => by rw [getD_snoc hi]) (fun i hi => by rw [getD_snoc hi]; exact Int.le_refl _) (fun i hi => ?_) id
      rw [List.length_append, List.length_singleton] at hi
      by_cases hl : i < s.ks.length
      · rw [getD_snoc hl]; exact nx_pos hU hl
      · obtain rfl : i = s.ks.length := by omega
        rw [getD_snocL]; exact Int.le_refl _
    · rename_i h1; rw [if_neg h1] at h; split
      · rename_i h1; rw [if_pos h1] at h
        obtain ⟨h1, _, _, e⟩ := reserveF_ok h
        obtain ⟨j, hu, hc, hup, hU, hj, hp, _⟩ := key_at h1
        rw [kAt_j hp, hp, Int.toNat_natCast] at e
        exact fut_set (s' := (reserveF s x.id).1) (k := { s.ks.getD j KE.z with ak := ((newA s (s.ks.getD j KE.z) : Nat) : Int) }) hU hup (by rw [e]) (by rw [e]; exact hup) rfl (Int.le_refl _) (nx_pos hU hj) id
      · rename_i h1; rw [if_neg h1] at h; split
        · rename_i h1; rw [if_pos h1] at h
          obtain ⟨h1, _, e⟩ := dropF_ok h
          obtain ⟨j, hu, hc, hup, hU, hj, hp, _⟩ := key_at h1
          rw [kAt_j hp, hp, Int.toNat_natCast] at e
          exact fut_set (s' := (dropF s x.id).1) (k := { s.ks.getD j KE.z with dr := true }) hU hup (by rw [e]) (by rw [e]; exact hup) rfl (Int.le_refl _) (nx_pos hU hj) id
        · rename_i h1; rw [if_neg h1] at h; split
          · rename_i h1; rw [if_pos h1] at h
            obtain ⟨hu, e⟩ := syncF_ok h
            obtain ⟨hc, hup⟩ := upF_ok hu
            have hU := hc.2.2.2.2 hup
            show fut s id ≤ fut (syncF s).1 id
            rw [e, fut_up hup, fut_up (by exact hup)]
            refine nxOf_mono (by rw [durT_len]; exact Nat.le_refl _) (fun i hi => by rw [durT_at hi]; rfl) (fun i hi => by rw [durT_at hi]; exact Int.le_refl _) (fun i hi => ?_) id
            rw [durT_len] at hi
            rw [durT_at hi]; exact nx_pos hU hi
          · rename_i h1; rw [if_neg h1] at h; split
            · rename_i h1; rw [if_pos h1] at h
              obtain ⟨hu, _, _, e⟩ := crashF_ok h
              obtain ⟨hc, hup⟩ := upF_ok hu
              have hU := hc.2.2.2.2 hup
              show fut s id ≤ fut (crashF s x.n).1 id
              rw [e, fut_up hup, fut_down rfl]
              have hE := scanR_ext s.pd hU.1
              have h1 : nxOf s.ks id ≤ nxOf (scanR s.dk).1 id := by
                refine nxOf_le2 (chk_dl hU) (fun i hi => ?_) (fun i hi => ?_) (fun i hi hd => ?_) (nx_scan _) id
                · have hl := Nat.lt_of_lt_of_le hi (chk_dl hU)
                  rw [← (hE.2 i hi).1, (okK_iff.1 (hU.2.2.2 i hl)).1]
                · have hl := Nat.lt_of_lt_of_le hi (chk_dl hU)
                  have h7 := (okK_iff.1 (hU.2.2.2 i hl)).2.2.2.2.2.2
                  rw [durF, if_pos hi] at h7
                  rw [((scanR_good s.dk).get hi).1]; exact h7
                · have h7 := (okK_iff.1 (hU.2.2.2 i hi)).2.2.2.2.2.2
                  rw [durF, if_neg (by omega)] at h7; exact h7
              refine Int.le_trans h1 ?_
              have hT := scanR_ext (s.pd.take x.n.toNat) hU.1
              refine nxOf_mono hT.1 (fun i hi => (hT.2 i hi).1) (fun i hi => ?_) (nx_scan _) id
              rw [((scanR_good s.dk).get hi).1, ((scanR_good (s.dk ++ s.pd.take x.n.toNat)).get (Nat.lt_of_lt_of_le hi hT.1)).1]
              exact (hT.2 i hi).2.2.1
            · rename_i h1; rw [if_neg h1] at h; split
              · rename_i h1; rw [if_pos h1] at h
                obtain ⟨hu, e⟩ := openF_ok h
                show fut s id ≤ fut (openF s).1 id
                rw [e, fut_down (upF_ok hu).2, fut_up rfl]
                exact Int.le_refl _
              · rename_i h1; rw [if_neg h1] at h; split
                · rename_i h1; rw [if_pos h1] at h
                  obtain ⟨h1, _, _, e⟩ := takeF_ok h
                  obtain ⟨j, hu, hc, hup, hU, hj, hp, _⟩ := key_at h1
                  rw [kAt_j hp, putK_j hp] at e
                  have := nx_pos hU hj
                  exact fut_set (s' := (takeF s x.id).2.1) (j := j) (k := { s.ks.getD j KE.z with nx := (((s.ks.getD j KE.z).nx.toNat + 1 : Nat) : Int) }) hU hup (by rw [e]) (by rw [e]; exact hup) rfl (by dsimp only; omega) (Int.natCast_nonneg _) id
                · rename_i h1; rw [if_neg h1] at h; exact absurd h (by decide)
theorem fut_take {s : St} {x : Stp} (hk : x.kd = 7) (h : (stepF s x).2.2 = 0) : (stepF s x).1 = fut s x.id ∧ fut (stepF s x).2.1 x.id = fut s x.id + 1 := by
  have hd := do_7 (s := s) hk
  by_cases he : (takeF s x.id).2.2 = 0
  · obtain ⟨e1, e2, e3⟩ := (by rw [sp_ok hd he]; exact ⟨rfl, rfl, rfl⟩ : (stepF s x).1 = (takeF s x.id).1 ∧ (stepF s x).2.1 = (takeF s x.id).2.1 ∧ (stepF s x).2.2 = 0)
    rw [e1, e2]
    obtain ⟨h1, _, t1, t2⟩ := takeF_ok he
    obtain ⟨j, hu, hc, hup, hU, hj, hp, _⟩ := key_at h1
    rw [kAt_j hp] at t1 t2
    rw [putK_j hp] at t2
    have hn := nx_pos hU hj
    have hi : ids (s.ks.set j { s.ks.getD j KE.z with nx := (((s.ks.getD j KE.z).nx.toNat + 1 : Nat) : Int) }) = ids s.ks := ids_set rfl
    refine ⟨by rw [t1, fut_up hup, nxOf_at hp], ?_⟩
    rw [t2, fut_up hup, fut_up (by exact hup), nxOf_at hp]
    show nxOf (s.ks.set j _) x.id = _
    rw [nxOf_at (j := j) (by rw [place_ids _ hi]; exact hp), getD_set hj, if_pos rfl]
    dsimp only; omega
  · rw [sp_bad hd he] at h; exact absurd h he
theorem idx_zero {s : St} {x : Stp} (h : ¬ (x.kd = 7 ∧ (stepF s x).2.2 = 0)) : (stepF s x).1 = 0 := by
  unfold stepF at *
  split
  · rfl
  · rename_i h1
    rw [if_neg h1] at h
    have hk : ¬ x.kd = 7 := fun hk => h ⟨hk, rfl⟩
    show (doF s x).1 = 0
    unfold doF
    repeat (first | rw [if_neg hk] | (split; rfl))
    rfl
theorem getD_cons {α : Type} (a z : α) (l : List α) (i : Nat) : (a :: l).getD (i + 1) z = l.getD i z := by simp
theorem run_zero : ∀ (l : List Stp) (s : St) (i : Nat), i < l.length → ¬ ((l.getD i Stp.z).kd = 7 ∧ ((runF l s).1.getD i (0, 0)).2 = 0) → ((runF l s).1.getD i (0, 0)).1 = 0
  | x :: l, s, 0, _, h => idx_zero (s := s) (x := x) h
  | x :: l, s, i + 1, hi, h => run_zero l (stepF s x).2.1 i (by simpa using hi) (by simpa [runF] using h)
theorem run_low : ∀ (l : List Stp) (s : St) (i : Nat), i < l.length → (l.getD i Stp.z).kd = 7 → ((runF l s).1.getD i (0, 0)).2 = 0 → fut s (l.getD i Stp.z).id ≤ ((runF l s).1.getD i (0, 0)).1
  | x :: l, s, 0, _, h, h2 => by rw [show ((runF (x :: l) s).1.getD 0 (0, 0)).1 = (stepF s x).1 from rfl, (fut_take (s := s) (x := x) h h2).1]; exact Int.le_refl _
  | x :: l, s, i + 1, hi, h, h2 => by
    have h3 := run_low l (stepF s x).2.1 i (by simpa using hi) (by simpa using h) (by simpa [runF] using h2)
    have h4 := fut_mono (s := s) (x := x) (l.getD i Stp.z).id
    rw [getD_cons]
    show fut s _ ≤ (((runF l (stepF s x).2.1).1.getD i (0, 0))).1
    exact Int.le_trans h4 h3
theorem once : ∀ (l : List Stp) (s : St) (k i : Nat), k < i → i < l.length → (l.getD k Stp.z).kd = 7 → (l.getD i Stp.z).kd = 7 → (l.getD k Stp.z).id = (l.getD i Stp.z).id → ((runF l s).1.getD k (0, 0)).2 = 0 → ((runF l s).1.getD i (0, 0)).2 = 0 →
    ((runF l s).1.getD k (0, 0)).1 < ((runF l s).1.getD i (0, 0)).1
  | [], s, k, i, h, hi, _, _, _, _, _ => absurd hi (by simp)
  | x :: l, s, k, 0, h, _, _, _, _, _, _ => absurd h (Nat.not_lt_zero _)
  | x :: l, s, 0, i + 1, _, hi, h1, h2, h3, h4, h5 => by
    obtain ⟨f1, f2⟩ := fut_take (s := s) (x := x) h1 h4
    have h6 := run_low l (stepF s x).2.1 i (by simpa using hi) (by simpa using h2) (by simpa [runF] using h5)
    rw [getD_cons] at h3
    have h3 : x.id = (l.getD i Stp.z).id := h3
    rw [← h3, f2, ← f1] at h6
    show (stepF s x).1 < ((runF l (stepF s x).2.1).1.getD i (0, 0)).1
    omega
  | x :: l, s, k + 1, i + 1, h, hi, h1, h2, h3, h4, h5 => once l (stepF s x).2.1 k i (by omega) (by simpa using hi) (by simpa using h1) (by simpa using h2) (by simpa using h3) (by simpa [runF] using h4) (by simpa [runF] using h5)

end Go.Proofs.Ytoaeklbenmlooaa
