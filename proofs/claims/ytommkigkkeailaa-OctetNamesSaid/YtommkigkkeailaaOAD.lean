/- Decoding what was encoded. -/
import Derived.Test.YtommkigkkeailaaOAC
namespace Go.Proofs.Ytommkigkkeailaa
set_option linter.unusedSimpArgs false
set_option linter.unusedVariables false
open Go Go.PL Go.RowKit

theorem of8_lt {n : Nat} (h : n < 256) : (of8 ((n : Nat) : Int)).toNat = n := by have := of8_toNat (n : Int); omega
theorem headF_k {g b : UInt8} {zs : List UInt8} {k n : Nat} (hg : g ≠ 0) (hb : b.toNat = 128 + k) (hk : 1 ≤ k) (hk3 : k ≤ 3) (hl : k ≤ zs.length) (hn : numOf (zs.take k) = n) (hw : wideF n = 1 + k) : headF (g :: b :: zs) = (g, 2 + k, n, true) := by
  have e : (List.getD (g :: b :: zs) 1 0).toNat - 128 = k := by show b.toNat - 128 = k; omega
  unfold headF
  rw [e, if_neg (by rintro (h | h); · have h : zs.length + 1 + 1 < 2 := h; omega
                    · exact hg h), if_neg (by show ¬ b.toNat < 128; omega), if_neg (by show ¬ (k < 1 ∨ 3 < k ∨ zs.length + 1 + 1 < 2 + k); omega), if_neg (by show ¬ wideF (numOf (zs.take k)) ≠ 1 + k; rw [hn, hw]; simp)]
  show (g, 2 + k, numOf (zs.take k), true) = _
  rw [hn]
theorem headF_enc {g : UInt8} (hg : g ≠ 0) {n : Nat} (h : n < 16777216) (ys : List UInt8) : headF (g :: (lenB n ++ ys)) = (g, 1 + (lenB n).length, n, true) := by
  have hw := wideF_eq h
  unfold lenB
  split
  · rename_i h1
    have e := of8_lt (n := n) (by omega)
    show headF (g :: of8 (n : Int) :: ys) = (g, 2, n, true)
    unfold headF
    rw [if_neg (by rintro (h | h); · have h : ys.length + 1 + 1 < 2 := h; omega
                   · exact hg h), if_pos (by show (of8 (n : Int)).toNat < 128; omega)]
    show (g, 2, (of8 (n : Int)).toNat, true) = _
    rw [e]
  · rename_i h1
    rw [if_neg h1] at hw
    split
    · rename_i h2
      rw [if_pos h2] at hw
      refine headF_k (k := 1) (b := 129) (zs := of8 (n : Int) :: ys) hg rfl (by omega) (by omega) (by simp) ?_ hw
      show 256 * 0 + (of8 (n : Int)).toNat = n
      rw [of8_lt h2]; omega
    · rename_i h2
      rw [if_neg h2] at hw
      split
      · rename_i h3
        rw [if_pos h3] at hw
        refine headF_k (k := 2) (b := 130) (zs := of8 ((n / 256 : Nat) : Int) :: of8 ((n % 256 : Nat) : Int) :: ys) hg rfl (by omega) (by omega) (by simp) ?_ hw
        show 256 * (256 * 0 + (of8 ((n / 256 : Nat) : Int)).toNat) + (of8 ((n % 256 : Nat) : Int)).toNat = n
        rw [of8_lt (by omega), of8_lt (by omega)]; omega
      · rename_i h3
        rw [if_neg h3] at hw
        refine headF_k (k := 3) (b := 131) (zs := of8 ((n / 65536 : Nat) : Int) :: of8 ((n / 256 % 256 : Nat) : Int) :: of8 ((n % 256 : Nat) : Int) :: ys) hg rfl (by omega) (by omega) (by simp) ?_ hw
        show 256 * (256 * (256 * 0 + (of8 ((n / 65536 : Nat) : Int)).toNat) + (of8 ((n / 256 % 256 : Nat) : Int)).toNat) + (of8 ((n % 256 : Nat) : Int)).toNat = n
        rw [of8_lt (by omega), of8_lt (by omega), of8_lt (by omega)]; omega


theorem encL_len {g : UInt8} {bs : List UInt8} {l : List Tr} (h : Sm (.nd g bs l)) : (encL l).length = sizL l := by
  have h1 := enc_len _ h
  have hc := content_le h
  rw [enc, List.length_cons, List.length_append, List.length_append, lenB_length (by omega), Tr.siz] at h1
  omega
theorem enc_pos (t : Tr) : 1 ≤ (enc t).length := by cases t; rw [enc, List.length_cons]; omega
theorem kids_enc {f : Nat} {l : List Tr} (ih : ∀ x ∈ l, ∀ rest, takeF f (enc x ++ rest) = some (x, (enc x).length)) : ∀ (m : List Tr), (∀ x ∈ m, x ∈ l) → ∀ k, (encL m).length ≤ k → kidsW (takeF f) k (encL m) = some m
  | [], _, k, _ => kidsW_nil _ k
  | x :: m, hm, k, hk => by
    have hp := enc_pos x
    rw [encL, List.length_append] at hk
    obtain ⟨j, rfl⟩ : ∃ j, k = j + 1 := ⟨k - 1, by omega⟩
    rw [encL, kidsW, if_neg, ih x (hm x (List.mem_cons_self ..))]
    · show (kidsW (takeF f) j ((enc x ++ encL m).drop (enc x).length)).map (x :: ·) = _
      rw [List.drop_left, kids_enc ih m (fun y hy => hm y (List.mem_cons_of_mem _ hy)) j (by omega)]; rfl
    · intro he
      rw [List.isEmpty_iff] at he
      have := congrArg List.length he
      rw [List.length_append, List.length_nil] at this
      omega
theorem shpL_mem {l : List Tr} (h : shpL l = true) : ∀ x ∈ l, x.shp = true := by
  induction l with
  | nil => intro x hx; cases hx
  | cons y l ih =>
    rw [shpL, Bool.and_eq_true] at h
    intro x hx
    rcases List.mem_cons.1 hx with rfl | hx
    · exact h.1
    · exact ih h.2 x hx
theorem depL_mem {l : List Tr} : ∀ x ∈ l, x.dep ≤ depL l := by
  induction l with
  | nil => intro x hx; cases hx
  | cons y l ih =>
    intro x hx
    rw [depL]
    rcases List.mem_cons.1 hx with rfl | hx
    · omega
    · have := ih x hx; omega
/-- What was encoded is decoded to itself. -/
theorem take_enc : ∀ t : Tr, Sm t → t.shp = true → ∀ (f : Nat) (rest : List UInt8), t.dep ≤ f → takeF f (enc t ++ rest) = some (t, (enc t).length) := by
  intro t
  induction t using Tr.ind with
  | _ g bs l ih =>
    intro hs hp f rest hd
    rw [Tr.dep] at hd
    obtain ⟨f, rfl⟩ : ∃ f2, f = f2 + 1 := ⟨f - 1, by omega⟩
    have hc := content_le hs
    have hel := encL_len hs
    rw [Tr.shp, Bool.and_eq_true, Bool.not_eq_true', badT, Bool.or_eq_false_iff, Bool.or_eq_false_iff, Bool.and_eq_false_iff, Bool.and_eq_false_iff] at hp
    simp only [decide_eq_false_iff_not] at hp
    obtain ⟨⟨⟨hg, h1⟩, h2⟩, h3⟩ := hp
    have hlb := lenB_length (n := bs.length + sizL l) (by omega)
    have hx : enc (.nd g bs l) ++ rest = g :: (lenB (bs.length + sizL l) ++ ((bs ++ encL l) ++ rest)) := by rw [enc]; simp
    have hh := headF_enc hg (n := bs.length + sizL l) (by omega) ((bs ++ encL l) ++ rest)
    have hlen : (enc (.nd g bs l)).length = 1 + (lenB (bs.length + sizL l)).length + (bs.length + sizL l) := by rw [enc, List.length_cons, List.length_append, List.length_append, hel]; omega
    have hdr : ((g :: (lenB (bs.length + sizL l) ++ ((bs ++ encL l) ++ rest))).drop (1 + (lenB (bs.length + sizL l)).length)).take (bs.length + sizL l) = bs ++ encL l := by
      rw [show g :: (lenB (bs.length + sizL l) ++ ((bs ++ encL l) ++ rest)) = (g :: lenB (bs.length + sizL l)) ++ ((bs ++ encL l) ++ rest) from rfl, List.drop_left' (by rw [List.length_cons]; omega), List.take_left' (by rw [List.length_append, hel])]
    rw [hx, takeF, hh]
    dsimp only
    rw [if_neg (by
      rintro (h | h)
      · cases h
      · simp only [List.length_cons, List.length_append, hel] at h; omega), hdr, hlen]
    by_cases h128 : g.toNat < 128
    · rw [if_pos h128]
      have hl0 : l = [] := List.eq_nil_of_length_eq_zero (by
        rcases h1 with h1 | h1
        · exact absurd (show g < 128 from h128) h1
        · omega)
      subst hl0
      rw [encL, List.append_nil]
    · rw [if_neg h128]
      have hb0 : bs = [] := List.eq_nil_of_length_eq_zero (by
        rcases h2 with h2 | h2
        · exact absurd (show (128 : UInt8) ≤ g from (by show (128 : Nat) ≤ g.toNat; omega)) h2
        · omega)
      subst hb0
      rw [List.nil_append, kids_enc (l := l) (fun x hx rest => ih x hx (hs.kidT hx) (shpL_mem h3 x hx) f rest (by have := depL_mem x hx; omega)) l (fun _ h => h) _ (by rw [hel]; simp)]
      rfl

end Go.Proofs.Ytommkigkkeailaa
