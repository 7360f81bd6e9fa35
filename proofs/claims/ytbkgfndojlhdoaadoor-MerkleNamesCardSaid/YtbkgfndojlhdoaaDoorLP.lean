/- What is signed is verified. -/
import Derived.Test.YtbkgfndojlhdoaaDoorDE
import Derived.Test.YtbkgfndojlhdoaaDoorM2
namespace Go.Proofs.YtbkgfndojlhdoaaDoor
set_option linter.unusedSimpArgs false
set_option linter.unusedVariables false
open Go Go.PL Go.RowKit

theorem climb_add (x : List UInt8) (i f n : Nat) : ∀ m, climbF (climbF x i f n) i (f + n) m = climbF x i f (n + m)
  | 0 => rfl
  | m + 1 => by rw [climbF, climb_add x i f n m, ← Nat.add_assoc, climbF, Nat.add_assoc]
theorem chain_up (s : List UInt8) (i a b : Nat) (h : a ≤ b) : climbF (chainF s i a) i a (b - a) = chainF s i b := by
  have := climb_add (beginF s i) i 0 a (b - a)
  rw [Nat.zero_add, show a + (b - a) = b by omega] at this
  exact this
theorem sg_get (s m : List UInt8) (n i : Nat) (h : i < n) : (sg s m n).getD i [] = chainF s i (dig m i) := by
  rw [sg, List.getD_eq_getElem?_getD, List.getElem?_map, List.getElem?_eq_getElem (by simpa using h)]; simp
theorem rec_signE (s m : List UInt8) (n : Nat) (i : Nat) (hi : i < n) (q : Nat) (hq : dig m i ≤ q) : climbF ((sg s m n).getD i []) i (dig m i) (q - dig m i) = chainF s i q := by
  rw [sg_get s m n i hi, chain_up s i _ _ hq]
theorem rec_acc (s m : List UInt8) (n q : Nat) (hq : ∀ i, dig m i ≤ q) : accF (fun i => climbF ((sg s m n).getD i []) i (dig m i) (q - dig m i)) n = accF (fun i => chainF s i q) n :=
  accF_congr _ _ n (fun i hi => rec_signE s m n i hi q (hq i)) n (Nat.le_refl _)
theorem recE_eq (m : List UInt8) (chs : List (List UInt8)) : recE m chs = fun i => climbF (chs.getD i []) i (dig m i) (15 - dig m i) := rfl
/-- **The stage's theorem**: what is signed is verified. -/
theorem rec_sign (s m : List UInt8) : recF m (signF s m) = publicF s := by
  have h1 : recF m (signF s m) = shortF (accF (recE m (signF s m)) 35) := if_pos (signF_length s m)
  rw [h1, recE_eq]
  exact congrArg shortF (rec_acc s m 35 15 (dig_le m))
theorem er_sign (s m : List UInt8) : recEr (signF s m) = 0 := if_pos (signF_length s m)

theorem upF_path (s : List UInt8) (q m : Nat) : ∀ i, i ≤ m → upF (nodeF s 0 q) q (pathF s q m) i = nodeF s i (q / 2 ^ i)
  | 0, _ => by rw [upF, Nat.pow_zero, Nat.div_one]
  | i + 1, h => by
    have hg : (pathF s q m).getD i [] = nodeF s i ((q / 2 ^ i) ^^^ 1) := by
      rw [pathF, List.getD_eq_getElem?_getD, List.getElem?_map, List.getElem?_eq_getElem (by rw [List.length_range]; exact h)]; simp
    rw [upF, upF_path s q m i (by omega), hg, show q / 2 ^ (i + 1) = q / 2 ^ i / 2 by rw [Nat.pow_succ, Nat.div_div_eq_div_mul]]
    generalize q / 2 ^ i = j
    rw [sib_eq, nodeF, stepU]
    by_cases hj : j % 2 = 1
    · rw [if_neg (by omega), if_pos hj, show 2 * (j / 2) + 1 = j by omega, show 2 * (j / 2) = j - 1 by omega]
    · rw [if_pos (by omega), if_neg hj, show 2 * (j / 2) = j by omega]
theorem root_path (s : List UInt8) (q m : Nat) (bs : List UInt8) (hq : q < 2 ^ m) : upF (recF bs (signF (leafF s q) bs)) q (pathF s q m) m = nodeF s m 0 := by
  rw [rec_sign]
  have := upF_path s q m m (Nat.le_refl _)
  rw [Nat.div_eq_of_lt hq] at this
  exact this
theorem check_sign {s : List UInt8} {m q : Nat} {bs : List UInt8} (hm : m ≤ 4) (hq : q < 2 ^ m) : checkF m q (signF (leafF s q) bs).length (pathF s q m).length = 0 := by
  rw [signF_length, pathF_length]; exact check_0 (by omega) ⟨by omega, by omega, rfl, rfl⟩
theorem root_sign {s : List UInt8} {m q : Nat} {bs : List UInt8} (hm : m ≤ 4) (hq : q < 2 ^ m) : rootF m q bs (signF (leafF s q) bs) (pathF s q m) = nodeF s m 0 := by
  have h : rootF m q bs (signF (leafF s q) bs) (pathF s q m) = upF (recF bs (signF (leafF s q) bs)) q (pathF s q m) (pathF s q m).length := if_pos (check_sign hm hq)
  rw [h, pathF_length]; exact root_path s q m bs hq
theorem keyR_in {s : List UInt8} {m : Nat} (hm : m ≤ 4) : keyR s m = nodeF s m 0 := if_pos ⟨by omega, by omega⟩
theorem tab_groupG (E : Nat → List Nat) (T : List (List Nat)) (h : ∀ a, a < 7 → ((List.range' (5 * a) 5).all fun i => decide (E i = T.getD i [])) = true) (i : Nat) (hi : i < 35) : E i = T.getD i [] := by
  have h1 := h (i / 5) (by omega)
  rw [List.all_eq_true] at h1
  have := h1 i (by simp [List.mem_range']; exact ⟨i % 5, by omega, by omega⟩)
  simpa using this
theorem rec_W0 (x : List Nat) (hx : V4 x) (m n : List UInt8) (T : List (List Nat)) (hT : ∀ i, i < 35 → climbN (chainN x i (dig m i)) i (dig n i) (15 - dig n i) = T.getD i []) (k : Nat) (hk : k = 35) (r : List Nat) (hr : (hashN 9 (accN (fun i => T.getD i []) k ++ [2147483648, 0, 0, 4480]) iniN).take 4 = r) : shortF (accF (recE n (signF (bytesW x) m)) k) = bytesW r := by
  have hE : ∀ i, i < 35 → recE n (signF (bytesW x) m) i = bytesW (climbN (chainN x i (dig m i)) i (dig n i) (15 - dig n i)) ∧ V4 (climbN (chainN x i (dig m i)) i (dig n i) (15 - dig n i)) := fun i hi => by
    have hd1 := dig_le m i
    have hd2 := dig_le n i
    rw [recE_eq]
    dsimp only
    rw [show (signF (bytesW x) m).getD i [] = chainF (bytesW x) i (dig m i) from sg_get _ _ 35 i hi]
    obtain ⟨h1, h2⟩ := chain_W x hx i (dig m i) (by omega) (by omega)
    rw [h1]
    exact climb_W _ h2 i (dig n i) (by omega) (15 - dig n i) (by omega)
  obtain ⟨h1, h2, h3⟩ := acc_W _ _ k (fun i hi => hE i (by omega)) k (Nat.le_refl _)
  rw [h1, short140 _ (by omega) h3, accN_congr _ (fun i => T.getD i []) k (fun i hi => hT i (by omega)) k (Nat.le_refl _), hr]

end Go.Proofs.YtbkgfndojlhdoaaDoor
