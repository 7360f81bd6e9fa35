/- Steps, chains and keys in numbers. -/
import Derived.Test.YtfppaagdnpoemaaDoorDF
namespace Go.Proofs.YtfppaagdnpoemaaDoor
set_option linter.unusedSimpArgs false
set_option linter.unusedVariables false
open Go Go.PL Go.RowKit

def V4 (x : List Nat) : Prop := x.length = 4 ∧ ∀ y ∈ x, y < 4294967296
theorem l8_take (r : List UInt32) : V4 ((l8 r).take 4) := by
  refine ⟨rfl, fun y hy => ?_⟩
  have h2 : ∀ z ∈ l8 r, z < 4294967296 := by
    intro z hz
    simp only [l8, List.mem_cons, List.not_mem_nil, or_false] at hz
    rcases hz with rfl | rfl | rfl | rfl | rfl | rfl | rfl | rfl <;> exact UInt32.toNat_lt _
  exact h2 y (List.mem_of_mem_take hy)
def padS (i j : Nat) : List Nat := [i * 16777216 + j * 65536 + 32768, 0, 0, 0, 0, 0, 0, 0, 0, 0, 0, 144]
def stepN (x : List Nat) (i j : Nat) : List Nat := (blkN (x ++ padS i j) iniN).take 4
theorem padF_of (bs : List UInt8) (n : Nat) (h : bs.length = n) : padF bs = bs ++ ([128] ++ List.replicate (zc n) 0 ++ lenB (of64 n * 8) 8) := by
  subst h; unfold padF; simp only [List.append_assoc]
theorem tail18 : ([128] ++ List.replicate (zc 18) 0 ++ lenB (of64 ((18 : Nat) : Int) * 8) 8 : List UInt8) = [128, 0] ++ bytesW [0, 0, 0, 0, 0, 0, 0, 0, 0, 0, 144] := by decide +kernel
theorem tail560 : ([128] ++ List.replicate (zc 560) 0 ++ lenB (of64 ((560 : Nat) : Int) * 8) 8 : List UInt8) = bytesW [2147483648, 0, 0, 4480] := by decide +kernel
theorem byteW_i (i j : Nat) (hi : i < 256) (hj : j < 256) : bytesW [i * 16777216 + j * 65536 + 32768] = [of8 (i : Int), of8 (j : Int), 128, 0] := by
  have e : ∀ (k : Nat) (b : UInt8), (i * 16777216 + j * 65536 + 32768) / 2 ^ k % 256 = b.toNat → byteW (i * 16777216 + j * 65536 + 32768) k = b := fun k b h => UInt8.toNat_inj.1 (by rw [byteW_nat]; exact h)
  have hi2 := of8_toNat (i : Int)
  have hj2 := of8_toNat (j : Int)
  simp only [bytesW]
  rw [e 24 (of8 i) (by show (i * 16777216 + j * 65536 + 32768) / 16777216 % 256 = _; omega), e 16 (of8 j) (by show (i * 16777216 + j * 65536 + 32768) / 65536 % 256 = _; omega), e 8 128 (by show (i * 16777216 + j * 65536 + 32768) / 256 % 256 = 128; omega), e 0 0 (by show (i * 16777216 + j * 65536 + 32768) / 1 % 256 = 0; omega)]
theorem step_W (x : List Nat) (hx : V4 x) (i j : Nat) (hi : i < 256) (hj : j < 256) : stepF (bytesW x) i j = bytesW (stepN x i j) ∧ V4 (stepN x i j) := by
  have hl : (x ++ padS i j).length = 16 := by rw [List.length_append, hx.1]; rfl
  have hw : ∀ y ∈ x ++ padS i j, y < 4294967296 := by
    intro y hy
    rcases List.mem_append.1 hy with hy | hy
    · exact hx.2 y hy
    · simp only [padS, List.mem_cons, List.not_mem_nil, or_false] at hy
      omega
  have hp : padF (bytesW x ++ [of8 (i : Int), of8 (j : Int)]) = bytesW (x ++ padS i j) := by
    rw [padF_of _ 18 (by rw [List.length_append, bytesW_length, hx.1]; rfl), tail18, bytesW_append, List.append_assoc]
    congr 1
    have h4 := byteW_i i j hi hj
    have e : padS i j = [i * 16777216 + j * 65536 + 32768] ++ [0, 0, 0, 0, 0, 0, 0, 0, 0, 0, 144] := rfl
    rw [e, bytesW_append, h4]; rfl
  have hb := blk_eq initS (x ++ padS i j) rfl (by omega) hw
  have e0 : l8 initS = iniN := rfl
  rw [e0] at hb
  have hh : hashN 1 (x ++ padS i j) iniN = blkN (x ++ padS i j) iniN := rfl
  refine ⟨?_, ?_⟩
  · unfold stepF
    rw [short_W _ 1 _ hp (by omega) hw, hh]; rfl
  · unfold stepN
    rw [← hb]; exact l8_take _
def climbN (x : List Nat) (i f : Nat) : Nat → List Nat
  | 0 => x
  | n + 1 => stepN (climbN x i f n) i (f + n)
theorem climb_W (x : List Nat) (hx : V4 x) (i f : Nat) (hi : i < 256) : ∀ n, f + n ≤ 256 → climbF (bytesW x) i f n = bytesW (climbN x i f n) ∧ V4 (climbN x i f n)
  | 0, _ => ⟨rfl, hx⟩
  | n + 1, h => by
    obtain ⟨h1, h2⟩ := climb_W x hx i f hi n (by omega)
    rw [climbF, h1, climbN]
    exact step_W _ h2 i (f + n) hi (by omega)
def chainN (x : List Nat) (i h : Nat) : List Nat := climbN (stepN x i 255) i 0 h
theorem chain_W (x : List Nat) (hx : V4 x) (i h : Nat) (hi : i < 256) (hh : h ≤ 256) : chainF (bytesW x) i h = bytesW (chainN x i h) ∧ V4 (chainN x i h) := by
  obtain ⟨h1, h2⟩ := step_W x hx i 255 hi (by omega)
  rw [chainF, beginF, h1, chainN]
  exact climb_W _ h2 i 0 hi h (by omega)
def accN (E : Nat → List Nat) : Nat → List Nat
  | 0 => []
  | n + 1 => accN E n ++ E n
theorem acc_W (E : Nat → List UInt8) (EN : Nat → List Nat) (n : Nat) (h : ∀ i, i < n → E i = bytesW (EN i) ∧ V4 (EN i)) : ∀ k, k ≤ n → accF E k = bytesW (accN EN k) ∧ (accN EN k).length = 4 * k ∧ ∀ y ∈ accN EN k, y < 4294967296
  | 0, _ => ⟨rfl, rfl, fun y hy => by cases hy⟩
  | k + 1, hk => by
    obtain ⟨h1, h2, h3⟩ := acc_W E EN n h k (by omega)
    obtain ⟨e1, e2⟩ := h k (by omega)
    rw [accF, accN, h1, e1, bytesW_append]
    refine ⟨rfl, by rw [List.length_append, h2, e2.1]; omega, fun y hy => ?_⟩
    rcases List.mem_append.1 hy with hy | hy
    · exact h3 y hy
    · exact e2.2 y hy
/-- The short digest of 140 words. -/
theorem short140 (A : List Nat) (hl : A.length = 140) (hw : ∀ y ∈ A, y < 4294967296) : shortF (bytesW A) = bytesW ((hashN 9 (A ++ [2147483648, 0, 0, 4480]) iniN).take 4) := by
  refine short_W _ 9 _ ?_ (by rw [List.length_append, hl]; rfl) fun y hy => ?_
  · rw [padF_of _ 560 (by rw [bytesW_length, hl]), tail560, bytesW_append]
  · rcases List.mem_append.1 hy with hy | hy
    · exact hw y hy
    · simp only [List.mem_cons, List.not_mem_nil, or_false] at hy
      omega
theorem tab_group (x : List Nat) (T : List (List Nat)) (q : Nat) (h0 : ((List.range' 0 5).all fun i => decide (chainN x i q = T.getD i [])) = true) (h1 : ((List.range' 5 5).all fun i => decide (chainN x i q = T.getD i [])) = true)
    (h2 : ((List.range' 10 5).all fun i => decide (chainN x i q = T.getD i [])) = true) (h3 : ((List.range' 15 5).all fun i => decide (chainN x i q = T.getD i [])) = true) (h4 : ((List.range' 20 5).all fun i => decide (chainN x i q = T.getD i [])) = true)
    (h5 : ((List.range' 25 5).all fun i => decide (chainN x i q = T.getD i [])) = true) (h6 : ((List.range' 30 5).all fun i => decide (chainN x i q = T.getD i [])) = true) (i : Nat) (hi : i < 35) : chainN x i q = T.getD i [] := by
  have key : ∀ (a : Nat), ((List.range' a 5).all fun i => decide (chainN x i q = T.getD i [])) = true → a ≤ i → i < a + 5 → chainN x i q = T.getD i [] := fun a h ha hb => by
    rw [List.all_eq_true] at h
    have := h i (by simp [List.mem_range']; exact ⟨i - a, by omega, by omega⟩)
    simpa using this
  by_cases c0 : i < 5
  · exact key 0 h0 (by omega) (by omega)
  by_cases c1 : i < 10
  · exact key 5 h1 (by omega) (by omega)
  by_cases c2 : i < 15
  · exact key 10 h2 (by omega) (by omega)
  by_cases c3 : i < 20
  · exact key 15 h3 (by omega) (by omega)
  by_cases c4 : i < 25
  · exact key 20 h4 (by omega) (by omega)
  by_cases c5 : i < 30
  · exact key 25 h5 (by omega) (by omega)
  · exact key 30 h6 (by omega) (by omega)
theorem accN_congr (E F : Nat → List Nat) (n : Nat) (h : ∀ i, i < n → E i = F i) : ∀ k, k ≤ n → accN E k = accN F k
  | 0, _ => rfl
  | k + 1, hk => by rw [accN, accN, accN_congr E F n h k (by omega), h k (by omega)]
theorem v4_of (x : List Nat) (h : (decide (x.length = 4) && x.all fun y => decide (y < 4294967296)) = true) : V4 x := by
  simp only [Bool.and_eq_true, decide_eq_true_eq, List.all_eq_true] at h
  exact ⟨h.1, fun y hy => by simpa using h.2 y hy⟩
theorem public_W0 (x : List Nat) (T : List (List Nat)) (q : Nat) (hq : q ≤ 256) (hx : V4 x) (hT : ∀ i, i < 35 → chainN x i q = T.getD i []) (m : Nat) (hm : m = 35) (r : List Nat) (hr : (hashN 9 (accN (fun i => T.getD i []) m ++ [2147483648, 0, 0, 4480]) iniN).take 4 = r) : shortF (accF (fun i => chainF (bytesW x) i q) m) = bytesW r := by
  obtain ⟨h1, h2, h3⟩ := acc_W (fun i => chainF (bytesW x) i q) (fun i => chainN x i q) m (fun i hi => chain_W x hx i q (by omega) hq) m (Nat.le_refl _)
  rw [h1, short140 _ (by omega) h3, accN_congr _ (fun i => T.getD i []) m (fun i hi => hT i (by omega)) m (Nat.le_refl _), hr]
theorem public_eq (s : List UInt8) : publicF s = shortF (accF (fun i => chainF s i 15) 35) := rfl
theorem public_W (x : List Nat) (T : List (List Nat)) (hx : (decide (x.length = 4) && x.all fun y => decide (y < 4294967296)) = true) (hT : ∀ i, i < 35 → chainN x i 15 = T.getD i []) (r : List Nat) (hr : (hashN 9 (accN (fun i => T.getD i []) 35 ++ [2147483648, 0, 0, 4480]) iniN).take 4 = r) : publicF (bytesW x) = bytesW r :=
  (public_eq _).trans (public_W0 x T 15 (by omega) (v4_of x hx) hT 35 rfl r hr)

end Go.Proofs.YtfppaagdnpoemaaDoor
