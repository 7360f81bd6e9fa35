/- The digest of words. -/
import Derived.Test.YtlapmdiabhlbmaaDoorDE
namespace Go.Proofs.YtlapmdiabhlbmaaDoor
set_option linter.unusedSimpArgs false
set_option linter.unusedVariables false
open Go Go.PL Go.RowKit

def byteW (w k : Nat) : UInt8 := UInt8.ofNat (w / 2 ^ k)
def bytesW : List Nat → List UInt8
  | [] => []
  | w :: r => byteW w 24 :: byteW w 16 :: byteW w 8 :: byteW w 0 :: bytesW r
theorem bytesW_append (a b : List Nat) : bytesW (a ++ b) = bytesW a ++ bytesW b := by
  induction a with
  | nil => rfl
  | cons w r ih => simp only [List.cons_append, bytesW, ih]
theorem bytesW_length (a : List Nat) : (bytesW a).length = 4 * a.length := by
  induction a with
  | nil => rfl
  | cons w r ih => simp only [bytesW, List.length_cons, ih]; omega
theorem bytesW_get (a : List Nat) : ∀ i, i < a.length → (bytesW a).getD (4 * i) 0 = byteW (a.getD i 0) 24 ∧ (bytesW a).getD (4 * i + 1) 0 = byteW (a.getD i 0) 16 ∧ (bytesW a).getD (4 * i + 2) 0 = byteW (a.getD i 0) 8 ∧ (bytesW a).getD (4 * i + 3) 0 = byteW (a.getD i 0) 0 := by
  induction a with
  | nil => intro i hi; simp at hi
  | cons w r ih =>
    intro i hi
    cases i with
    | zero => exact ⟨rfl, rfl, rfl, rfl⟩
    | succ i =>
      have := ih i (by simpa using hi)
      rw [show 4 * (i + 1) = 4 * i + 1 + 1 + 1 + 1 by omega, show 4 * i + 1 + 1 + 1 + 1 + 1 = (4 * i + 1) + 1 + 1 + 1 + 1 by omega, show 4 * i + 1 + 1 + 1 + 1 + 2 = (4 * i + 2) + 1 + 1 + 1 + 1 by omega, show 4 * i + 1 + 1 + 1 + 1 + 3 = (4 * i + 3) + 1 + 1 + 1 + 1 by omega]
      exact this
theorem byteW_nat (w k : Nat) : (byteW w k).toNat = w / 2 ^ k % 256 := by unfold byteW; rw [UInt8.toNat_ofNat']
theorem bytesW_drop (a : List Nat) (i : Nat) : (bytesW a).drop (4 * i) = bytesW (a.drop i) := by
  induction i generalizing a with
  | zero => rfl
  | succ i ih =>
    cases a with
    | nil => simp [bytesW]
    | cons w r =>
      rw [show 4 * (i + 1) = 4 * i + 1 + 1 + 1 + 1 by omega]
      simp only [bytesW, List.drop_succ_cons]
      exact ih r
theorem bytesW_take (a : List Nat) (i : Nat) : (bytesW a).take (4 * i) = bytesW (a.take i) := by
  induction i generalizing a with
  | zero => rfl
  | succ i ih =>
    cases a with
    | nil => simp [bytesW]
    | cons w r =>
      rw [show 4 * (i + 1) = 4 * i + 1 + 1 + 1 + 1 by omega]
      simp only [bytesW, List.take_succ_cons, ih]
set_option maxRecDepth 100000 in
theorem word_W (a : List Nat) (i : Nat) (h : i < a.length) (hw : a.getD i 0 < 4294967296) : (wordF (bytesW a) i).toNat = a.getD i 0 := by
  obtain ⟨h0, h1, h2, h3⟩ := bytesW_get a i h
  rw [← word4_eq]
  have e : ∀ x : UInt8, (of32 (x.toNat : Int)).toNat = x.toNat := fun x => by
    have := x.toNat_lt
    have h := of32_toNat (x.toNat : Int)
    omega
  simp only [word4, UInt32.toNat_add, UInt32.toNat_mul, e, Nat.add_zero]
  simp only [h0, h1, h2, h3, byteW_nat]
  have z : (0 : UInt32).toNat = 0 := rfl
  have z2 : (256 : UInt32).toNat = 256 := rfl
  rw [z, z2]
  generalize a.getD i 0 = w at hw
  show (((((((0 * 256 % 4294967296 + w / 16777216 % 256) % 4294967296) * 256 % 4294967296 + w / 65536 % 256) % 4294967296) * 256 % 4294967296 + w / 256 % 256) % 4294967296) * 256 % 4294967296 + w / 1 % 256) % 4294967296 = w
  omega
/-- One block, out of words. -/
def blkN (W : List Nat) (s : List Nat) : List Nat := match s with
  | [s0, s1, s2, s3, s4, s5, s6, s7] => compN s0 s1 s2 s3 s4 s5 s6 s7 (sch 64 (W.getD 0 0) (W.getD 1 0) (W.getD 2 0) (W.getD 3 0) (W.getD 4 0) (W.getD 5 0) (W.getD 6 0) (W.getD 7 0) (W.getD 8 0) (W.getD 9 0) (W.getD 10 0) (W.getD 11 0) (W.getD 12 0) (W.getD 13 0) (W.getD 14 0) (W.getD 15 0))
  | _ => []
def hashN : Nat → List Nat → List Nat → List Nat
  | 0, _, s => s
  | n + 1, W, s => hashN n (W.drop 16) (blkN W s)
def iniN : List Nat := [1779033703, 3144134277, 1013904242, 2773480762, 1359893119, 2600822924, 528734635, 1541459225]
theorem blk_eq (st : List UInt32) (W : List Nat) (h : st.length = 8) (hW : 16 ≤ W.length) (hw : ∀ x ∈ W, x < 4294967296) : l8 (addF st (bytesW (W.take 16))) = blkN W (l8 st) := by
  have g : ∀ i, i < 16 → (wordF (bytesW (W.take 16)) i).toNat = W.getD i 0 := fun i hi => by
    have hl : (W.take 16).length = 16 := by rw [List.length_take]; omega
    have e : (W.take 16).getD i 0 = W.getD i 0 := by
      simp only [List.getD_eq_getElem?_getD]; rw [List.getElem?_take, if_pos hi]
    rw [word_W _ _ (by omega), e]
    rw [e, List.getD_eq_getElem?_getD, List.getElem?_eq_getElem (by omega)]
    exact hw _ (List.getElem_mem _)
  rw [add_nat _ _ h, ws_sch, g 0 (by omega), g 1 (by omega), g 2 (by omega), g 3 (by omega), g 4 (by omega), g 5 (by omega), g 6 (by omega), g 7 (by omega), g 8 (by omega), g 9 (by omega), g 10 (by omega), g 11 (by omega), g 12 (by omega), g 13 (by omega), g 14 (by omega), g 15 (by omega)]
  rfl
theorem hash_eq : ∀ (n : Nat) (W : List Nat) (st : List UInt32), st.length = 8 → W.length = 16 * n → (∀ x ∈ W, x < 4294967296) → l8 ((chunksF (bytesW W)).foldl addF st) = hashN n W (l8 st)
  | 0, W, st, h, hW, hw => by
    obtain rfl : W = [] := List.eq_nil_of_length_eq_zero (by omega)
    rfl
  | n + 1, W, st, h, hW, hw => by
    have hc : chunksF (bytesW W) = bytesW (W.take 16) :: chunksF (bytesW (W.drop 16)) := by
      unfold chunksF
      have l1 := bytesW_length W
      have l2 := bytesW_length (W.drop 16)
      rw [List.length_drop] at l2
      rw [show (bytesW W).length / 64 = (bytesW (W.drop 16)).length / 64 + 1 by omega, List.range_succ_eq_map, List.map_cons, List.map_map]
      congr 1
      · exact bytesW_take W 16
      · apply List.map_congr_left
        intro i _
        show ((bytesW W).drop (64 * (i + 1))).take 64 = ((bytesW (W.drop 16)).drop (64 * i)).take 64
        rw [← bytesW_drop W 16, List.drop_drop]
        congr 2; omega
    rw [hc, List.foldl_cons, hash_eq n (W.drop 16) _ ((addF_length _ _).trans h) (by rw [List.length_drop]; omega) (fun x hx => hw x (List.mem_of_mem_drop hx)), hashN]
    congr 1
    exact blk_eq st W h (by omega) hw
theorem outN_list (st : List UInt32) : ∀ i, i ≤ 32 → outN st i = ((List.range i).map fun j => of8 (sr32 (st.getD (j / 4) 0) (24 - 8 * (j % 4))).toNat) ++ List.replicate (32 - i) 0
  | 0, _ => by simp [outN]
  | i + 1, h => by
    rw [outN, outN_list st i (by omega), List.range_succ, List.map_append]
    have e : List.replicate (32 - i) (0 : UInt8) = 0 :: List.replicate (32 - (i + 1)) 0 := by
      rw [show 32 - i = (32 - (i + 1)) + 1 by omega, List.replicate_succ]
    rw [e, List.set_append_right i _ (by simp), List.length_map, List.length_range, Nat.sub_self, List.set_cons_zero, List.append_assoc]
    rfl
theorem of8_W (x : UInt32) (k : Nat) (hk : k ≤ 32) : of8 ((sr32 x k).toNat : Int) = byteW x.toNat k := by
  apply UInt8.toNat_inj.1
  have h := of8_toNat ((sr32 x k).toNat : Int)
  rw [byteW_nat, ← sr_nat x k hk]; omega
theorem out_W (st : List UInt32) : outN st 32 = bytesW (l8 st) := by
  rw [outN_list st 32 (Nat.le_refl _), Nat.sub_self, List.replicate_zero, List.append_nil]
  show [of8 (sr32 (st.getD 0 0) 24).toNat, of8 (sr32 (st.getD 0 0) 16).toNat, of8 (sr32 (st.getD 0 0) 8).toNat, of8 (sr32 (st.getD 0 0) 0).toNat,
    of8 (sr32 (st.getD 1 0) 24).toNat, of8 (sr32 (st.getD 1 0) 16).toNat, of8 (sr32 (st.getD 1 0) 8).toNat, of8 (sr32 (st.getD 1 0) 0).toNat,
    of8 (sr32 (st.getD 2 0) 24).toNat, of8 (sr32 (st.getD 2 0) 16).toNat, of8 (sr32 (st.getD 2 0) 8).toNat, of8 (sr32 (st.getD 2 0) 0).toNat,
    of8 (sr32 (st.getD 3 0) 24).toNat, of8 (sr32 (st.getD 3 0) 16).toNat, of8 (sr32 (st.getD 3 0) 8).toNat, of8 (sr32 (st.getD 3 0) 0).toNat,
    of8 (sr32 (st.getD 4 0) 24).toNat, of8 (sr32 (st.getD 4 0) 16).toNat, of8 (sr32 (st.getD 4 0) 8).toNat, of8 (sr32 (st.getD 4 0) 0).toNat,
    of8 (sr32 (st.getD 5 0) 24).toNat, of8 (sr32 (st.getD 5 0) 16).toNat, of8 (sr32 (st.getD 5 0) 8).toNat, of8 (sr32 (st.getD 5 0) 0).toNat,
    of8 (sr32 (st.getD 6 0) 24).toNat, of8 (sr32 (st.getD 6 0) 16).toNat, of8 (sr32 (st.getD 6 0) 8).toNat, of8 (sr32 (st.getD 6 0) 0).toNat,
    of8 (sr32 (st.getD 7 0) 24).toNat, of8 (sr32 (st.getD 7 0) 16).toNat, of8 (sr32 (st.getD 7 0) 8).toNat, of8 (sr32 (st.getD 7 0) 0).toNat] = _
  simp only [of8_W _ 24 (by omega), of8_W _ 16 (by omega), of8_W _ 8 (by omega), of8_W _ 0 (by omega)]
  rfl
/-- The digest of bytes that are padded to these words. -/
theorem sum_W (bs : List UInt8) (n : Nat) (W : List Nat) (hp : padF bs = bytesW W) (hl : W.length = 16 * n) (hw : ∀ x ∈ W, x < 4294967296) : sumF bs = bytesW (hashN n W iniN) := by
  unfold sumF
  rw [out_W, hp]
  congr 1
  exact hash_eq n W initS rfl hl hw
theorem short_W (bs : List UInt8) (n : Nat) (W : List Nat) (hp : padF bs = bytesW W) (hl : W.length = 16 * n) (hw : ∀ x ∈ W, x < 4294967296) : shortF bs = bytesW ((hashN n W iniN).take 4) := by
  unfold shortF
  rw [sum_W bs n W hp hl hw]; exact bytesW_take _ 4

end Go.Proofs.YtlapmdiabhlbmaaDoor
