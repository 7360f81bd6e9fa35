/- Walk of the function that puts bytes into blocks and yields the full ones. -/
import Derived.Test.YtoaeklbenmlooaaDoorD3
namespace Go.Proofs.YtoaeklbenmlooaaDoor
set_option linter.unusedSimpArgs false
set_option linter.unusedVariables false
open Go Go.PL Go.RowKit
/-- The full blocks of what has come. -/
def chunksF (c : List UInt8) : List (List UInt8) := (List.range (c.length / 64)).map fun i => (c.drop (64 * i)).take 64
/-- The block under way: the rest, and zeros. -/
def bufF (c : List UInt8) : List UInt8 := c.drop (64 * (c.length / 64)) ++ List.replicate (64 - c.length % 64) 0
theorem bufF_length (c : List UInt8) : (bufF c).length = 64 := by
  simp only [bufF, List.length_append, List.length_drop, List.length_replicate]
  omega
theorem bufF_zero (c : List UInt8) (h : c.length % 64 = 0) : bufF c = List.replicate 64 0 := by
  unfold bufF
  rw [h, List.drop_of_length_le (by omega)]; rfl
theorem buf_take (c : List UInt8) : (bufF c).take (c.length % 64) = c.drop (64 * (c.length / 64)) := by
  unfold bufF
  rw [List.take_append_of_le_length (by rw [List.length_drop]; omega)]
  exact List.take_of_length_le (by rw [List.length_drop]; omega)
theorem buf_drop (c : List UInt8) (k : Nat) : (bufF c).drop (c.length % 64 + k) = List.replicate (64 - (c.length % 64 + k)) 0 := by
  unfold bufF
  have e : (c.drop (64 * (c.length / 64))).length = c.length % 64 := by rw [List.length_drop]; omega
  rw [List.drop_append, e, show c.length % 64 + k - c.length % 64 = k by omega, List.drop_of_length_le (by omega), List.nil_append, List.drop_replicate]
  congr 1; omega
/-- More has come, and the block isn't full. -/
theorem put_part (c x : List UInt8) (h : c.length % 64 + x.length < 64) : chunksF (c ++ x) = chunksF c ∧ (bufF c).take (c.length % 64) ++ x ++ (bufF c).drop (c.length % 64 + x.length) = bufF (c ++ x) := by
  have hq : (c ++ x).length / 64 = c.length / 64 := by rw [List.length_append]; omega
  have hm : (c ++ x).length % 64 = c.length % 64 + x.length := by rw [List.length_append]; omega
  constructor
  · unfold chunksF
    rw [hq]
    apply List.map_congr_left
    intro i hi
    have hi' := List.mem_range.1 hi
    rw [List.drop_append_of_le_length (by omega), List.take_append_of_le_length (by rw [List.length_drop]; omega)]
  · rw [buf_take, buf_drop]
    unfold bufF
    rw [hq, hm, List.drop_append_of_le_length (by omega)]
/-- More has come, and the block is full. -/
theorem put_full (c x : List UInt8) (h : c.length % 64 + x.length = 64) : chunksF (c ++ x) = chunksF c ++ [(bufF c).take (c.length % 64) ++ x ++ (bufF c).drop (c.length % 64 + x.length)] ∧ (c ++ x).length % 64 = 0 := by
  have hq : (c ++ x).length / 64 = c.length / 64 + 1 := by rw [List.length_append]; omega
  have hm : (c ++ x).length % 64 = 0 := by rw [List.length_append]; omega
  refine ⟨?_, hm⟩
  unfold chunksF
  rw [hq, List.range_succ, List.map_append, buf_take, buf_drop]
  congr 1
  · apply List.map_congr_left
    intro i hi
    have hi' := List.mem_range.1 hi
    rw [List.drop_append_of_le_length (by omega), List.take_append_of_le_length (by rw [List.length_drop]; omega)]
  · simp only [List.map_cons, List.map_nil]
    rw [List.drop_append_of_le_length (by omega), List.take_of_length_le (by rw [List.length_append, List.length_drop]; omega), h]
    simp
abbrev Jt := List Nat → List (List UInt8) → World → Prop
/-- What is known while bytes are put. -/
structure PutInv (J : Jt) (T : List Nat) (c p : List UInt8) (p0 : Value) (b nb y l : Nat) (wS : World) (j : Nat) (v : Value) (wb : World) : Prop where
  le : j ≤ p.length
  J : J T (chunksF (c ++ p.take j)) wb
  v : ∀ r, Seen r p0 p.length 1 (v8s p) → Seen r v (p.length - j) 1 (v8s (p.drop j))
  seen : Seen wb.cell? p0 p.length 1 (v8s p)
  yv : wb.heap[y]? = some (.cells #[.func (.yield l) #[] #[]] 131 (0, 0))
  keep : ∀ k, k ∈ T → k ≠ b → k ≠ nb → wb.heap[k]? = wS.heap[k]?
  size : wS.heap.size ≤ wb.heap.size
def PutPost (J : Jt) (T : List Nat) (c : List UInt8) (b nb : Nat) (wS : World) (e : Ending) (w : World) : Prop :=
  e = .returned (.tuple #[]) ∧ J T (chunksF c) w ∧ w.heap[b]? = some (.cells (v8s (bufF c)).toArray 133 (0, 0)) ∧ w.heap[nb]? = some (.cells #[.int .i64 ((c.length % 64 : Nat) : Int)] 3 (0, 0)) ∧
    (∀ k, k ∈ T → k ≠ b → k ≠ nb → w.heap[k]? = wS.heap[k]?) ∧ wS.heap.size ≤ w.heap.size
instance nop_put {P : Program} {fn : Func} {J : Jt} {T : List Nat} {c : List UInt8} {b nb : Nat} {wS : World} : NoP (bodyPost P fn (PutPost J T c b nb wS)) := nop_post fun c w' h => by cases h.1
/-- The blocks under way. -/
def putM (c : List UInt8) (b nb : Nat) : List Ent := [.blk b 133 (v8s (bufF c)), .blk nb 3 [.int .i64 ((c.length % 64 : Nat) : Int)]]

section
variable (J : Jt) (T : List Nat) (c p : List UInt8) (p0 : Value) (b nb y l : Nat) (wS : World)
theorem slice_v {j q : Nat} {a : Option Addr} {cap : Nat} (hv : ∀ r, Seen r p0 p.length 1 (v8s p) → Seen r (.slice a (p.length - j) cap) (p.length - j) 1 (v8s (p.drop j))) (hj : j + q ≤ p.length) :
    ∀ r, Seen r p0 p.length 1 (v8s p) → Seen r (sliced a q (p.length - j) cap 1) (p.length - (j + q)) 1 (v8s (p.drop (j + q))) := fun r hr => by
  have h1 := (hv r hr).slice q (p.length - j) (by omega) (Nat.le_refl _)
  have e1 : (p.length - j - q) = p.length - (j + q) := by omega
  have e2 : ((v8s (p.drop j)).drop (q * 1)).take ((p.length - j - q) * 1) = v8s (p.drop (j + q)) := by
    rw [Nat.mul_one, Nat.mul_one, v8s_drop, v8s_take, List.drop_drop, List.take_of_length_le (by rw [List.length_drop]; omega)]
  rw [e2] at h1
  rw [← e1]
  exact h1
theorem PutInv.step {j q : Nat} {a : Option Addr} {cap : Nat} {wb : World} (h : PutInv J T c p p0 b nb y l wS j (.slice a (p.length - j) cap) wb) (hj : j + q ≤ p.length) (hJ : J T (chunksF (c ++ p.take (j + q))) wb) :
    PutInv J T c p p0 b nb y l wS (j + q) (sliced a q (p.length - j) cap 1) wb := ⟨hj, hJ, slice_v p p0 h.v hj, h.seen, h.yv, h.keep, h.size⟩
theorem take_plus (j q : Nat) : p.take (j + q) = p.take j ++ (p.drop j).take q := List.take_add ..
end
theorem cell_of_heap {w : World} {y : Nat} {cs : Array Value} {t : TypeId} (h : w.heap[y]? = some (.cells cs t (0, 0))) {off : Nat} {v : Value} (hv : cs[off]? = some v) : w.cell? ⟨y, off, none⟩ = some v := by simp [World.cell?, h, hv]
theorem chunks_prefix (c x : List UInt8) : chunksF c <+: chunksF (c ++ x) := by
  have hle : c.length / 64 ≤ (c ++ x).length / 64 := Nat.div_le_div_right (by simp)
  have e : chunksF c = (chunksF (c ++ x)).take (c.length / 64) := by
    unfold chunksF
    rw [← List.map_take, List.take_range, Nat.min_eq_left hle]
    apply List.map_congr_left
    intro i hi
    have hi' := List.mem_range.1 hi
    rw [List.drop_append_of_le_length (by omega), List.take_append_of_le_length (by rw [List.length_drop]; omega)]
  rw [e]; exact List.take_prefix ..
section
variable (J : Jt) (T : List Nat) (c p : List UInt8) (p0 : Value) (b nb y l : Nat) (wS : World) (ALL : List (List UInt8))
/-- What the iterator asks of a round. -/
def YieldOk (P : Program) (J : Jt) (T : List Nat) (b l : Nat) (ALL : List (List UInt8)) : Prop :=
  ∀ pre x w1, J T pre w1 → (pre ++ [x]) <+: ALL → w1.heap[b]? = some (.cells (v8s x).toArray 133 (0, 0)) → YieldAt Fence.wide 0 P l #[.pointer (some ⟨b, 0, none⟩)] w1 fun e w' =>
    e = .returned (.bool true) ∧ J T (pre ++ [x]) w' ∧ w1.heap.size ≤ w'.heap.size ∧ ∀ k, k ∈ T → w'.heap[k]? = w1.heap[k]?
theorem put_yield (hst : ∀ pre w1 w2, J T pre w1 → Mem w1 T [] [] w2 → (∀ k, k ∈ T → k < w2.heap.size) → J T pre w2) (hyl : YieldOk Tryd.prog J T b l ALL)
    (hp : ∀ pre (w1 w2 : World), Seen w1.cell? p0 p.length 1 (v8s p) → J T pre w2 → (∀ k, k ∈ T → w2.heap[k]? = w1.heap[k]?) → Seen w2.cell? p0 p.length 1 (v8s p)) (hpre : chunksF (c ++ p) <+: ALL) (hTl : ∀ k, k ∈ T → k < wS.heap.size)
    (hpb : ∀ k, p0.ownBlock = some k → v8s p ≠ [] → k ≠ b ∧ k ≠ nb) (hbT : b ∈ T) (hnT : nb ∈ T) (hyT : y ∈ T) (hbn : b ≠ nb) (hby : b ≠ y) (hny : nb ≠ y)
    {j q : Nat} {a : Option Addr} {cap : Nat} {wb w : World} {full : List UInt8} {n' : Int} (hI : PutInv J T c p p0 b nb y l wS j (.slice a (p.length - j) cap) wb) (hjq : j + q ≤ p.length) (e1 : chunksF (c ++ p.take (j + q)) = chunksF (c ++ p.take j) ++ [full])
    (h : Mem wb [b, nb] [.blk b 133 (v8s full), .blk nb 3 [.int .i64 n']] [] w) :
    YieldAt Fence.wide 0 Tryd.prog l #[.pointer (some ⟨b, 0, none⟩)] w fun e w' => ∃ u : { u : World // PutInv J T c p p0 b nb y l wS (j + q) (sliced a q (p.length - j) cap 1) u }, e = .returned (.bool true) ∧ Mem u.1 [b, nb] [.blk b 133 (v8s full), .blk nb 3 [.int .i64 n']] [] w' := by
  have hb1 : w.heap[b]? = some (.cells (v8s full).toArray 133 (0, 0)) := h.own _ (List.mem_cons_self ..)
  have hb2 : w.heap[nb]? = some (.cells #[.int .i64 n'] 3 (0, 0)) := h.own (.blk nb 3 [.int .i64 n']) (by simp)
  have hm0 : Mem wb T [] [] w := (h.sub .nil .nil).lend (by intro k hk; simp at hk; rcases hk with rfl | rfl <;> assumption)
  have hJ := hst _ _ _ hI.J hm0 (fun k hk => Nat.lt_of_lt_of_le (hTl k hk) (Nat.le_trans hI.size h.size))
  have hpx : chunksF (c ++ p.take j) ++ [full] <+: ALL := by
    rw [← e1]
    refine List.IsPrefix.trans ?_ hpre
    have := chunks_prefix (c ++ p.take (j + q)) (p.drop (j + q))
    rwa [List.append_assoc, List.take_append_drop] at this
  obtain ⟨fn, tmps, assign, body, hrun, hround⟩ := hyl _ _ _ hJ hpx hb1
  refine ⟨fn, tmps, assign, body, hrun, hround.mono ?_⟩
  rintro e w' ⟨rfl, hJ', hsz, hT⟩
  have hseen := hp _ w w' (h.at2 hI.seen hpb) hJ' hT
  have hyw : w'.heap[y]? = some (.cells #[.func (.yield l) #[] #[]] 131 (0, 0)) := by
    rw [hT y hyT, h.old y (Array.getElem?_eq_some_iff.1 hI.yv).1 (by simp; exact ⟨fun e => hby e.symm, fun e => hny e.symm⟩)]; exact hI.yv
  refine ⟨⟨w', hjq, by rw [e1]; exact hJ', slice_v p p0 hI.v hjq, hseen, hyw, fun k hk h1 h2 => ?_, Nat.le_trans hI.size (Nat.le_trans h.size hsz)⟩, rfl, ?_⟩
  · rw [hT k hk, h.old k (Nat.lt_of_lt_of_le (hTl k hk) hI.size) (by simp; exact ⟨h1, h2⟩)]; exact hI.keep k hk h1 h2
  · exact Mem.startL (Ms := [.blk b 133 (v8s full), .blk nb 3 [.int .i64 n']]) w' (by
      intro e he
      simp at he
      rcases he with rfl | rfl
      · exact (hT b hbT).trans hb1
      · exact (hT nb hnT).trans hb2) (by simp [Ent.num]; exact fun e => hbn e.symm)
theorem put_fin (hst : ∀ pre w1 w2, J T pre w1 → Mem w1 T [] [] w2 → (∀ k, k ∈ T → k < w2.heap.size) → J T pre w2) (hTl : ∀ k, k ∈ T → k < wS.heap.size) (hbT : b ∈ T) (hnT : nb ∈ T) {v : Value} {wb w : World} (hI : PutInv J T c p p0 b nb y l wS p.length v wb)
    (h : Mem wb [b, nb] (putM (c ++ p.take p.length) b nb) [] w) : PutPost J T (c ++ p) b nb wS (.returned (.tuple #[])) w := by
  rw [List.take_length] at h
  have hm0 : Mem wb T [] [] w := (h.sub .nil .nil).lend (by intro k hk; simp at hk; rcases hk with rfl | rfl <;> assumption)
  have hJ := hst _ _ _ hI.J hm0 (fun k hk => Nat.lt_of_lt_of_le (hTl k hk) (Nat.le_trans hI.size h.size))
  rw [List.take_length] at hJ
  refine ⟨rfl, hJ, h.own _ (List.mem_cons_self ..), h.own _ (List.mem_cons_of_mem _ (List.mem_cons_self ..)), fun k hk h1 h2 => ?_, Nat.le_trans hI.size h.size⟩
  rw [h.old k (Nat.lt_of_lt_of_le (hTl k hk) hI.size) (by simp; exact ⟨h1, h2⟩)]; exact hI.keep k hk h1 h2
end
end Go.Proofs.YtoaeklbenmlooaaDoor