/- The iterator over blocks: what it yields, and a call of put within it. -/
import Derived.Test.YtoaeklbenmlooaaDoorD4
namespace Go.Proofs.YtoaeklbenmlooaaDoor
set_option linter.unusedSimpArgs false
set_option linter.unusedVariables false
open Go Go.PL Go.RowKit
def setLen (buf : List UInt8) (x : UInt64) : Nat → List UInt8
  | 0 => buf
  | i + 1 => (setLen buf x i).set (56 + i) (of8 (sr64 x (56 - 8 * i)).toNat)
theorem setLen_length (buf : List UInt8) (x : UInt64) : ∀ i, (setLen buf x i).length = buf.length
  | 0 => rfl
  | i + 1 => by simp [setLen, setLen_length buf x i]
/-- Bytes, the mark behind them, and zeros where the length has no room. -/
def cF (a : List UInt8) : List UInt8 := if (a ++ [128]).length % 64 > 56 then (a ++ [128]) ++ List.replicate (64 - (a ++ [128]).length % 64) 0 else a ++ [128]
def lenF : List (List UInt8) → UInt64
  | [] => 0
  | p :: r => of64 p.length + lenF r
def lenN (ps : List (List UInt8)) : Nat → UInt64
  | 0 => 0
  | i + 1 => lenN ps i + of64 (ps.getD i []).length
def blocksF (ps : List (List UInt8)) : List (List UInt8) := chunksF (cF ps.flatten) ++ [setLen (bufF (cF ps.flatten)) (lenN ps ps.length * 8) 8]
/-- Parts that can be read. -/
def Parts (r : Rd) (v : Value) (ps : List (Value × List UInt8)) : Prop := Seen r v ps.length 1 (ps.map Prod.fst) ∧ ∀ q ∈ ps, Seen r q.1 q.2.length 1 (v8s q.2)
def encB (_ : List UInt8) (b : Nat) : Array Value := #[.pointer (some ⟨b, 0, none⟩)]
def AtB (T : List Nat) (x : List UInt8) (b : Nat) (w : World) : Prop := b ∈ T ∧ w.heap[b]? = some (.cells (v8s x).toArray 133 (0, 0))
def InvB (pb : Nat) (v : Value) (ps : List (Value × List UInt8)) (w : World) : Prop := w.heap[pb]? = some (.cells #[v] 111 (0, 0)) ∧ Parts w.cell? v ps
/-- The blocks of the iterator. -/
def blkM (l : Nat) (c : List UInt8) (b nb y : Nat) : List Ent := [.blk nb 3 [.int .i64 ((c.length % 64 : Nat) : Int)], .blk b 133 (v8s (bufF c)), .blk y 131 [.func (.yield l) #[] #[]]]
structure ItInv (J : Jt) (W : World) (c : List UInt8) (b nb y l : Nat) (wb : World) : Prop where
  J : J [nb, b, y] (chunksF c) wb
  b : W.heap.size ≤ b
  nb : W.heap.size ≤ nb
  y : W.heap.size ≤ y
/-- Stability of the caller's invariant. -/
def Stab (J : Jt) : Prop := ∀ T T' pre w1 w2, J T pre w1 → Mem w1 T [] [] w2 → (∀ k, k ∈ T' → (k ∈ T ∨ w1.heap.size ≤ k) ∧ k < w2.heap.size) → J T' pre w2
theorem put_at (J : Jt) (W : World) (l : Nat) (ALL : List (List UInt8)) (pb : Nat) (pv : Value) (ps : List (Value × List UInt8)) (hst : Stab J) (hyl : ∀ T b, b ∈ T → YieldOk Tryd.prog J T b l ALL)
    {c p : List UInt8} {p0 : Value} {b nb y : Nat} {wb w : World} {X : List Ent} (hI : ItInv J W c b nb y l wb) (h : Mem wb [nb, b, y] (X ++ blkM l c b nb y) [] w) 
    (hpre : chunksF (c ++ p) <+: ALL) (hs : Seen w.cell? p0 p.length 1 (v8s p)) (hpb : ∀ k, p0.ownBlock = some k → v8s p ≠ [] → k ≠ b ∧ k ≠ nb)
    (hp : ∀ pre (w1 w2 : World), Seen w1.cell? p0 p.length 1 (v8s p) → J (nums X ++ [nb, b, y]) pre w2 → (∀ k, k ∈ nums X ++ [nb, b, y] → w2.heap[k]? = w1.heap[k]?) → Seen w2.cell? p0 p.length 1 (v8s p)) :
    Calls Tryd.prog 71 #[p0, .pointer (some ⟨b, 0, none⟩), .pointer (some ⟨nb, 0, none⟩), .pointer (some ⟨y, 0, none⟩)] w fun e w' =>
      ∃ u : { u : World // ItInv J W (c ++ p) b nb y l u }, e = .returned (.tuple #[]) ∧ Mem u.1 [nb, b, y] (blkM l (c ++ p) b nb y) [] w' := by
  have hn : w.heap[nb]? = some (.cells #[.int .i64 ((c.length % 64 : Nat) : Int)] 3 (0, 0)) := h.own (.blk nb 3 [.int .i64 ((c.length % 64 : Nat) : Int)]) (by simp [blkM])
  have hb : w.heap[b]? = some (.cells (v8s (bufF c)).toArray 133 (0, 0)) := h.own (.blk b 133 (v8s (bufF c))) (by simp [blkM])
  have hy : w.heap[y]? = some (.cells #[.func (.yield l) #[] #[]] 131 (0, 0)) := h.own (.blk y 131 [.func (.yield l) #[] #[]]) (by simp [blkM])
  have hap := (List.pairwise_append.1 h.apart).2.1
  simp only [blkM, List.pairwise_cons, List.mem_cons, List.mem_nil_iff, or_false, Ent.num, Option.some.injEq, forall_eq_or_imp, forall_eq] at hap
  have hnb : nb ≠ b := fun e => (hap.1.1 nb rfl) (congrArg some e.symm)
  have hny : nb ≠ y := fun e => (hap.1.2 nb rfl) (congrArg some e.symm)
  have hby : b ≠ y := fun e => (hap.2.1 b rfl) (congrArg some e.symm)
  have hTl : ∀ k, k ∈ nums X ++ [nb, b, y] → k < w.heap.size := by
    intro k hk
    rcases List.mem_append.1 hk with hk | hk
    · obtain ⟨e, he, hne⟩ := mem_nums.1 hk
      exact Ent.lt (h.own e (List.mem_append_left _ he)) hne
    · simp at hk
      rcases hk with rfl | rfl | rfl
      · exact (Array.getElem?_eq_some_iff.1 hn).1
      · exact (Array.getElem?_eq_some_iff.1 hb).1
      · exact (Array.getElem?_eq_some_iff.1 hy).1
  have hX : ∀ k, k ∈ nums X → wb.heap.size ≤ k := fun k hk => by
    obtain ⟨e, he, hne⟩ := mem_nums.1 hk
    rcases h.new e (List.mem_append_left _ he) k hne with h1 | h1
    · exact h1
    · have hxx := (List.pairwise_append.1 h.apart).2.2 e he
      simp at h1
      rcases h1 with rfl | rfl | rfl
      · exact absurd rfl (hxx (.blk k 3 [.int .i64 ((c.length % 64 : Nat) : Int)]) (by simp [blkM]) k hne)
      · exact absurd rfl (hxx (.blk k 133 (v8s (bufF c))) (by simp [blkM]) k hne)
      · exact absurd rfl (hxx (.blk k 131 [.func (.yield l) #[] #[]]) (by simp [blkM]) k hne)
  have hJ : J (nums X ++ [nb, b, y]) (chunksF c) w := hst _ _ _ _ _ hI.J (h.sub .nil .nil) fun k hk => ⟨(List.mem_append.1 hk).symm.imp id (hX k), hTl k hk⟩
  refine (put J (nums X ++ [nb, b, y]) c p p0 b nb y l w ALL (fun pre w1 w2 h1 h2 h3 => hst _ _ _ _ _ h1 h2 fun k hk => ⟨.inl hk, h3 k hk⟩) (hyl _ _ (by simp)) hp hpre hTl hpb (by simp) (by simp) (by simp) hnb.symm hby hny hJ hs hb hn hy).mono ?_
  rintro e w' ⟨rfl, j1, j2, j3, j4, j5⟩
  have hy' : w'.heap[y]? = some (.cells #[.func (.yield l) #[] #[]] 131 (0, 0)) := (j4 y (by simp) hby.symm hny.symm).trans hy
  refine ⟨⟨w', hst _ _ _ _ _ j1 ((Mem.start w').lend (by simp)) (fun k hk => ⟨.inl (List.mem_append_right _ hk), ?_⟩), hI.b, hI.nb, hI.y⟩, rfl, ?_⟩
  · exact Nat.lt_of_lt_of_le (hTl k (List.mem_append_right _ hk)) j5
  · exact Mem.startL (Ms := blkM l (c ++ p) b nb y) w' (by
      intro e he
      simp only [blkM, List.mem_cons, List.mem_nil_iff, or_false] at he
      rcases he with rfl | rfl | rfl
      · exact j3
      · exact j2
      · exact hy') (by simp [blkM, Ent.num]; exact ⟨⟨hnb.symm, hny.symm⟩, hby.symm⟩)
theorem addr_block (a : Addr) (i : Nat) : (a.add i).block = a.block := by unfold Addr.add; split <;> rfl
theorem cF_pre (a : List UInt8) : ∃ x, a ++ [128] ++ x = cF a := by
  unfold cF
  split
  · exact ⟨_, rfl⟩
  · exact ⟨[], by simp⟩
theorem pre_all (ps : List (List UInt8)) (c : List UInt8) (h : ∃ x, c ++ x = cF ps.flatten) : chunksF c <+: blocksF ps := by
  obtain ⟨x, hx⟩ := h
  unfold blocksF
  rw [← hx]
  exact (chunks_prefix c x).trans (List.prefix_append _ _)
theorem pre_take (ps : List (List UInt8)) (i : Nat) : ∃ x, (ps.take i).flatten ++ x = cF ps.flatten := by
  obtain ⟨x, hx⟩ := cF_pre ps.flatten
  refine ⟨(ps.drop i).flatten ++ ([128] ++ x), ?_⟩
  rw [← hx, ← List.append_assoc, ← List.flatten_append, List.take_append_drop, List.append_assoc]
theorem take_succ_flat (ps : List (List UInt8)) (i : Nat) (h : i < ps.length) : (ps.take (i + 1)).flatten = (ps.take i).flatten ++ ps.getD i [] := by
  have e : ps.take (i + 1) = ps.take i ++ [ps.getD i []] := by rw [List.take_add_one]; simp [h]
  rw [e]; simp
theorem cF_full (a : List UInt8) (h : (a ++ [128]).length % 64 > 56) : cF a = (a ++ [128]) ++ List.replicate (64 - (a ++ [128]).length % 64) 0 := if_pos h
theorem cF_room (a : List UInt8) (h : ¬ (a ++ [128]).length % 64 > 56) : cF a = a ++ [128] := if_neg h
end Go.Proofs.YtoaeklbenmlooaaDoor