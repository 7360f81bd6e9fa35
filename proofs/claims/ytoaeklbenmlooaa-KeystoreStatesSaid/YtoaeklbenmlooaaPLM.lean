/- What is known of memory: blocks and rows of the call's own, facts on what was made and is no more written; and the operations that read, make and write memory. -/
import Derived.Test.YtoaeklbenmlooaaPLD
import Derived.Laws.AppendOwn
import Derived.Laws.Rows
namespace Go.PL
set_option linter.unusedSimpArgs false
set_option linter.unusedVariables false
open Go Go.RowKit

abbrev Rd := Addr → Option Value

inductive Ent where
  | blk (b : Nat) (t : TypeId) (cs : List Value)
  | row (v : Value) (n : Nat) (e : TypeId) (sz : Nat) (xs : List Value)
  | obj (b : Nat) (o : Obj)

def Ent.num : Ent → Option Nat
  | .blk b _ _ => some b
  | .row v _ _ _ _ => v.ownBlock
  | .obj b _ => some b

def Ent.at (w : World) : Ent → Prop
  | .blk b t cs => w.heap[b]? = some (.cells cs.toArray t (0, 0))
  | .row v n e sz xs => w.ownsRow 0 e sz v n xs
  | .obj b o => w.heap[b]? = some o

theorem Ent.lt {w : World} {e : Ent} (h : e.at w) {k : Nat} (hk : e.num = some k) : k < w.heap.size := by
  cases e with
  | blk b t cs =>
    simp only [Ent.num, Option.some.injEq] at hk
    subst hk
    exact (Array.getElem?_eq_some_iff.1 h).1
  | row v n e sz xs => exact (World.ownsRow.lt h k hk).2
  | obj b o =>
    simp only [Ent.num, Option.some.injEq] at hk
    subst hk
    exact (Array.getElem?_eq_some_iff.1 h).1

theorem Ent.kept {w w' : World} {e : Ent} (h : e.at w) (hk : ∀ k, e.num = some k → w'.heap[k]? = w.heap[k]?) : e.at w' := by
  cases e with
  | blk b t cs => exact (hk b rfl).trans h
  | obj b o => exact (hk b rfl).trans h
  | row v n e sz xs =>
    obtain ⟨h1, h2⟩ := h
    refine ⟨h1, ?_⟩
    rcases h2 with hn | ⟨g, cap, cur, rfl, hb, hg, rest⟩
    · exact .inl hn
    · exact .inr ⟨g, cap, cur, rfl, hb, (hk g rfl).trans hg, rest⟩

/-- A fact on what can be read; it stays where more can be read. -/
structure Fact where
  f : Rd → Prop
  mono : ∀ r r' : Rd, (∀ a v, r a = some v → r' a = some v) → f r → f r'

def inM (M : List Ent) (b : Nat) : Bool := M.any fun e => e.num == some b

/-- What can be read of the blocks from B on that none of M owns. -/
def rdF (B : Nat) (M : List Ent) (w : World) : Rd := fun a => if B ≤ a.block ∧ inM M a.block = false then w.cell? a else none

structure Mem (w0 : World) (Ln : List Nat) (M : List Ent) (S : List Fact) (w : World) : Prop where
  os : w.os = w0.os
  tape : w.tape = w0.tape
  output : w.output = w0.output
  size : w0.heap.size ≤ w.heap.size
  old : ∀ k, k < w0.heap.size → k ∉ Ln → w.heap[k]? = w0.heap[k]?
  own : ∀ e ∈ M, e.at w
  new : ∀ e ∈ M, ∀ k, e.num = some k → w0.heap.size ≤ k ∨ k ∈ Ln
  apart : M.Pairwise fun e f => ∀ k, e.num = some k → f.num ≠ some k
  facts : ∀ s ∈ S, s.f (rdF w0.heap.size M w)

/-- What a call has made: rows and blocks of which nobody else knows, and facts on the rest. -/
structure New (B : Nat) (N : List Ent) (T : List Fact) (w : World) : Prop where
  own : ∀ e ∈ N, e.at w
  new : ∀ e ∈ N, ∀ k, e.num = some k → B ≤ k
  apart : N.Pairwise fun e f => ∀ k, e.num = some k → f.num ≠ some k
  facts : ∀ s ∈ T, s.f (rdF B N w)

theorem Mem.start (w : World) : Mem w [] [] [] w :=
  ⟨rfl, rfl, rfl, Nat.le_refl _, fun _ _ _ => rfl, fun _ h => (by cases h), fun _ h => (by cases h), .nil, fun _ h => (by cases h)⟩

theorem inM_iff {M : List Ent} {b : Nat} : inM M b = true ↔ ∃ e ∈ M, e.num = some b := by
  simp [inM, List.any_eq_true]

theorem inM_not {M : List Ent} {b : Nat} (h : inM M b = false) : ∀ e ∈ M, e.num ≠ some b := fun e he hn => by
  have := inM_iff.2 ⟨e, he, hn⟩
  rw [h] at this; cases this

section
variable {w0 w : World} {Ln : List Nat} {M : List Ent} {S : List Fact}

theorem Mem.drew (h : Mem w0 Ln M S w) : Mem w0 Ln M S { w with drawn := w.drawn + 1 } :=
  ⟨h.os, h.tape, h.output, h.size, h.old, h.own, h.new, h.apart, h.facts⟩

/-- The world behind a step that leaves all blocks but those of 'row' as they were. -/
theorem Mem.step {w' : World} {M' : List Ent} (h : Mem w0 Ln M S w) (hos : w'.os = w.os) (htape : w'.tape = w.tape) (hout : w'.output = w.output) (hsz : w.heap.size ≤ w'.heap.size)
    (hb : ∀ k, k < w.heap.size → (k < w0.heap.size → k ∉ Ln) → inM M k = false → w'.heap[k]? = w.heap[k]?)
    (hown : ∀ e ∈ M', e.at w') (hnew : ∀ e ∈ M', ∀ k, e.num = some k → w0.heap.size ≤ k ∨ k ∈ Ln) (hap : M'.Pairwise fun e f => ∀ k, e.num = some k → f.num ≠ some k)
    (hM : ∀ k, k < w.heap.size → inM M k = false → inM M' k = false) : Mem w0 Ln M' S w' := by
  refine ⟨hos.trans h.os, htape.trans h.tape, hout.trans h.output, Nat.le_trans h.size hsz, fun k hk hl => ?_, hown, hnew, hap, fun s hs => s.mono _ _ (fun a v hv => ?_) (h.facts s hs)⟩
  · have hnot : inM M k = false := by
      cases hm : inM M k
      · rfl
      · obtain ⟨e, he, hn⟩ := inM_iff.1 hm
        rcases h.new e he k hn with h1 | h1
        · omega
        · exact absurd h1 hl
    exact (hb k (Nat.lt_of_lt_of_le hk h.size) (fun _ => hl) hnot).trans (h.old k hk hl)
  · simp only [rdF] at hv ⊢
    split at hv
    · rename_i hc
      have hlt := World.block_lt_of_cell? w a hv
      rw [if_pos ⟨hc.1, hM _ hlt hc.2⟩]
      rw [World.cell?_of_block (hb a.block hlt (fun h' => by omega) hc.2)]
      exact hv
    · cases hv

theorem Mem.alloc (h : Mem w0 Ln M S w) (t : TypeId) (cs : List Value) : Mem w0 Ln (.blk w.heap.size t cs :: M) S (w.alloc (.cells cs.toArray t)) := by
  have hlt : ∀ e ∈ M, ∀ k, e.num = some k → k < w.heap.size := fun e he k hk => Ent.lt (h.own e he) hk
  refine h.step rfl rfl rfl (by simp) (fun k hk _ _ => heap_alloc_old w _ k hk) ?_ ?_ ?_ ?_
  · intro e he
    rcases List.mem_cons.1 he with rfl | he
    · exact heap_alloc_new w _
    · exact Ent.kept (h.own e he) fun k hk => heap_alloc_old w _ k (hlt e he k hk)
  · intro e he k hk
    rcases List.mem_cons.1 he with rfl | he
    · simp only [Ent.num, Option.some.injEq] at hk; subst hk; exact .inl h.size
    · exact h.new e he k hk
  · refine List.pairwise_cons.2 ⟨fun f hf k hk hfk => ?_, h.apart⟩
    simp only [Ent.num, Option.some.injEq] at hk
    have := hlt f hf k hfk
    omega
  · intro k hk hm
    simp only [inM, List.any_cons, Bool.or_eq_false_iff]
    refine ⟨?_, hm⟩
    simp [Ent.num]; omega

/-- An entry in the place of another one. -/
inductive Repl {α : Type} : List α → α → α → List α → Prop where
  | here {x y : α} {l : List α} : Repl (x :: l) x y (y :: l)
  | there {x y z : α} {l l' : List α} : Repl l x y l' → Repl (z :: l) x y (z :: l')

theorem Repl.mem {α : Type} {l l' : List α} {x y : α} (h : Repl l x y l') : x ∈ l := by
  induction h with
  | here => simp
  | there _ ih => exact List.mem_cons_of_mem _ ih
theorem Repl.mem' {α : Type} {l l' : List α} {x y : α} (h : Repl l x y l') : ∀ z ∈ l', z = y ∨ z ∈ l := by
  induction h with
  | here => intro z hz; rcases List.mem_cons.1 hz with rfl | hz; exact .inl rfl; exact .inr (List.mem_cons_of_mem _ hz)
  | there _ ih =>
    intro z hz
    rcases List.mem_cons.1 hz with rfl | hz
    · exact .inr (List.mem_cons_self ..)
    · exact (ih z hz).imp id (List.mem_cons_of_mem _)

theorem Repl.apart {l l' : List Ent} {x y : Ent} (h : Repl l x y l') (ha : l.Pairwise fun e f => ∀ k, e.num = some k → f.num ≠ some k)
    (hy : ∀ z ∈ l, ∀ k, y.num = some k → z.num = some k → x.num = some k) : l'.Pairwise fun e f => ∀ k, e.num = some k → f.num ≠ some k := by
  induction h with
  | here =>
    rename_i x y l
    obtain ⟨h1, h2⟩ := List.pairwise_cons.1 ha
    refine List.pairwise_cons.2 ⟨fun f hf k hk hfk => ?_, h2⟩
    exact h1 f hf k (hy f (List.mem_cons_of_mem _ hf) k hk hfk) hfk
  | there hr ih =>
    obtain ⟨h1, h2⟩ := List.pairwise_cons.1 ha
    refine List.pairwise_cons.2 ⟨fun f hf k hk hfk => ?_, ih h2 fun z hz => hy z (List.mem_cons_of_mem _ hz)⟩
    rcases hr.mem' f hf with rfl | hf'
    · have := hy _ (List.mem_cons_self ..) k hfk hk
      exact h1 _ hr.mem k hk this
    · exact h1 f hf' k hk hfk

theorem Repl.others {l l' : List Ent} {x y : Ent} (h : Repl l x y l') (ha : l.Pairwise fun e f => ∀ k, e.num = some k → f.num ≠ some k) :
    ∀ z ∈ l', z = y ∨ (z ∈ l ∧ ∀ k, z.num = some k → x.num ≠ some k) := by
  induction h with
  | here =>
    obtain ⟨h1, h2⟩ := List.pairwise_cons.1 ha
    intro z hz
    rcases List.mem_cons.1 hz with rfl | hz
    · exact .inl rfl
    · exact .inr ⟨List.mem_cons_of_mem _ hz, fun k hk hx => h1 z hz k hx hk⟩
  | there hr ih =>
    obtain ⟨h1, h2⟩ := List.pairwise_cons.1 ha
    intro z hz
    rcases List.mem_cons.1 hz with rfl | hz
    · exact .inr ⟨List.mem_cons_self .., fun k hk hx => h1 _ hr.mem k hk hx⟩
    · exact (ih h2 z hz).imp id fun ⟨a, b⟩ => ⟨List.mem_cons_of_mem _ a, b⟩

/-- One entry turns: its own block, or into a new block. -/
theorem Mem.turn {w' : World} {M' : List Ent} {x y : Ent} (h : Mem w0 Ln M S w) (hr : Repl M x y M') (hos : w'.os = w.os) (htape : w'.tape = w.tape) (hout : w'.output = w.output) (hsz : w.heap.size ≤ w'.heap.size)
    (hb : ∀ k, k < w.heap.size → x.num ≠ some k → w'.heap[k]? = w.heap[k]?) (hy : y.at w') (hyn : ∀ k, y.num = some k → x.num = some k ∨ w.heap.size ≤ k) : Mem w0 Ln M' S w' := by
  have hlt : ∀ e ∈ M, ∀ k, e.num = some k → k < w.heap.size := fun e he k hk => Ent.lt (h.own e he) hk
  refine h.step hos htape hout hsz (fun k hk _ hm => hb k hk (inM_not hm _ hr.mem)) ?_ ?_ ?_ ?_
  · intro e he
    rcases hr.others h.apart e he with rfl | ⟨he, hne⟩
    · exact hy
    · exact Ent.kept (h.own e he) fun k hk => hb k (hlt e he k hk) (hne k hk)
  · intro e he k hk
    rcases hr.mem' e he with rfl | he
    · rcases hyn k hk with h1 | h1
      · exact h.new _ hr.mem k h1
      · exact .inl (Nat.le_trans h.size h1)
    · exact h.new e he k hk
  · refine hr.apart h.apart fun z hz k hyk hzk => ?_
    rcases hyn k hyk with h1 | h1
    · exact h1
    · have := hlt z hz k hzk; omega
  · intro k hk hm
    cases hm' : inM M' k
    · rfl
    · obtain ⟨e, he, hn⟩ := inM_iff.1 hm'
      rcases hr.mem' e he with rfl | he
      · rcases hyn k hn with h1 | h1
        · exact absurd h1 (inM_not hm _ hr.mem)
        · omega
      · exact absurd hn (inM_not hm e he)

/-- Behind a call that leaves all that was there as it was, with what it has made. -/
theorem Mem.call {w' : World} {N : List Ent} {T : List Fact} (h : Mem w0 Ln M S w) (hb : Below w.heap.size w w') (hn : New w.heap.size N T w') : Mem w0 Ln (N ++ M) (T ++ S) w' := by
  have hlt : ∀ e ∈ M, ∀ k, e.num = some k → k < w.heap.size := fun e he k hk => Ent.lt (h.own e he) hk
  have key : Mem w0 Ln (N ++ M) S w' := by
    refine h.step hb.os hb.tape hb.output hb.size (fun k hk _ _ => hb.block k hk) ?_ ?_ ?_ ?_
    · intro e he
      rcases List.mem_append.1 he with he | he
      · exact hn.own e he
      · exact Ent.kept (h.own e he) fun k hk => hb.block k (hlt e he k hk)
    · intro e he k hk
      rcases List.mem_append.1 he with he | he
      · exact .inl (Nat.le_trans h.size (hn.new e he k hk))
      · exact h.new e he k hk
    · refine List.pairwise_append.2 ⟨hn.apart, h.apart, fun a ha b hb k hk hbk => ?_⟩
      have h1 := hn.new a ha k hk
      have h2 := hlt b hb k hbk
      omega
    · intro k hk hm
      cases hm' : inM (N ++ M) k
      · rfl
      · obtain ⟨e, he, hnum⟩ := inM_iff.1 hm'
        rcases List.mem_append.1 he with he | he
        · have := hn.new e he k hnum; omega
        · exact absurd hnum (inM_not hm e he)
  refine { key with facts := fun s hs => ?_ }
  rcases List.mem_append.1 hs with hs | hs
  · refine s.mono _ _ (fun a v hv => ?_) (hn.facts s hs)
    simp only [rdF] at hv ⊢
    split at hv
    · rename_i hc
      have hin : inM (N ++ M) a.block = false := by
        cases hm' : inM (N ++ M) a.block
        · rfl
        · obtain ⟨e, he, hnum⟩ := inM_iff.1 hm'
          rcases List.mem_append.1 he with he | he
          · exact absurd hnum (inM_not hc.2 e he)
          · have := hlt e he _ hnum; omega
      rw [if_pos ⟨Nat.le_trans h.size hc.1, hin⟩]
      exact hv
    · cases hv
  · exact key.facts s hs

/-- Fewer entries, fewer facts: what isn't owned any more can be read. -/
inductive Sub {α : Type} : List α → List α → Prop where
  | nil {l : List α} : Sub [] l
  | keep {x : α} {l l' : List α} : Sub l l' → Sub (x :: l) (x :: l')
  | drop {x : α} {l l' : List α} : Sub l l' → Sub l (x :: l')
theorem Sub.sublist {α : Type} {l l' : List α} (h : Sub l l') : l.Sublist l' := by
  induction h with
  | nil => exact List.nil_sublist _
  | keep _ ih => exact ih.cons_cons _
  | drop _ ih => exact ih.cons _
theorem Sub.mem {α : Type} {l l' : List α} (h : Sub l l') : ∀ x, x ∈ l → x ∈ l' := fun _ hx => h.sublist.subset hx
theorem Sub.refl {α : Type} : ∀ (l : List α), Sub l l
  | [] => .nil
  | _ :: l => .keep (Sub.refl l)

theorem Mem.sub {M' : List Ent} {S' : List Fact} (h : Mem w0 Ln M S w) (hM : Sub M' M) (hS : Sub S' S) : Mem w0 Ln M' S' w := by
  refine ⟨h.os, h.tape, h.output, h.size, h.old, fun e he => h.own e (hM.mem e he), fun e he => h.new e (hM.mem e he), h.apart.sublist hM.sublist, fun s hs => s.mono _ _ (fun a v hv => ?_) (h.facts s (hS.mem s hs))⟩
  simp only [rdF] at hv ⊢
  split at hv
  · rename_i hc
    have hin : inM M' a.block = false := by
      cases hm' : inM M' a.block
      · rfl
      · obtain ⟨e, he, hnum⟩ := inM_iff.1 hm'
        exact absurd hnum (inM_not hc.2 e (hM.mem e he))
    rw [if_pos ⟨hc.1, hin⟩]
    exact hv
  · cases hv

theorem Mem.below (h : Mem w0 [] M S w) : Below w0.heap.size w0 w := ⟨h.os, h.tape, h.output, h.size, fun k hk => h.old k hk (by simp)⟩

theorem Mem.made {N : List Ent} {T : List Fact} (h : Mem w0 [] M S w) (hM : Sub N M) (hS : Sub T S) : New w0.heap.size N T w :=
  let h' := h.sub hM hS
  ⟨h'.own, fun e he k hk => (h'.new e he k hk).resolve_right (by simp), h'.apart, h'.facts⟩

/-- The blocks of entries. -/
def nums : List Ent → List Nat
  | [] => []
  | e :: r => match e.num with
    | some k => k :: nums r
    | none => nums r
theorem mem_nums {M : List Ent} {k : Nat} : k ∈ nums M ↔ ∃ e ∈ M, e.num = some k := by
  induction M with
  | nil => simp [nums]
  | cons e r ih =>
    simp only [nums]
    cases hn : e.num with
    | none => simp [ih, hn]
    | some j => simp [ih, hn, eq_comm]
/-- From here on: what one owns is lent, all else lies as it lies. -/
theorem Mem.base (h : Mem w0 Ln M S w) : Mem w (nums M) M [] w :=
  ⟨rfl, rfl, rfl, Nat.le_refl _, fun _ _ _ => rfl, h.own, fun e he k hk => .inr (mem_nums.2 ⟨e, he, hk⟩), h.apart, fun _ hs => (by cases hs)⟩
/-- Two stretches are one. -/
theorem Mem.trans {w1 : World} {M' : List Ent} {S' : List Fact} (h1 : Mem w0 Ln M S w1) (h2 : Mem w1 (nums M) M' S' w) : Mem w0 Ln M' [] w := by
  refine ⟨h2.os.trans h1.os, h2.tape.trans h1.tape, h2.output.trans h1.output, Nat.le_trans h1.size h2.size, fun k hk hl => ?_, h2.own, fun e he k hk => ?_, h2.apart, fun _ hs => (by cases hs)⟩
  · refine (h2.old k (Nat.lt_of_lt_of_le hk h1.size) fun hm => ?_).trans (h1.old k hk hl)
    obtain ⟨e, he, hn⟩ := mem_nums.1 hm
    rcases h1.new e he k hn with h | h
    · omega
    · exact hl h
  · rcases h2.new e he k hk with h | h
    · exact .inl (Nat.le_trans h1.size h)
    · obtain ⟨e', he', hn⟩ := mem_nums.1 h
      exact h1.new e' he' k hn
/-- More is lent. -/
theorem Mem.lend {Ln' : List Nat} (h : Mem w0 Ln M S w) (hl : ∀ k, k ∈ Ln → k ∈ Ln') : Mem w0 Ln' M S w :=
  ⟨h.os, h.tape, h.output, h.size, fun k hk hn => h.old k hk fun hm => hn (hl k hm), h.own, fun e he k hk => (h.new e he k hk).imp id (hl k), h.apart, h.facts⟩
/-- Others have turned blocks of theirs. -/
theorem Mem.chg {w1 : World} {T : List Nat} (h : Mem w0 Ln M S w1) (h2 : Mem w1 T [] [] w) (hT : ∀ k, k ∈ T → w0.heap.size ≤ k ∧ inM M k = false) : Mem w0 Ln M [] w := by
  refine ⟨h2.os.trans h.os, h2.tape.trans h.tape, h2.output.trans h.output, Nat.le_trans h.size h2.size, fun k hk hl => ?_, fun e he => ?_, h.new, h.apart, fun _ hs => (by cases hs)⟩
  · exact (h2.old k (Nat.lt_of_lt_of_le hk h.size) fun hm => by have := (hT k hm).1; omega).trans (h.old k hk hl)
  · exact Ent.kept (h.own e he) fun k hk => h2.old k (Ent.lt (h.own e he) hk) fun hm => inM_not (hT k hm).2 e he hk
/-- Blocks that are lent to a function. -/
theorem Mem.startL {Ms : List Ent} (w : World) (h : ∀ e ∈ Ms, e.at w) (ha : Ms.Pairwise fun e f => ∀ k, e.num = some k → f.num ≠ some k) : Mem w (nums Ms) Ms [] w :=
  ⟨rfl, rfl, rfl, Nat.le_refl _, fun _ _ _ => rfl, h, fun e he k hk => .inr (mem_nums.2 ⟨e, he, hk⟩), ha, fun _ hs => (by cases hs)⟩
theorem Mem.start1 {b : Nat} {t : TypeId} {cs : List Value} (w : World) (h : w.heap[b]? = some (.cells cs.toArray t (0, 0))) : Mem w [b] [.blk b t cs] [] w :=
  Mem.startL (Ms := [.blk b t cs]) w (by intro e he; simp at he; subst he; exact h) (by simp)
/-- Behind a call that has turned one lent block. -/
theorem Mem.lent1 {w' : World} {M' : List Ent} {b : Nat} {t t' : TypeId} {cs cs' : List Value} (h : Mem w0 Ln M S w) (hr : Repl M (.blk b t cs) (.blk b t' cs') M') (h2 : Mem w [b] [.blk b t' cs'] [] w') : Mem w0 Ln M' S w' := by
  refine h.turn hr h2.os h2.tape h2.output h2.size (fun k hk hne => h2.old k hk ?_) (h2.own _ (List.mem_cons_self ..)) ?_
  · intro hm; simp at hm; exact hne (by simp [Ent.num, hm])
  · intro k hk; exact .inl hk

/-- A cell of a block of one's own. -/
theorem Mem.cell_blk (h : Mem w0 Ln M S w) {b : Nat} {t : TypeId} {cs : List Value} (hm : Ent.blk b t cs ∈ M) {off : Nat} {v : Value} (hv : cs[off]? = some v) : w.cell? ⟨b, off, none⟩ = some v := by
  have : w.heap[b]? = some (.cells cs.toArray t (0, 0)) := h.own _ hm
  simp [World.cell?, this, hv]
theorem Mem.cell_row (h : Mem w0 Ln M S w) {g n cap : Nat} {e : TypeId} {sz : Nat} {xs : List Value} (hm : Ent.row (.slice (some ⟨g, 0, none⟩) n cap) n e sz xs ∈ M) {j : Nat} {v : Value} (hv : xs[j]? = some v) :
    w.cell? ((⟨g, 0, none⟩ : Addr).add j) = some v := World.ownsRow.cells (h.own _ hm) rfl j v hv
theorem Mem.cell_old (h : Mem w0 [] M S w) {a : Addr} {v : Value} (hv : w0.cell? a = some v) : w.cell? a = some v :=
  (World.cell?_of_block (h.old a.block (World.block_lt_of_cell? w0 a hv) (by simp))).trans hv
theorem Mem.cell_oldL (h : Mem w0 Ln M S w) {a : Addr} {v : Value} (hv : w0.cell? a = some v) (hl : a.block ∉ Ln) : w.cell? a = some v :=
  (World.cell?_of_block (h.old a.block (World.block_lt_of_cell? w0 a hv) hl)).trans hv
theorem Mem.fact (h : Mem w0 Ln M S w) {s : Fact} (hs : s ∈ S) : s.f w.cell? := by
  refine s.mono _ _ (fun a v hv => ?_) (h.facts s hs)
  simp only [rdF] at hv
  split at hv
  · exact hv
  · cases hv
end
end Go.PL
