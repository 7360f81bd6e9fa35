/- Slices: what can be read of them; rows of one's own; slicing, making, appending, copying; and builds. -/
import Derived.Test.YtoaeklbenmlooaaPLE
import Derived.Laws.OwnMore
import Derived.Laws.Slices
import Derived.Laws.Tables
import Derived.Great.BuildSlice
import Derived.Lib.AppendStr
import Derived.Laws.IdiomCopy
namespace Go.PL
set_option linter.unusedSimpArgs false
set_option linter.unusedVariables false
open Go Go.RowKit

section
variable {P : Program} {n : Cx} {R : World → Prop} {L : Slots} {Q : Exit → Act → World → Prop} {ops : Array Oper} {rest : List Oper}

/-! ### What is known of the world, at a place -/
theorem wpl_fact {p : Prop} (h : ∀ w, R w → p) (k : p → WPL P ops Q n R L rest) : WPL P ops Q n R L rest := fun a w hs hr => k (h w hr) a w hs hr
theorem wpc_fact {c : Code} {p : Prop} (h : ∀ w, R w → p) (k : p → WPC P Q n R L c) : WPC P Q n R L c := fun a w hs hr => k (h w hr) a w hs hr
theorem ex_fact {e : Exit} {p : Prop} (h : ∀ w, R w → p) (k : p → EX Q e n R L) : EX Q e n R L := fun a w hs hr => k (h w hr) a w hs hr
theorem wpl_mono {R' : World → Prop} (h : ∀ w, R w → R' w) (k : WPL P ops Q n R' L rest) : WPL P ops Q n R L rest := fun a w hs hr => k a w hs (h w hr)
theorem wpc_mono {c : Code} {R' : World → Prop} (h : ∀ w, R w → R' w) (k : WPC P Q n R' L c) : WPC P Q n R L c := fun a w hs hr => k a w hs (h w hr)
theorem ex_mono {e : Exit} {R' : World → Prop} (h : ∀ w, R w → R' w) (k : EX Q e n R' L) : EX Q e n R L := fun a w hs hr => k a w hs (h w hr)

/-- A slice of n elements whose cells can be read. -/
def Seen (r : Rd) (v : Value) (m sz : Nat) (vs : List Value) : Prop :=
  vs.length = m * sz ∧ ∃ a cap, v = .slice a m cap ∧ m ≤ cap ∧ cap ≤ maxLen ∧ ((a = none ∧ cap = 0) ∨ ∃ ad, a = some ad ∧ CellsAt r ad vs)
theorem Seen.mono {r r' : Rd} (hr : ∀ a v, r a = some v → r' a = some v) {v : Value} {m sz : Nat} {vs : List Value} (h : Seen r v m sz vs) : Seen r' v m sz vs := by
  obtain ⟨h1, a, cap, h2, h3, h4, h5⟩ := h
  refine ⟨h1, a, cap, h2, h3, h4, ?_⟩
  rcases h5 with h5 | ⟨ad, h5, h6⟩
  · exact .inl h5
  · exact .inr ⟨ad, h5, h6.mono hr⟩
def seen (v : Value) (m sz : Nat) (vs : List Value) : Fact := ⟨fun r => Seen r v m sz vs, fun _ _ hr h => h.mono hr⟩
def cellsF (a : Addr) (vs : List Value) : Fact := ⟨fun r => CellsAt r a vs, fun _ _ hr h => h.mono hr⟩

theorem Seen.form {r : Rd} {v : Value} {m sz : Nat} {vs : List Value} (h : Seen r v m sz vs) : ∃ a cap, v = .slice a m cap ∧ m ≤ cap ∧ cap ≤ maxLen ∧ (a = none → cap = 0) := by
  obtain ⟨h1, a, cap, h2, h3, h4, h5⟩ := h
  refine ⟨a, cap, h2, h3, h4, fun ha => ?_⟩
  rcases h5 with h5 | ⟨ad, h5, h6⟩
  · exact h5.2
  · rw [ha] at h5; cases h5
theorem Seen.form1 {r : Rd} {v : Value} {m sz : Nat} {vs : List Value} (h : Seen r v m sz vs) (hm : 0 < m) : ∃ ad cap, v = .slice (some ad) m cap ∧ m ≤ cap ∧ cap ≤ maxLen := by
  obtain ⟨a, cap, h1, h2, h3, h4⟩ := h.form
  cases a with
  | none => have := h4 rfl; omega
  | some ad => exact ⟨ad, cap, h1, h2, h3⟩
theorem Seen.cell {r : Rd} {ad : Addr} {cap m sz : Nat} {vs : List Value} (h : Seen r (.slice (some ad) m cap) m sz vs) {j : Nat} {u : Value} (hj : vs[j]? = some u) : r (ad.add j) = some u := by
  obtain ⟨h1, a, cap, h2, h3, h4, h5⟩ := h
  simp at h2
  rcases h5 with h5 | ⟨ad', h5, h6⟩
  · obtain ⟨rfl, rfl⟩ := h2; cases h5.1
  · obtain ⟨rfl, rfl⟩ := h2; cases h5; exact h6 j u hj
theorem Seen.cells {r : Rd} {ad : Addr} {cap m sz : Nat} {vs : List Value} (h : Seen r (.slice (some ad) m cap) m sz vs) : CellsAt r ad vs := fun j u hj => h.cell hj
theorem Seen.len {r : Rd} {v : Value} {m sz : Nat} {vs : List Value} (h : Seen r v m sz vs) : vs.length = m * sz := h.1
theorem Seen.cap {r : Rd} {a : Option Addr} {cap m sz : Nat} {vs : List Value} (h : Seen r (.slice a m cap) m sz vs) : m ≤ cap ∧ cap ≤ maxLen ∧ (a = none → cap = 0) := by
  obtain ⟨a', cap', h1, h2, h3, h4⟩ := h.form
  simp at h1; obtain ⟨rfl, rfl⟩ := h1; exact ⟨h2, h3, h4⟩
theorem seen_nil (r : Rd) (sz : Nat) : Seen r (.slice none 0 0) 0 sz [] := ⟨by simp, none, 0, rfl, Nat.le_refl _, Nat.zero_le _, .inl ⟨rfl, rfl⟩⟩
theorem addr_add_add (a : Addr) (i j : Nat) : (a.add i).add j = a.add (i + j) := by
  unfold Addr.add
  by_cases hi : i = 0 <;> by_cases hj : j = 0 <;> simp [hi, hj, Nat.add_assoc]
theorem addr_add_zero (a : Addr) : a.add 0 = a := by
  cases a with
  | mk b o s =>
    cases s with
    | none => simp [Addr.add]
    | some s => simp [Addr.add]
/-- A part of a slice. -/
theorem Seen.slice {r : Rd} {a : Option Addr} {cap m sz : Nat} {vs : List Value} (h : Seen r (.slice a m cap) m sz vs) (l k : Nat) (h1 : l ≤ k) (h2 : k ≤ m) :
    Seen r (sliced a l k cap sz) (k - l) sz ((vs.drop (l * sz)).take ((k - l) * sz)) := by
  obtain ⟨hc1, hc2, hc3⟩ := h.cap
  have hlen := h.len
  have hb : k * sz ≤ m * sz := Nat.mul_le_mul_right _ h2
  have hb1 : (k - l) * sz = k * sz - l * sz := Nat.sub_mul ..
  have hb2 : l * sz ≤ k * sz := Nat.mul_le_mul_right _ h1
  refine ⟨by rw [List.length_take, List.length_drop, hlen]; omega, _, _, rfl, by omega, by omega, ?_⟩
  cases a with
  | none =>
    have := hc3 rfl
    exact .inl ⟨by simp, by omega⟩
  | some ad =>
    by_cases he : cap = l
    · refine .inr ⟨ad, by simp [he], fun j u hj => ?_⟩
      have : (vs.drop (l * sz)).take ((k - l) * sz) = [] := by
        rw [show k - l = 0 by omega]; simp
      rw [this] at hj; simp at hj
    · refine .inr ⟨ad.add (l * sz), by simp [he], fun j u hj => ?_⟩
      rw [addr_add_add]
      refine h.cell ?_
      rw [List.getElem?_take] at hj
      split at hj
      · rw [List.getElem?_drop] at hj; exact hj
      · cases hj
theorem CellsAt.sub {r : Rd} {a : Addr} {cs : List Value} (h : CellsAt r a cs) (l k : Nat) : CellsAt r (a.add l) ((cs.drop l).take k) := by
  intro j u hj
  rw [addr_add_add]
  refine h _ _ ?_
  rw [List.getElem?_take] at hj
  split at hj
  · rw [List.getElem?_drop] at hj; exact hj
  · cases hj
/-- A part of an array that lies at an address. -/
theorem seen_at {r : Rd} {ad : Addr} {vs : List Value} {l k N sz : Nat} (h : CellsAt r ad vs) (h1 : l ≤ k) (h2 : k ≤ N) (hN : N ≤ maxLen) (hl : vs.length = N * sz) :
    Seen r (slicedAt ad l k N sz) (k - l) sz ((vs.drop (l * sz)).take ((k - l) * sz)) := by
  have hb : k * sz ≤ N * sz := Nat.mul_le_mul_right _ h2
  have hb1 : (k - l) * sz = k * sz - l * sz := Nat.sub_mul ..
  have hb2 : l * sz ≤ k * sz := Nat.mul_le_mul_right _ h1
  refine ⟨by rw [List.length_take, List.length_drop, hl]; omega, _, _, rfl, by omega, by omega, ?_⟩
  by_cases he : N = l
  · refine .inr ⟨ad, by simp [he], fun j u hj => ?_⟩
    have : (vs.drop (l * sz)).take ((k - l) * sz) = [] := by
      rw [show k - l = 0 by omega]; simp
    rw [this] at hj; simp at hj
  · refine .inr ⟨ad.add (l * sz), by simp [he], ?_⟩
    exact h.sub _ _
theorem seen_whole {r : Rd} {ad : Addr} {vs : List Value} {N sz : Nat} (h : CellsAt r ad vs) (hN : N ≤ maxLen) (hl : vs.length = N * sz) :
    Seen r (.slice (some ad) N N) N sz vs := ⟨hl, _, _, rfl, Nat.le_refl _, hN, .inr ⟨ad, rfl, h⟩⟩

section
variable {w0 w : World} {Ln : List Nat} {M : List Ent} {S : List Fact}
theorem Mem.row_form (h : Mem w0 Ln M S w) {v : Value} {m : Nat} {e : TypeId} {sz : Nat} {xs : List Value} (hm : Ent.row v m e sz xs ∈ M) :
    (v = .slice none 0 0 ∧ m = 0 ∧ xs = []) ∨ ∃ g cap, v = .slice (some ⟨g, 0, none⟩) m cap ∧ m ≤ cap ∧ cap ≤ maxLen := by
  have h2 := (h.own _ hm : w.ownsRow 0 e sz v m xs)
  rcases h2.2 with ⟨rfl, rfl⟩ | ⟨g, cap, cur, rfl, _, _, h3, h4, _⟩
  · exact .inl ⟨rfl, rfl, List.eq_nil_of_length_eq_zero (by simpa using h2.1)⟩
  · exact .inr ⟨g, cap, rfl, h3, h4⟩
theorem Mem.row_len (h : Mem w0 Ln M S w) {v : Value} {m : Nat} {e : TypeId} {sz : Nat} {xs : List Value} (hm : Ent.row v m e sz xs ∈ M) : xs.length = m * sz := (h.own _ hm : w.ownsRow 0 e sz v m xs).1
theorem Mem.seen_row (h : Mem w0 Ln M S w) {v : Value} {m : Nat} {e : TypeId} {sz : Nat} {xs : List Value} (hm : Ent.row v m e sz xs ∈ M) : Seen w.cell? v m sz xs := by
  have h2 := (h.own _ hm : w.ownsRow 0 e sz v m xs)
  refine ⟨h2.1, ?_⟩
  rcases h.row_form hm with ⟨rfl, rfl, rfl⟩ | ⟨g, cap, rfl, h3, h4⟩
  · exact ⟨none, 0, rfl, Nat.le_refl _, Nat.zero_le _, .inl ⟨rfl, rfl⟩⟩
  · exact ⟨_, _, rfl, h3, h4, .inr ⟨_, rfl, fun j u hj => h2.cells rfl j u hj⟩⟩
theorem Mem.seenV (h : Mem w0 Ln M S w) {v : Value} {m : Nat} {e : TypeId} {sz : Nat} {xs : List Value} [hm : HasV M v m e sz xs] : Seen w.cell? v m sz xs := h.seen_row hm.out
theorem Mem.formV (h : Mem w0 Ln M S w) {v : Value} {m : Nat} {e : TypeId} {sz : Nat} {xs : List Value} [hm : HasV M v m e sz xs] :
    (v = .slice none 0 0 ∧ m = 0 ∧ xs = []) ∨ ∃ g cap, v = .slice (some ⟨g, 0, none⟩) m cap ∧ m ≤ cap ∧ cap ≤ maxLen := h.row_form hm.out
theorem Mem.atB (h : Mem w0 Ln M S w) {b : Nat} {t : TypeId} {cs : List Value} [hm : HasB M b t cs] : CellsAt w.cell? ⟨b, 0, none⟩ cs := h.cells_blk hm.out
theorem Mem.at_blk (h : Mem w0 Ln M S w) {b : Nat} {t : TypeId} {cs : List Value} (hm : Ent.blk b t cs ∈ M) : CellsAt w.cell? ⟨b, 0, none⟩ cs := h.cells_blk hm
theorem Mem.seen_old (h : Mem w0 [] M S w) {v : Value} {m sz : Nat} {vs : List Value} (hv : Seen w0.cell? v m sz vs) : Seen w.cell? v m sz vs := hv.mono fun _ _ hc => h.cell_old hc
theorem Mem.at_old (h : Mem w0 [] M S w) {a : Addr} {vs : List Value} (hv : CellsAt w0.cell? a vs) : CellsAt w.cell? a vs := hv.mono fun _ _ hc => h.cell_old hc
theorem Mem.seen_fact (h : Mem w0 Ln M S w) {v : Value} {m sz : Nat} {vs : List Value} (hs : seen v m sz vs ∈ S) : Seen w.cell? v m sz vs := h.fact hs
theorem Mem.at_fact (h : Mem w0 Ln M S w) {a : Addr} {vs : List Value} (hs : cellsF a vs ∈ S) : CellsAt w.cell? a vs := h.fact hs
/-- The nil slice is a row that anyone owns. -/
theorem Mem.nilRow (h : Mem w0 Ln M S w) (e : TypeId) (sz : Nat) : Mem w0 Ln (.row (.slice none 0 0) 0 e sz [] :: M) S w := by
  refine h.step rfl rfl rfl (Nat.le_refl _) (fun _ _ _ _ => rfl) ?_ ?_ ?_ ?_
  · intro x hx
    rcases List.mem_cons.1 hx with rfl | hx
    · exact World.ownsRow_nil w 0 e sz
    · exact h.own x hx
  · intro x hx k hk
    rcases List.mem_cons.1 hx with rfl | hx
    · simp [Ent.num, Value.ownBlock] at hk
    · exact h.new x hx k hk
  · exact List.pairwise_cons.2 ⟨fun f hf k hk => by simp [Ent.num, Value.ownBlock] at hk, h.apart⟩
  · intro k hk hm
    simp only [inM, List.any_cons, Bool.or_eq_false_iff]
    exact ⟨by simp [Ent.num, Value.ownBlock], hm⟩
/-- A block as a row. -/
theorem Mem.toRow {M' : List Ent} (h : Mem w0 Ln M S w) {b : Nat} {e : TypeId} {cs : List Value} {N sz : Nat} (hr : Repl M (.blk b e cs) (.row (.slice (some ⟨b, 0, none⟩) N N) N e sz cs) M') (hl : cs.length = N * sz) (hN : N ≤ maxLen) :
    Mem w0 Ln M' S w := by
  have hb : w.heap[b]? = some (.cells cs.toArray e (0, 0)) := h.own _ hr.mem
  refine h.turn hr rfl rfl rfl (Nat.le_refl _) (fun _ _ _ => rfl) ?_ ?_
  · exact ⟨hl, .inr ⟨b, N, cs.toArray, rfl, Nat.zero_le _, hb, Nat.le_refl _, hN, by simpa using hl, by simp; rw [← hl]; exact List.take_length ..⟩⟩
  · intro k hk; exact .inl hk
/-- A row that is cut. -/
theorem Mem.cutRow {M' : List Ent} (h : Mem w0 Ln M S w) {g cap m k : Nat} {e : TypeId} {xs : List Value} {sz : Nat}
    (hr : Repl M (.row (.slice (some ⟨g, 0, none⟩) m cap) m e sz xs) (.row (.slice (some ⟨g, 0, none⟩) k cap) k e sz (xs.take (k * sz))) M') (hk : k ≤ m) : Mem w0 Ln M' S w := by
  have h2 := (h.own _ hr.mem : w.ownsRow 0 e sz _ m xs)
  refine h.turn hr rfl rfl rfl (Nat.le_refl _) (fun _ _ _ => rfl) ?_ ?_
  · have hb : k * sz ≤ m * sz := Nat.mul_le_mul_right _ hk
    refine ⟨by rw [List.length_take, h2.1]; omega, ?_⟩
    rcases h2.2 with ⟨h3, _⟩ | ⟨g', cap', cur, h3, h4, h5, h6, h7, h8, h9⟩
    · simp at h3
    · simp at h3
      obtain ⟨rfl, rfl⟩ := h3
      refine .inr ⟨g, cap, cur, rfl, h4, h5, by omega, h7, h8, ?_⟩
      rw [← h9, List.take_take]; congr 1; omega
  · intro k hk; exact .inl hk

/-- One entry taken out. -/
inductive Pick : List Ent → Ent → List Ent → Prop where
  | here {x : Ent} {l : List Ent} : Pick (x :: l) x l
  | there {x y : Ent} {l l' : List Ent} : Pick l x l' → Pick (y :: l) x (y :: l')
theorem Pick.sublist {l l' : List Ent} {x : Ent} (h : Pick l x l') : l'.Sublist l := by
  induction h with
  | here => exact List.sublist_cons_self ..
  | there _ ih => exact ih.cons_cons _
theorem Pick.mem {l l' : List Ent} {x : Ent} (h : Pick l x l') : x ∈ l := by
  induction h with
  | here => simp
  | there _ ih => exact List.mem_cons_of_mem _ ih
theorem Pick.apart {l l' : List Ent} {x : Ent} (h : Pick l x l') (ha : l.Pairwise fun e f => ∀ k, e.num = some k → f.num ≠ some k) : ∀ k, x.num = some k → inM l' k = false := by
  induction h with
  | here =>
    intro k hk
    cases hm : inM _ k
    · rfl
    · obtain ⟨e, he, hn⟩ := inM_iff.1 hm
      exact absurd hn ((List.pairwise_cons.1 ha).1 e he k hk)
  | there hp ih =>
    intro k hk
    obtain ⟨h1, h2⟩ := List.pairwise_cons.1 ha
    simp only [inM, List.any_cons, Bool.or_eq_false_iff]
    refine ⟨?_, ih h2 k hk⟩
    simp only [beq_eq_false_iff_ne, ne_eq]
    intro hy
    exact h1 _ hp.mem k hy hk
/-- A row is given away: it can only be read. -/
theorem Mem.freezeRow {M' : List Ent} (h : Mem w0 [] M S w) {v : Value} {m : Nat} {e : TypeId} {sz : Nat} {xs : List Value} (hp : Pick M (.row v m e sz xs) M') : Mem w0 [] M' (seen v m sz xs :: S) w := by
  have hseen := h.seen_row hp.mem
  have hap := hp.apart h.apart
  have hnew := h.new _ hp.mem
  have h1 : Mem w0 [] M' S w := by
    refine ⟨h.os, h.tape, h.output, h.size, h.old, fun e he => h.own e (hp.sublist.subset he), fun e he => h.new e (hp.sublist.subset he), h.apart.sublist hp.sublist, fun s hs => s.mono _ _ (fun a v hv => ?_) (h.facts s hs)⟩
    simp only [rdF] at hv ⊢
    split at hv
    · rename_i hc
      have hin : inM M' a.block = false := by
        cases hm' : inM M' a.block
        · rfl
        · obtain ⟨e, he, hnum⟩ := inM_iff.1 hm'
          exact absurd hnum (inM_not hc.2 e (hp.sublist.subset he))
      rw [if_pos ⟨hc.1, hin⟩]; exact hv
    · cases hv
  refine { h1 with facts := fun s hs => ?_ }
  rcases List.mem_cons.1 hs with rfl | hs
  · show Seen _ v m sz xs
    obtain ⟨q1, a, cap, q2, q3, q4, q5⟩ := hseen
    refine ⟨q1, a, cap, q2, q3, q4, ?_⟩
    rcases q5 with q5 | ⟨ad, q5, q6⟩
    · exact .inl q5
    · refine .inr ⟨ad, q5, fun j u hj => ?_⟩
      have hc := q6 j u hj
      subst q2 q5
      have hbl : (ad.add j).block = ad.block := by unfold Addr.add; split <;> rfl
      have hk : (Ent.row (.slice (some ad) m cap) m e sz xs).num = some ad.block := rfl
      simp only [rdF, hbl]
      rw [if_pos ⟨(hnew _ hk).resolve_right (by simp), hap _ hk⟩]
      exact hc
  · exact h1.facts s hs
/-- So a block. -/
theorem Mem.freezeBlk {M' : List Ent} (h : Mem w0 [] M S w) {b : Nat} {t : TypeId} {cs : List Value} (hp : Pick M (.blk b t cs) M') : Mem w0 [] M' (cellsF ⟨b, 0, none⟩ cs :: S) w := by
  have hcells := h.at_blk hp.mem
  have hap := hp.apart h.apart
  have hnew := h.new _ hp.mem
  have h1 : Mem w0 [] M' S w := by
    refine ⟨h.os, h.tape, h.output, h.size, h.old, fun e he => h.own e (hp.sublist.subset he), fun e he => h.new e (hp.sublist.subset he), h.apart.sublist hp.sublist, fun s hs => s.mono _ _ (fun a v hv => ?_) (h.facts s hs)⟩
    simp only [rdF] at hv ⊢
    split at hv
    · rename_i hc
      have hin : inM M' a.block = false := by
        cases hm' : inM M' a.block
        · rfl
        · obtain ⟨e, he, hnum⟩ := inM_iff.1 hm'
          exact absurd hnum (inM_not hc.2 e (hp.sublist.subset he))
      rw [if_pos ⟨hc.1, hin⟩]; exact hv
    · cases hv
  refine { h1 with facts := fun s hs => ?_ }
  rcases List.mem_cons.1 hs with rfl | hs
  · show CellsAt _ ⟨b, 0, none⟩ cs
    intro j u hj
    have hc := hcells j u hj
    rw [add_lit] at hc ⊢
    simp only [rdF]
    rw [if_pos ⟨(hnew b rfl).resolve_right (by simp), hap b rfl⟩]
    exact hc
  · exact h1.facts s hs
end

/-! ### Slicing -/
theorem elem_of {t e : TypeId} (h : P.underlying t = some (.slice e)) : P.elem t = e := by simp [Program.elem, h]
theorem elem_ofA {t e : TypeId} {N : Nat} (h : P.underlying t = some (.array N e)) : P.elem t = e ∧ P.arrayLen t = N := by simp [Program.elem, Program.arrayLen, h]

theorem q_sl_lh {t e : TypeId} {x l h : Operand} {a : Option Addr} {len cap : Nat} {kl kh : IntKind} {lo hi : Int} {z : Value} {sz by_ : Nat} (hu : P.underlying t = some (.slice e)) (he : TyI P e z sz by_)
    (hx : ev L x = some (.slice a len cap)) (hl : ev L l = some (.int kl lo)) (hh : ev L h = some (.int kh hi)) (h0 : 0 ≤ lo) (h1 : lo ≤ hi) (h2 : hi ≤ cap) (l' k' : Nat) (el : lo.toNat = l') (ek : hi.toNat = k') :
    QOp P n R L (.slice t x (some l) (some h) none) (sliced a l' k' cap sz) := by
  intro d ty pos af g ac w hs _
  subst el ek
  have hu' : P.underlying t = some (.slice (P.elem t)) := by rw [elem_of hu]; exact hu
  simp only [execOp, hs.eval hx, Option.map_some, Option.map_none, hs.eval hl, hs.eval hh]
  simp [run_sliceAt_slice w t _ _ _ _ hu', run_slice_lh w t a len cap hu' kl kh lo hi h0 h1 h2, elem_of hu, run_sz he]
theorem q_sl_h {t e : TypeId} {x h : Operand} {a : Option Addr} {len cap : Nat} {kh : IntKind} {hi : Int} {z : Value} {sz by_ : Nat} (hu : P.underlying t = some (.slice e)) (he : TyI P e z sz by_)
    (hx : ev L x = some (.slice a len cap)) (hh : ev L h = some (.int kh hi)) (h0 : 0 ≤ hi) (h2 : hi ≤ cap) (k' : Nat) (ek : hi.toNat = k') :
    QOp P n R L (.slice t x none (some h) none) (sliced a 0 k' cap sz) := by
  intro d ty pos af g ac w hs _
  subst ek
  have hu' : P.underlying t = some (.slice (P.elem t)) := by rw [elem_of hu]; exact hu
  simp only [execOp, hs.eval hx, Option.map_some, Option.map_none, hs.eval hh]
  simp [run_sliceAt_slice w t _ _ _ _ hu', run_slice_h w t a len cap hu' kh hi h0 h2, elem_of hu, run_sz he]
theorem q_sl_l {t e : TypeId} {x l : Operand} {a : Option Addr} {len cap : Nat} {kl : IntKind} {lo : Int} {z : Value} {sz by_ : Nat} (hu : P.underlying t = some (.slice e)) (he : TyI P e z sz by_)
    (hx : ev L x = some (.slice a len cap)) (hl : ev L l = some (.int kl lo)) (h0 : 0 ≤ lo) (h2 : lo ≤ len) (l' : Nat) (el : lo.toNat = l') :
    QOp P n R L (.slice t x (some l) none none) (sliced a l' len cap sz) := by
  intro d ty pos af g ac w hs _
  subst el
  have hu' : P.underlying t = some (.slice (P.elem t)) := by rw [elem_of hu]; exact hu
  simp only [execOp, hs.eval hx, Option.map_some, Option.map_none, hs.eval hl]
  simp [run_sliceAt_slice w t _ _ _ _ hu', run_slice_l w t a len cap hu' kl lo h0 h2, elem_of hu, run_sz he]
theorem q_sl_hm {t e : TypeId} {x h m : Operand} {a : Option Addr} {len cap : Nat} {kh km : IntKind} {hi mx : Int} {z : Value} {sz by_ : Nat} (hu : P.underlying t = some (.slice e)) (he : TyI P e z sz by_)
    (hx : ev L x = some (.slice a len cap)) (hh : ev L h = some (.int kh hi)) (hm : ev L m = some (.int km mx)) (h0 : 0 ≤ hi) (h1 : hi ≤ mx) (h2 : mx ≤ cap) (k' m' : Nat) (ek : hi.toNat = k') (em : mx.toNat = m') :
    QOp P n R L (.slice t x none (some h) (some m)) (sliced a 0 k' m' sz) := by
  intro d ty pos af g ac w hs _
  subst ek em
  have hu' : P.underlying t = some (.slice (P.elem t)) := by rw [elem_of hu]; exact hu
  simp only [execOp, hs.eval hx, Option.map_some, Option.map_none, hs.eval hh, hs.eval hm]
  simp [run_sliceAt_slice w t _ _ _ _ hu', run_slice_hm w t a len cap hu' kh km hi mx h0 h1 h2, elem_of hu, run_sz he]
/-- A part of an array's block. -/
theorem q_ar_lh {t e : TypeId} {N : Nat} {x l h : Operand} {ad : Addr} {kl kh : IntKind} {lo hi : Int} {z : Value} {sz by_ : Nat} (hu : P.underlying t = some (.array N e)) (he : TyI P e z sz by_)
    (hx : ev L x = some (.pointer (some ad))) (hl : ev L l = some (.int kl lo)) (hh : ev L h = some (.int kh hi)) (h0 : 0 ≤ lo) (h1 : lo ≤ hi) (h2 : hi ≤ N) (l' k' : Nat) (el : lo.toNat = l') (ek : hi.toNat = k') :
    QOp P n R L (.slice t x (some l) (some h) none) (slicedAt ad l' k' N sz) := by
  intro d ty pos af g ac w hs _
  subst el ek
  obtain ⟨e1, e2⟩ := elem_ofA hu
  have hu' : P.underlying t = some (.array (P.arrayLen t) (P.elem t)) := by rw [e1, e2]; exact hu
  simp only [execOp, hs.eval hx, Option.map_some, Option.map_none, hs.eval hl, hs.eval hh]
  simp [run_sliceAt_array_lh w t ad hu' kl kh lo hi h0 h1 (by rw [e2]; exact h2), e1, e2, run_sz he]
theorem q_ar_h {t e : TypeId} {N : Nat} {x h : Operand} {ad : Addr} {kh : IntKind} {hi : Int} {z : Value} {sz by_ : Nat} (hu : P.underlying t = some (.array N e)) (he : TyI P e z sz by_)
    (hx : ev L x = some (.pointer (some ad))) (hh : ev L h = some (.int kh hi)) (h0 : 0 ≤ hi) (h2 : hi ≤ N) (k' : Nat) (ek : hi.toNat = k') :
    QOp P n R L (.slice t x none (some h) none) (slicedAt ad 0 k' N sz) := by
  intro d ty pos af g ac w hs _
  subst ek
  obtain ⟨e1, e2⟩ := elem_ofA hu
  have hu' : P.underlying t = some (.array (P.arrayLen t) (P.elem t)) := by rw [e1, e2]; exact hu
  simp only [execOp, hs.eval hx, Option.map_some, Option.map_none, hs.eval hh]
  simp [run_sliceAt_array_h w t ad hu' kh hi h0 (by rw [e2]; exact h2), e1, e2, run_sz he]
theorem q_ar_l {t e : TypeId} {N : Nat} {x l : Operand} {ad : Addr} {kl : IntKind} {lo : Int} {z : Value} {sz by_ : Nat} (hu : P.underlying t = some (.array N e)) (he : TyI P e z sz by_)
    (hx : ev L x = some (.pointer (some ad))) (hl : ev L l = some (.int kl lo)) (h0 : 0 ≤ lo) (h2 : lo ≤ N) (l' : Nat) (el : lo.toNat = l') :
    QOp P n R L (.slice t x (some l) none none) (slicedAt ad l' N N sz) := by
  intro d ty pos af g ac w hs _
  subst el
  obtain ⟨e1, e2⟩ := elem_ofA hu
  have hu' : P.underlying t = some (.array (P.arrayLen t) (P.elem t)) := by rw [e1, e2]; exact hu
  simp only [execOp, hs.eval hx, Option.map_some, Option.map_none, hs.eval hl]
  simp [run_sliceAt_array_l w t ad hu' kl lo h0 (by rw [e2]; exact h2), e1, e2, run_sz he]
theorem q_ar_all {t e : TypeId} {N : Nat} {x : Operand} {ad : Addr} {z : Value} {sz by_ : Nat} (hu : P.underlying t = some (.array N e)) (he : TyI P e z sz by_)
    (hx : ev L x = some (.pointer (some ad))) : QOp P n R L (.slice t x none none none) (slicedAt ad 0 N N sz) := by
  intro d ty pos af g ac w hs _
  obtain ⟨e1, e2⟩ := elem_ofA hu
  have hu' : P.underlying t = some (.array (P.arrayLen t) (P.elem t)) := by rw [e1, e2]; exact hu
  simp only [execOp, hs.eval hx, Option.map_some, Option.map_none]
  simp [run_sliceAt_array_all w t ad hu', e1, e2, run_sz he]

/-! ### Builds -/
def evp (L : Slots) : List (Nat × Operand) → Option (List (Nat × Value))
  | [] => some []
  | (i, x) :: r => match ev L x, evp L r with
    | some v, some vs => some ((i, v) :: vs)
    | _, _ => none
theorem evp_eval {a : Act} (hs : Sl n a L) : ∀ {xs : List (Nat × Operand)} {vs : List (Nat × Value)}, evp L xs = some vs → xs.map (fun p => (p.1, a.eval p.2)) = vs
  | [], vs, h => by simp [evp] at h; subst h; rfl
  | (i, x) :: r, vs, h => by
    simp only [evp] at h
    split at h
    · rename_i v us hv hus
      cases h
      simp [hs.eval hv, evp_eval hs hus]
    · cases h
theorem q_build {t : TypeId} {parts : Array (Nat × Operand)} {vs : List (Nat × Value)} {cs : List Value} (hv : evp L parts.toList = some vs) (hf : P.built t vs = some cs.toArray) : QOp P n R L (.build t parts) (.agg cs.toArray) := by
  intro d ty pos af g ac w hs _
  have he : (parts.map fun (i, x) => (i, ac.eval x)).toList = vs := by rw [Array.toList_map]; exact evp_eval hs hv
  have := run_build (P := P) w t (parts.map fun (i, x) => (i, ac.eval x)) cs.toArray (by rw [he]; exact hf)
  simp only [execOp, Sem.run_bind, this]
  simp [pure]
theorem built_struct {t : TypeId} {fs : Array Field} {z : Value} {sz by_ : Nat} {pl : List (Nat × Nat)} {vs : List (Nat × Value)} {cs : Array Value} (hu : P.underlying t = some (.struct fs)) (ht : TyI P t z sz by_)
    (hp : fs.toList.mapM (fun f => (P.info? f.type).map fun i => (f.offset, i.size)) = some pl) (hf : Instr.fill (pl.toArray[·]?) z.cells vs = some cs) : P.built t vs = some cs := by
  obtain ⟨i, hi, hz, hs, _⟩ := ht.info
  simp only [Program.built, hi, hu, hz, hp]
  exact hf
theorem built_array {t e : TypeId} {N : Nat} {z ze : Value} {sz by_ se be : Nat} {vs : List (Nat × Value)} {cs : Array Value} (hu : P.underlying t = some (.array N e)) (ht : TyI P t z sz by_) (he : TyI P e ze se be)
    (hf : Instr.fill (fun i => some (i * se, se)) z.cells vs = some cs) : P.built t vs = some cs := by
  obtain ⟨i, hi, hz, hs, _⟩ := ht.info
  obtain ⟨i', hi', hz', hs', _⟩ := he.info
  subst hs'
  simp only [Program.built, hi, hu, hz, hi']
  exact hf

theorem q_buildFull {t e N : Nat} {parts : Array (Nat × Operand)} {z ze : Value} {by_ be : Nat} (cs : List Value) (hu : P.underlying t = some (.array N e)) (ht : TyI P t z N by_) (he : TyI P e ze 1 be) (hzc : z.cells.size = N) (hl : cs.length = N)
    (h1 : ∀ v ∈ cs, v.oneCell' = true) (hv : evp L parts.toList = some ((cs.zipIdx 0).map fun x => (x.2, x.1))) : QOp P n R L (.build t parts) (.agg cs.toArray) := by
  refine q_build hv (built_array hu ht he ?_)
  simp only [Nat.mul_one]
  have := Great.fill_flat cs z.cells (fun v hv => by have := h1 v hv; cases v <;> first | rfl | simp [Value.oneCell'] at this) (by rw [hzc]; exact hl)
  simpa using this
section
variable {w0 : World} {Ln : List Nat} {M : List Ent} {S : List Fact}
theorem Mem.allocRow {w : World} (h : Mem w0 Ln M S w) (e : TypeId) (cs : List Value) (N cap sz : Nat) (xs : List Value) (hl : cs.length = cap * sz) (hN : N ≤ cap) (hc : cap ≤ maxLen) (hx : cs.take (N * sz) = xs) :
    Mem w0 Ln (.row (.slice (some ⟨w.heap.size, 0, none⟩) N cap) N e sz xs :: M) S (w.alloc (.cells cs.toArray e)) := by
  subst hx
  have h1 := h.alloc e cs
  have h2 := h1.toRow (.here) (N := cap) (sz := sz) hl hc
  have hb : N * sz ≤ cap * sz := Nat.mul_le_mul_right _ hN
  exact h2.cutRow (.here) hN
theorem made_list (z : Array Value) (sz : Nat) (hz : z.size = sz) (k : Nat) : (madeCells z (k * sz)).toList = (List.replicate k z.toList).flatten := by
  apply List.ext_getElem?
  intro j
  induction k generalizing j with
  | zero => simp [madeCells]
  | succ k ih =>
    rw [List.replicate_succ, List.flatten_cons]
    by_cases h1 : j < sz
    · rw [List.getElem?_append_left (by simpa [hz] using h1)]
      have h2 : j < (k + 1) * sz := by rw [Nat.succ_mul]; omega
      have h3 : j < z.size := by omega
      simp [madeCells, h2, Nat.mod_eq_of_lt h3, h3]
    · rw [List.getElem?_append_right (by simpa [hz] using h1)]
      simp only [Array.length_toList, hz]
      rw [← ih]
      by_cases h2 : j < (k + 1) * sz
      · have h3 : j - sz < k * sz := by rw [Nat.succ_mul] at h2; omega
        have h4 : j % sz = (j - sz) % sz := by rw [Nat.mod_eq_sub_mod (by omega)]
        simp [madeCells, h2, h3, hz, h4]
      · have h3 : ¬ j - sz < k * sz := by rw [Nat.succ_mul] at h2; omega
        simp [madeCells, h2, h3]
theorem t_buildSlice {t e : TypeId} {len : Nat} {parts : Array (Nat × Operand)} {vs : List (Nat × Value)} (cs : List Value) {z : Value} {sz by_ : Nat} (hu : P.underlying t = some (.slice e)) (he : TyI P e z sz by_)
    (hv : evp L parts.toList = some vs) (hsmall : len * sz ≤ 2 ^ 24) (hpos : 0 < len * sz) (hz1 : z.cells.size = sz)
    (hf : Instr.fill (fun i => some (i * sz, sz)) ((List.replicate len z.cells.toList).flatten).toArray vs = some cs.toArray) (hl : cs.length = len * sz) :
    TOp P Q n (Mem w0 Ln M S) L (.buildSlice t len parts) Nat (fun b => .slice (some ⟨b, 0, none⟩) len len) (fun b => Mem w0 Ln (.row (.slice (some ⟨b, 0, none⟩) len len) len e sz cs :: M) S) := by
  intro d ty pos af g a w K hs hr hk
  obtain ⟨i, hi, hz, hsz, _⟩ := he.info
  subst hsz
  have hev : (parts.map fun (i, x) => (i, a.eval x)).toList = vs := by rw [Array.toList_map]; exact evp_eval hs hv
  have hmade : ((Array.range (len * i.size)).map (z.cells[· % z.cells.size]!)) = ((List.replicate len z.cells.toList).flatten).toArray := by
    have := made_list z.cells i.size hz1 len
    apply Array.ext'
    exact this
  have hrun := run_buildSlice (P := P) w t e len (parts.map fun (i, x) => (i, a.eval x)) cs.toArray i z hu hi hz (by omega) (by omega) (by rw [hev, hmade]; exact hf)
  have hlen : len ≤ maxLen := by
    have : len ≤ len * i.size := Nat.le_mul_of_pos_right _ (Nat.pos_of_ne_zero (fun h => by rw [h] at hpos; omega))
    simp only [maxLen]; omega
  have h := hk w.heap.size (w.alloc (.cells cs.toArray e)) (hr.allocRow e cs len len i.size cs hl (Nat.le_refl _) hlen (by rw [← hl]; exact List.take_length ..))
  have hrun' : (execOp a.eval ⟨d, .buildSlice t len parts, ty, pos, af, g⟩).run P w = .ok (.value (.slice (some ⟨w.heap.size, 0, none⟩) len len)) (w.alloc (.cells cs.toArray e)) := by
    simp only [execOp, Sem.run_bind, hrun]
    simp [pure]
  unfold Oper.wp
  rw [hrun']
  exact h
theorem t_buildSlice0 {t e : TypeId} {z : Value} {sz by_ : Nat} (hu : P.underlying t = some (.slice e)) (he : TyI P e z sz by_) :
    TOp P Q n (Mem w0 Ln M S) L (.buildSlice t 0 #[]) Nat (fun b => .slice (some ⟨b, 0, none⟩) 0 0) (fun b => Mem w0 Ln (.row (.slice (some ⟨b, 0, none⟩) 0 0) 0 e sz [] :: M) S) := by
  intro d ty pos af g a w K hs hr hk
  have h := hk w.heap.size (w.alloc (.cells #[] e)) (hr.allocRow e [] 0 0 sz [] (by simp) (Nat.le_refl _) (Nat.zero_le _) (by simp))
  have hrun' : (execOp a.eval ⟨d, .buildSlice t 0 #[], ty, pos, af, g⟩).run P w = .ok (.value (.slice (some ⟨w.heap.size, 0, none⟩) 0 0)) (w.alloc (.cells #[] e)) := by
    simp [execOp, Instr.buildSlice, run_underlying hu, run_sz he, Instr.fill, newRow, Array.range_zero']
  unfold Oper.wp
  rw [hrun']
  exact h
/-- make([]T, len, cap) -/
theorem t_makeSlice {t e : TypeId} {x y : Operand} {kl kc : IntKind} {l c : Int} {z : Value} {sz by_ : Nat} (hu : P.underlying t = some (.slice e)) (he : TyI P e z sz by_) (hx : ev L x = some (.int kl l)) (hy : ev L y = some (.int kc c))
    (h0 : 0 ≤ l) (hlc : l ≤ c) (hb : (by_ : Int) * c ≤ 281474976710656) (h63 : c ≤ 9223372036854775807) (l' c' : Nat) (el : l.toNat = l') (ec : c.toNat = c') (xs : List Value) (hz1 : z.cells.size = sz) (hxs : (List.replicate l' z.cells.toList).flatten = xs) :
    TOp P Q n (Mem w0 Ln M S) L (.makeSlice t x y) Nat (fun b => .slice (some ⟨b, 0, none⟩) l' c') (fun b => Mem w0 Ln (.row (.slice (some ⟨b, 0, none⟩) l' c') l' e sz xs :: M) S) := by
  intro d ty pos af g a w K hs hr hk
  obtain ⟨i, hi, hz, hsz, hby⟩ := he.info
  subst hsz hby el ec
  rw [← made_list z.cells i.size hz1] at hxs
  subst hxs
  have hrun := run_make (P := P) w t e i z hu hi hz kl kc l c h0 hlc hb h63
  have h1 : l.toNat * i.size ≤ c.toNat * i.size := Nat.mul_le_mul_right _ (by omega)
  have h := hk w.heap.size (w.alloc (.cells (madeCells z.cells (c.toNat * i.size)) e)) (by
    have := hr.allocRow e (madeCells z.cells (c.toNat * i.size)).toList l.toNat c.toNat i.size (madeCells z.cells (l.toNat * i.size)).toList (by simp [size_madeCells]) (by omega) (by simp only [maxLen]; omega) (by
      apply List.ext_getElem?
      intro j
      rw [List.getElem?_take]
      by_cases hj : j < l.toNat * i.size
      · have hj2 : j < c.toNat * i.size := by omega
        rw [if_pos hj]; simp [madeCells, hj, hj2]
      · rw [if_neg hj]; simp [madeCells, hj])
    simpa using this)
  have hrun' : (execOp a.eval ⟨d, .makeSlice t x y, ty, pos, af, g⟩).run P w = .ok (.value (.slice (some ⟨w.heap.size, 0, none⟩) l.toNat c.toNat)) (w.alloc (.cells (madeCells z.cells (c.toNat * i.size)) e)) := by
    simp only [execOp, hs.eval hx, hs.eval hy, Sem.run_bind, hrun]
    simp [pure]
  unfold Oper.wp
  rw [hrun']
  exact h
theorem Mem.grown {w w' : World} {M' : List Ent} {v v' : Value} {m m' : Nat} {e : TypeId} {sz : Nat} {xs xs' : List Value} (h : Mem w0 Ln M S w) (hr : Repl M (.row v m e sz xs) (.row v' m' e sz xs') M') (hg : w.grownBy w' v.ownBlock) (ho : w'.ownsRow 0 e sz v' m' xs')
    (hb : ∀ k, v'.ownBlock = some k → v.ownBlock = some k ∨ w.heap.size ≤ k) : Mem w0 Ln M' S w' :=
  h.turn hr hg.os hg.tape hg.output hg.size (fun k hk hn => hg.block k hk (fun e => hn e.symm)) ho hb
/-- append(s, x...), s a row of one's own. -/
theorem t_append {t e : TypeId} {s x : Operand} {v u : Value} {m k : Nat} {xs news : List Value} {f : Ent → List Ent} {z : Value} {sz by_ : Nat} (hu : P.underlying t = some (.slice e)) (he : TyI P e z sz by_) (hz1 : z.cells.size = sz) (hsz : 0 < sz)
    (hs_ : ev L s = some v) (hx : ev L x = some u) [hr : ReplV M v m e sz xs f] (hsrc : ∀ w, Mem w0 Ln M S w → Seen w.cell? u k sz news) (h1 : ∀ u ∈ news, u.oneCell' = true)
    (h63 : m + k ≤ maxLen) (hby : (m + k) * by_ ≤ 140737488355328) :
    TOp P Q n (Mem w0 Ln M S) L (.call { callee := .builtin .append, args := #[s, x], argTypes := #[t, t] }) Value (fun v' => v') (fun v' => Mem w0 Ln (f (.row v' (m + k) e sz (xs ++ news))) S) := by
  intro d ty pos af g a w K hs hm hk
  obtain ⟨i, hi, hz, hsz', hby'⟩ := he.info
  have hown : w.ownsRow 0 e sz v m xs := hm.own _ (hr.out (.blk 0 0 [])).mem
  obtain ⟨q1, ad, cap, rfl, q3, q4, q5⟩ := hsrc w hm
  have key : ∃ v' w', (Builtin.append_ #[t, t] ty #[v, .slice ad k cap]).run P w = .ok v' w' ∧ w'.ownsRow 0 e sz v' (m + k) (xs ++ news) ∧ w.grownBy w' v.ownBlock ∧ (∀ b, v'.ownBlock = some b → v.ownBlock = some b ∨ w.heap.size ≤ b) := by
    rcases q5 with ⟨rfl, rfl⟩ | ⟨ad', rfl, hc⟩
    · obtain rfl : k = 0 := by omega
      obtain rfl : news = [] := List.eq_nil_of_length_eq_zero (by simpa using q1)
      exact ⟨v, w, run_append_owned_none w 0 t ty e i sz hu hi v m xs hown, by simpa using hown, ⟨rfl, rfl, rfl, Nat.le_refl _, fun _ _ _ => rfl⟩, fun b hb => .inl hb⟩
    · obtain ⟨v', w', r1, r2, r3, r4⟩ := run_append_own (P := P) w 0 t ty e i z sz by_ hu hi hz hsz' hby' hz1 hsz v m xs hown ad' k cap news q1 hc h1 h63 hby (Nat.zero_le _)
      refine ⟨v', w', r1, r2, r3, ?_⟩
      intro b hb
      rcases hown.2 with ⟨rfl, rfl⟩ | ⟨g, cp, cur, rfl, _, hg, hnc, hcm, hcs, htake⟩
      · obtain ⟨v2, w2, e1, e2, _⟩ := run_append_own (P := P) w w.heap.size t ty e i z sz by_ hu hi hz hsz' hby' hz1 hsz (.slice none 0 0) 0 [] (World.ownsRow_nil w _ e sz) ad' k cap news q1 hc h1 (by omega) (by simpa using hby) (Nat.le_refl _)
        rw [e1] at r1
        simp only [Result.ok.injEq] at r1
        obtain ⟨rfl, rfl⟩ := r1
        exact .inr (e2.lt b hb).1
      · by_cases hroom : m + k ≤ cp
        · obtain ⟨w2, e1, _⟩ := run_append_fits (P := P) w 0 t ty e i sz hu hi hsz' g m cp xs hown ad' k cap news q1 hc h1 hroom
          rw [e1] at r1
          simp only [Result.ok.injEq] at r1
          obtain ⟨rfl, rfl⟩ := r1
          exact .inl hb
        · subst hsz' hby'
          have e1 := run_append_grow (P := P) w t ty e i z hu hi hz ⟨g, 0, none⟩ m cp xs hown.1 (hown.cells (g := g) rfl) ad' k cap news q1 hc (by omega) (by simp only [maxLen] at h63; omega) (growslice_fits (by omega) hby)
          rw [e1] at r1
          simp only [Result.ok.injEq] at r1
          obtain ⟨rfl, rfl⟩ := r1
          simp [Value.ownBlock] at hb
          exact .inr (by omega)
  obtain ⟨v', w', r1, r2, r3, r4⟩ := key
  have hrun : (execOp a.eval ⟨d, .call { callee := .builtin .append, args := #[s, x], argTypes := #[t, t] }, ty, pos, af, g⟩).run P w = .ok (.value v') w' := by
    simp only [execOp, resolve, invoke, builtin, Sem.run_bind, Sem.run_pure, Result.andThen_ok, List.map_toArray, List.map_cons, List.map_nil, hs.eval hs_, hs.eval hx, r1]
  unfold Oper.wp
  rw [hrun]
  exact hk v' w' (hm.grown (hr.out _) r3 r2 r4)
end
/-- copy(dst, src), dst in a block of one's own, elements of one cell. -/
theorem t_copy {w0 : World} {Ln : List Nat} {M : List Ent} {S : List Fact} {dT sT e : TypeId} {x y : Operand} {b o dl dc m : Nat} {u : Value} {vs : List Value} {t : TypeId} {cs : List Value} {f : List Value → List Ent} {z : Value} {by_ : Nat} (hu : P.underlying dT = some (.slice e)) (he : TyI P e z 1 by_)
    (hx : ev L x = some (.slice (some ⟨b, o, none⟩) dl dc)) (hy : ev L y = some u) [hr : ReplB M b t cs f] (hsrc : ∀ w, Mem w0 Ln M S w → Seen w.cell? u m 1 vs) (h1 : ∀ v ∈ vs, v.oneCell' = true) (hfit : o + dl ≤ cs.length) (q : Nat) (hq : min m dl = q) (cs' : List Value)
    (hcs : cs.take o ++ vs.take q ++ cs.drop (o + q) = cs') :
    TOp P Q n (Mem w0 Ln M S) L (.call { callee := .builtin .copy, args := #[x, y], argTypes := #[dT, sT] }) Unit (fun _ => .int .i64 (q : Nat)) (fun _ => Mem w0 Ln (f cs') S) := by
  intro d ty pos af g a w K hs hm hk
  subst hcs
  obtain ⟨i, hi, hz, hsz, _⟩ := he.info
  have hb : w.heap[b]? = some (.cells cs.toArray t (0, 0)) := hm.own _ (hr.out cs).mem
  obtain ⟨q1, ad, cap, rfl, q3, q4, q5⟩ := hsrc w hm
  have hrun : (Builtin.copy_ #[dT, sT] ty #[.slice (some ⟨b, o, none⟩) dl dc, .slice ad m cap]).run P w = .ok (.int .i64 (q : Nat)) (w.setRow b (cs.take o ++ vs.take q ++ cs.drop (o + q)).toArray) := by
    rcases q5 with ⟨rfl, rfl⟩ | ⟨ad', rfl, hc⟩
    · obtain rfl : m = 0 := by omega
      have e0 : q = 0 := by omega
      subst e0
      have := run_copy_nil (P := P) w dT sT ty e ⟨b, o, none⟩ dl dc hu (by simp [hi])
      rw [this]
      simp only [Nat.add_zero, List.take_zero, List.append_nil, List.take_append_drop]
      rw [setRow_self w b cs.toArray t (0, 0) hb]
      rfl
    · have hl : (vs.take q).length = q := by rw [List.length_take, q1]; omega
      have := run_copy_row (P := P) w dT sT ty e b o dl dc ad' m cap cs.toArray t (vs.take q) hu (by simp [hi, hsz]) hb (hl.trans hq.symm)
        (fun j v hj => hc j v (by rw [List.getElem?_take] at hj; split at hj <;> first | exact hj | cases hj)) (by rw [hl]; simp; omega) (fun v hv => h1 v (List.mem_of_mem_take hv))
      rw [this]
      rw [hl]
      rfl
  have hrun' : (execOp a.eval ⟨d, .call { callee := .builtin .copy, args := #[x, y], argTypes := #[dT, sT] }, ty, pos, af, g⟩).run P w = .ok (.value (.int .i64 (q : Nat))) (w.setRow b (cs.take o ++ vs.take q ++ cs.drop (o + q)).toArray) := by
    simp only [execOp, resolve, invoke, builtin, Sem.run_bind, Sem.run_pure, Result.andThen_ok, List.map_toArray, List.map_cons, List.map_nil, hs.eval hx, hs.eval hy, hrun]
  unfold Oper.wp
  rw [hrun']
  exact hk () _ (hm.setBlk (hr.out _))
theorem slicedAt_lt (b o k N : Nat) (h : o < N) : slicedAt ⟨b, 0, none⟩ o k N 1 = .slice (some ⟨b, o, none⟩) (k - o) (N - o) := by
  unfold slicedAt
  rw [if_neg (by omega), add_lit]
  simp
/-! ### Elements and fields of values -/
theorem q_idxV {t e N : Nat} {x i : Operand} {cs : List Value} {k : IntKind} {m : Int} {z v : Value} {by_ : Nat} {d : TypeDesc} (hu : P.underlying t = some (.array N e)) (he : TyI P e z 1 by_) (hd : P.underlying e = some d) (ha : isAggD d = false)
    (hx : ev L x = some (.agg cs.toArray)) (hi : ev L i = some (.int k m)) (h0 : 0 ≤ m) (h1 : m < N) (j : Nat) (hj : m.toNat = j) (hv : cs[j]? = some v) : QOp P n R L (.index t x i) v := by
  intro d' ty pos af g a w hs _
  subst hj
  have hp : (part e cs.toArray (m.toNat * 1)).run P w = .ok v w := by
    unfold part
    simp [run_agg hd, ha, hv, run_sz he]
  simp only [execOp, hs.eval hx, hs.eval hi]
  simp [Instr.index, asIntOf, run_underlying hu, h0, h1, run_sz he] at hp ⊢
  simp [hp]
theorem q_s2a {t e N : Nat} {x : Operand} {a : Option Addr} {len cap : Nat} (hu : P.underlying t = some (.array N e)) (hx : ev L x = some (.slice a len cap)) (hl : N ≤ len) : QOp P n R L (.sliceToArrayPointer t x) (.pointer a) := by
  intro d' ty pos af g ac w hs _
  simp only [execOp, hs.eval hx]
  simp [Instr.arrayAt, run_underlying hu, Nat.not_lt.2 hl]
theorem Mem.at_oldL {w0 w : World} {Ln : List Nat} {M : List Ent} {S : List Fact} (h : Mem w0 Ln M S w) {a : Addr} {vs : List Value} (hv : CellsAt w0.cell? a vs) (hl : a.block ∉ Ln) : CellsAt w.cell? a vs := fun j u hj =>
  h.cell_oldL (hv j u hj) (by have : (a.add j).block = a.block := by unfold Addr.add; split <;> rfl
                              rw [this]; exact hl)
theorem Seen.block_lt {w : World} {v : Value} {m sz : Nat} {vs : List Value} (h : Seen w.cell? v m sz vs) (hne : vs ≠ []) : ∀ k, v.ownBlock = some k → k < w.heap.size := by
  intro k hk
  obtain ⟨h1, a, cap, rfl, h3, h4, h5⟩ := h
  rcases h5 with ⟨rfl, _⟩ | ⟨ad, rfl, h6⟩
  · simp [Value.ownBlock] at hk
  · simp [Value.ownBlock] at hk
    subst hk
    cases vs with
    | nil => exact absurd rfl hne
    | cons x r =>
      have := h6 0 x rfl
      rw [addr_add_zero] at this
      exact World.block_lt_of_cell? w ad this
theorem Mem.at2 {w0 w : World} {b nb : Nat} {M : List Ent} {S : List Fact} (h : Mem w0 [b, nb] M S w) {v : Value} {m sz : Nat} {vs : List Value} (hv : Seen w0.cell? v m sz vs) (hb : ∀ k, v.ownBlock = some k → vs ≠ [] → k ≠ b ∧ k ≠ nb) : Seen w.cell? v m sz vs := by
  obtain ⟨h1, a, cap, rfl, h3, h4, h5⟩ := hv
  refine ⟨h1, a, cap, rfl, h3, h4, ?_⟩
  rcases h5 with h5 | ⟨ad, rfl, h6⟩
  · exact .inl h5
  · refine .inr ⟨ad, rfl, ?_⟩
    by_cases hn : vs = []
    · subst hn; intro j u hj; simp at hj
    · exact h.at_oldL h6 (by have := hb ad.block rfl hn; simp; exact this)
theorem Mem.seen_oldL {w0 w : World} {Ln : List Nat} {M : List Ent} {S : List Fact} (h : Mem w0 Ln M S w) {v : Value} {m sz : Nat} {vs : List Value} (hv : Seen w0.cell? v m sz vs) (hb : ∀ k, v.ownBlock = some k → vs ≠ [] → k ∉ Ln) : Seen w.cell? v m sz vs := by
  obtain ⟨h1, a, cap, rfl, h3, h4, h5⟩ := hv
  refine ⟨h1, a, cap, rfl, h3, h4, ?_⟩
  rcases h5 with h5 | ⟨ad, rfl, h6⟩
  · exact .inl h5
  · refine .inr ⟨ad, rfl, ?_⟩
    by_cases hn : vs = []
    · subst hn; intro j u hj; simp at hj
    · exact h.at_oldL h6 (hb ad.block rfl hn)
theorem wpc_ex {ι : Type} {p : ι → Prop} {R' : ι → World → Prop} {c : Code} (h : ∀ w, R w → ∃ x, p x ∧ R' x w) (k : ∀ x, p x → WPC P Q n (R' x) L c) : WPC P Q n R L c := fun a w hs hr => by
  obtain ⟨x, hp, hr'⟩ := h w hr
  exact k x hp a w hs hr'
/-- What a call that turns lent blocks promises. -/
def GivesL {ι : Type} (w : World) (Ln : List Nat) (V : ι → Value) (N : ι → List Ent) (e : Ending) (w' : World) : Prop := ∃ x, e = .returned (V x) ∧ Mem w Ln (N x) [] w'
instance nop_givesL {fn : Func} {w : World} {ι : Type} {Ln : List Nat} {V : ι → Value} {N : ι → List Ent} : NoP (bodyPost P fn (GivesL w Ln V N)) := nop_post fun c w' ⟨x, h, _⟩ => by cases h
/-- A call that turns one block. -/
theorem t_turn1 {w0 : World} {Ln : List Nat} {M : List Ent} {S : List Fact} {k : FuncId} {args : Array Operand} {at_ : Array TypeId} {vs : List Value} {v : Value} (b : Nat) {t : TypeId} {cs cs' : List Value} {f : List Value → List Ent} [hr : ReplB M b t cs f] (hb : HasBody P k)
    (hv : evs L args.toList = some vs) (hc : ∀ w, Mem w0 Ln M S w → w.heap[b]? = some (.cells cs.toArray t (0, 0)) → Calls P k vs.toArray w (GivesL w [b] (fun _ : Unit => v) fun _ => [.blk b t cs'])) :
    TOp P Q n (Mem w0 Ln M S) L (.call { callee := .value (.func k), args := args, argTypes := at_ }) Unit (fun _ => v) (fun _ => Mem w0 Ln (f cs') S) :=
  t_callG (cap := #[]) rfl hb hv fun w hm => by
    simp only [Array.append_empty]
    refine (hc w hm (hm.own _ (hr.out cs).mem)).mono ?_
    rintro e w' ⟨_, rfl, h2⟩
    exact ⟨(), rfl, hm.lent1 (hr.out cs') h2⟩
end
end Go.PL
