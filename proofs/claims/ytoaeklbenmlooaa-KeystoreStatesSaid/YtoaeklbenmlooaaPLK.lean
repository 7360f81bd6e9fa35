/- Appends of zeros, copies into rows, slices held against nil, structs of any number of fields. -/
import Derived.Test.YtoaeklbenmlooaaPLJ
import Derived.Test.YtoaeklbenmlooaaPLN
import Derived.Lib.AppendZeros
import Derived.Laws.MakeOwn
namespace Go.PL
set_option linter.unusedSimpArgs false
set_option linter.unusedVariables false
open Go Go.RowKit
section
variable {P : Program} {n : Cx} {R : World → Prop} {L : Slots} {Q : Exit → Act → World → Prop}
variable {w0 : World} {Ln : List Nat} {M : List Ent} {S : List Fact}

theorem zeroCells_list (z : Array Value) (k : Nat) : (Builtin.zeroCells z k).toList = (List.replicate k z.toList).flatten := made_list z z.size rfl k

/-- 'append([]T(nil), make([]T, k)...)'. -/
theorem t_apZ {t tn e : TypeId} {s x : Operand} {k : Nat} {kk kn : IntKind} {z : Value} {sz by_ : Nat} (hu : P.underlying t = some (.slice e)) (hun : P.underlying tn = some (.int kn)) (he : TyI P e z sz by_) (hz1 : z.cells.size = sz) (hsz : 0 < sz)
    (hs_ : ev L s = some (.slice none 0 0)) (hx : ev L x = some (.int kk ((k : Nat) : Int))) (h0 : 0 < k) (h63 : k ≤ maxLen) (hby : k * by_ ≤ 140737488355328) (xs : List Value) (hxs : (List.replicate k z.cells.toList).flatten = xs) :
    TOpP P Q n (Mem w0 Ln M S) L (.call { callee := .builtin .append, args := #[s, x], argTypes := #[t, tn] }) Value (fun v => SV v k) (fun v => v) (fun v => Mem w0 Ln (.row v k e sz xs :: M) S) := by
  have h : TOp P Q n (Mem w0 Ln M S) L (.call { callee := .builtin .append, args := #[s, x], argTypes := #[t, tn] }) { v : Value // SV v k } (fun v => v.1) (fun v => Mem w0 Ln (.row v.1 k e sz xs :: M) S) := by
    intro d ty pos af g a w K hs hm hk
    obtain ⟨i, hi, hz, hsz', hby'⟩ := he.info
    subst hsz' hby'
    have r := Lib.run_append_nil_zeros (P := P) w t tn ty e i z kk kn hu hun hi hz k h0 (by omega) (by simp only [maxLen] at h63; omega) (by omega)
    have hge := grownCap_ge w k 0 e
    have hle := grownCap_le_maxLen w k 0 e h63
    have hrun : (execOp a.eval ⟨d, .call { callee := .builtin .append, args := #[s, x], argTypes := #[t, tn] }, ty, pos, af, g⟩).run P w = .ok (.value (.slice (some ⟨w.heap.size, 0, none⟩) k (grownCap w k 0 e)))
        (w.drew.alloc (.cells (Builtin.zeroCells z.cells k ++ Builtin.zeroCells z.cells (grownCap w k 0 e - k)) e)) := by
      simp only [execOp, resolve, invoke, builtin, Sem.run_bind, Sem.run_pure, Result.andThen_ok, List.map_toArray, List.map_cons, List.map_nil, hs.eval hs_, hs.eval hx, r]
    unfold Oper.wp
    rw [hrun]
    have hd : Mem w0 Ln M S w.drew := hm.drew
    have hcs : (Builtin.zeroCells z.cells k ++ Builtin.zeroCells z.cells (grownCap w k 0 e - k)) = (xs ++ (Builtin.zeroCells z.cells (grownCap w k 0 e - k)).toList).toArray := by
      apply Array.ext'
      simp [zeroCells_list, hxs]
    have hxl : xs.length = k * i.size := by
      rw [← hxs, List.length_flatten, List.map_replicate, List.sum_replicate_nat, Array.length_toList, hz1]
    rw [hcs]
    have hal := hd.allocRow e (xs ++ (Builtin.zeroCells z.cells (grownCap w k 0 e - k)).toList) k (grownCap w k 0 e) i.size xs (by
      rw [List.length_append, hxl, zeroCells_list, List.length_flatten, List.map_replicate, List.sum_replicate_nat, Array.length_toList, hz1, ← Nat.add_mul]; congr 1; omega) hge hle (by rw [← hxl]; exact List.take_left)
    exact hk ⟨_, _, _, rfl, hge, hle, fun e => by cases e⟩ _ hal
  exact h.rep fun v w h => ⟨v.1, v.2, rfl, h⟩

/-- A copy into a row of one's own, from its element l on. -/
theorem t_copyW {dT sT e : TypeId} {x y : Operand} {v u : Value} {m mu l dl : Nat} {xs vs : List Value} {f : Ent → List Ent} {z : Value} {by_ : Nat} (hu : P.underlying dT = some (.slice e)) (he : TyI P e z 1 by_)
    [hr : ReplV M v m e 1 xs f] (D : Value) (hx : ev L x = some D) (hD : ∀ g cap, v = .slice (some ⟨g, 0, none⟩) m cap → ∃ dc, D = .slice (some ⟨g, l, none⟩) dl dc) (hl : l + dl ≤ m) (hdl : 0 < dl) (hy : ev L y = some u)
    (hsrc : ∀ w, Mem w0 Ln M S w → Seen w.cell? u mu 1 vs) (h1 : ∀ v ∈ vs, v.oneCell' = true) (q : Nat) (hq : min mu dl = q) (ys : List Value) (hys : xs.take l ++ vs.take q ++ xs.drop (l + q) = ys) :
    TOp P Q n (Mem w0 Ln M S) L (.call { callee := .builtin .copy, args := #[x, y], argTypes := #[dT, sT] }) Unit (fun _ => .int .i64 (q : Nat)) (fun _ => Mem w0 Ln (f (.row v m e 1 ys)) S) := by
  intro d ty pos af g a w K hs hm hk
  subst hys
  obtain ⟨i, hi, hz, hsz, _⟩ := he.info
  have hown : w.ownsRow 0 e 1 v m xs := hm.own _ (hr.out (.blk 0 0 [])).mem
  rcases hown.2 with ⟨_, h0⟩ | ⟨gb, cap, cur, hv, _, hg, hmc, hcm, hcs, htake⟩
  · omega
  obtain ⟨dc, rfl⟩ := hD gb cap hv
  have hxl : xs.length = m := by rw [hown.1, Nat.mul_one]
  have hcl : cur.size = cap := by rw [hcs, Nat.mul_one]
  obtain ⟨q1, ad, scap, rfl, q3, q4, q5⟩ := hsrc w hm
  rw [Nat.mul_one] at q1
  have hlv : (vs.take q).length = q := by rw [List.length_take, q1]; omega
  have key : ∃ w', (Builtin.copy_ #[dT, sT] ty #[.slice (some ⟨gb, l, none⟩) dl dc, .slice ad mu scap]).run P w = .ok (.int .i64 (q : Nat)) w' ∧ Mem w0 Ln (f (.row v m e 1 (xs.take l ++ vs.take q ++ xs.drop (l + q)))) S w' := by
    rcases q5 with ⟨rfl, rfl⟩ | ⟨ad', rfl, hc⟩
    · obtain rfl : mu = 0 := by omega
      have e0 : q = 0 := by omega
      subst e0
      refine ⟨w, ?_, ?_⟩
      · have := run_copy_nil (P := P) w dT sT ty e ⟨gb, l, none⟩ dl dc hu (by simp [hi])
        rw [this]; rfl
      · have e1 : xs.take l ++ vs.take 0 ++ xs.drop (l + 0) = xs := by simp
        rw [e1]
        exact hm.turn (hr.out _) rfl rfl rfl (Nat.le_refl _) (fun _ _ _ => rfl) hown (fun k hk => .inl hk)
    · have := run_copy_row (P := P) w dT sT ty e gb l dl dc ad' mu scap cur e (vs.take q) hu (by simp [hi, hsz]) hg (hlv.trans hq.symm)
        (fun j v hj => hc j v (by rw [List.getElem?_take] at hj; split at hj <;> first | exact hj | cases hj)) (by rw [hlv]; omega) (fun v hv => h1 v (List.mem_of_mem_take hv))
      refine ⟨_, this.trans (by rw [hlv]; rfl), ?_⟩
      have hset := Mem.setRowN hm (hr.out (.row v m e 1 (xs.take l ++ vs.take q ++ xs.drop (l + q)))) hv hg (j := l) (vs := vs.take q) (by rw [hlv]; omega) (by rw [hlv])
      rw [hlv] at hset
      exact hset
  obtain ⟨w', r1, r2⟩ := key
  have hrun : (execOp a.eval ⟨d, .call { callee := .builtin .copy, args := #[x, y], argTypes := #[dT, sT] }, ty, pos, af, g⟩).run P w = .ok (.value (.int .i64 (q : Nat))) w' := by
    simp only [execOp, resolve, invoke, builtin, Sem.run_bind, Sem.run_pure, Result.andThen_ok, List.map_toArray, List.map_cons, List.map_nil, hs.eval hx, hs.eval hy, r1]
  unfold Oper.wp
  rw [hrun]
  exact hk () _ r2

/-- A field's address, its offset told. -/
theorem q_fieldPo {t : Nat} {x : Operand} {f : Nat} {fs : Array Field} {fd : Field} {ad : Addr} {z : Value} {sz by_ : Nat} (o : Nat) (hu : P.underlying t = some (.struct fs)) (hf : fs[f]? = some fd) (hz : TyI P fd.type z sz by_) (hsz : Nat.beq sz 0 = false)
    (hx : ev L x = some (.pointer (some ad))) (ho : fd.offset = o) : QOp P n R L (.fieldAddr t x f) (.pointer (some (ad.add o))) := ho ▸ q_fieldP hu hf hz hsz hx
/-- A slice held against nil. -/
theorem q_slNil {t e t' : TypeId} {x y : Operand} {a : Option Addr} {len cap : Nat} (hp : P.underlying t = some (.slice e)) (hx : ev L x = some (.slice a len cap)) (hy : ev L y = some (.slice none 0 0)) (hg : P.eqGuardType P.depth t = false) : QOp P n R L (.binOp .eql t x y t') (.bool a.isNone) := by
  intro d ty pos af g ac w hs _
  have h : ∀ d : Nat, (Op.equalIn (d + 1) t (.slice a len cap) (.slice none 0 0)).run P w = .ok a.isNone w := fun d => by
    cases a <;> simp [Op.equalIn, run_underlying hp]
  simp only [execOp, hs.eval hx, hs.eval hy]
  have h2 : (binOp .eql t (.slice a len cap) (.slice none 0 0)).run P w = .ok (.bool a.isNone) w := by
    simp only [binOp]
    simp [Op.equal, Op.maxDepth, h 9999]
  simp [eqGuard, hg, h2]
end
end Go.PL

namespace Go.PL
set_option linter.unusedVariables false
set_option linter.unusedSimpArgs false
open Go Go.RowKit Go.ChangeShapes Go.Deep
section
variable {H : Type} {enc : TypeId × Value → H} {P : Program} {w : World} {base : Nat} {sp : Nat → Bool} {held : Bool}
/-- The fields of a struct from an offset on. -/
def OpensFs (enc : TypeId × Value → H) (P : Program) (w : World) (base : Nat) (sp : Nat → Bool) (held : Bool) (fs : List Field) (off fin : Nat) {α : Type} (R : α → List Value → Prop) : Prop :=
  ∀ (n : Nat) (cs : List Value), cs.length = fin → (∀ f ∈ fs, ∃ y, DataW.trod enc P w base sp held n f.type ((cs.drop f.offset).take (P.cellsOf f.type)) = some y) → ∃ a, R a (cs.drop off)
theorem OpensFs.nil (off : Nat) : OpensFs enc P w base sp held [] off off (fun (_ : Unit) c => c = []) := fun n cs hl _ => ⟨(), List.drop_of_length_le (Nat.le_of_eq hl)⟩
theorem OpensFs.cons {f : Field} {fs : List Field} {off s fin : Nat} {α β : Type} {R0 : α → List Value → DataW H → Prop} {R1 : β → List Value → Prop} (ho : f.offset = off) (hc : P.cellsOf f.type = s) (h : Opens enc P w base sp held f.type R0) (hr : OpensFs enc P w base sp held fs (off + s) fin R1) :
    OpensFs enc P w base sp held (f :: fs) off fin (fun (p : α × β) c => ∃ x y d, c = x ++ y ∧ R0 p.1 x d ∧ R1 p.2 y) := by
  intro n cs hl hf
  obtain ⟨y, hy⟩ := hf f (List.mem_cons_self ..)
  obtain ⟨a, ha⟩ := h _ _ _ hy
  obtain ⟨b, hb⟩ := hr n cs hl (fun g hg => hf g (List.mem_cons_of_mem _ hg))
  refine ⟨(a, b), _, _, _, ?_, ha, hb⟩
  rw [ho, hc, ← List.drop_drop, List.take_append_drop]
theorem opens_struct {t : TypeId} {fs : Array Field} {fin : Nat} {α : Type} {R : α → List Value → Prop} (ht : P.underlying t = some (.struct fs)) (hc : P.cellsOf t = fin) (h : OpensFs enc P w base sp held fs.toList 0 fin R) :
    Opens enc P w base sp held t (fun a c _ => R a c) := by
  intro n cs x hx
  obtain ⟨xs, m, _, _, hl, hlen, hf⟩ := DataW.trod_struct ht hx
  obtain ⟨a, ha⟩ := h m cs (hl.trans hc) (fun f hfm => by
    obtain ⟨i, hi, he⟩ := List.mem_iff_getElem.1 hfm
    have h1 : fs[i]? = some f := by rw [← Array.getElem?_toList, List.getElem?_eq_getElem hi, he]
    have h2 := hf i f h1
    have h3 : i < xs.length := by rw [hlen]; simpa using hi
    exact ⟨xs[i], by rw [h2, List.getElem?_eq_getElem h3]⟩)
  exact ⟨a, by rw [List.drop_zero] at ha; exact ha⟩
end
end Go.PL

/- Calls to which a part of what is owned is lent. -/
namespace Go.PL
set_option linter.unusedVariables false
set_option linter.unusedSimpArgs false
open Go Go.RowKit
section
variable {P : Program} {n : Cx} {R : World → Prop} {L : Slots} {Q : Exit → Act → World → Prop}
variable {w0 w : World} {Ln : List Nat} {M : List Ent} {S : List Fact}
theorem Mem.framedS {X M' : List Ent} {w1 : World} {S' : List Fact} (h1 : Mem w0 Ln (X ++ M) S w1) (h2 : Mem w1 (nums M) M' S' w) : Mem w0 Ln (X ++ M') S w := by
  have h := h1.framed h2
  refine ⟨h.os, h.tape, h.output, h.size, h.old, h.own, h.new, h.apart, fun s hs => s.mono _ _ (fun a v hv => ?_) (h1.facts s hs)⟩
  simp only [rdF] at hv ⊢
  split at hv
  · rename_i hc
    have hlt := World.block_lt_of_cell? w1 a hv
    have h3 := hc.2
    rw [inM_append, Bool.or_eq_false_iff] at h3
    have hn : a.block ∉ nums M := fun hm => by
      obtain ⟨e, he, hn⟩ := mem_nums.1 hm
      exact inM_not h3.2 e he hn
    have h4 : inM M' a.block = false := by
      cases hm : inM M' a.block
      · rfl
      · obtain ⟨e, he, hn2⟩ := inM_iff.1 hm
        rcases h2.new e he _ hn2 with h5 | h5
        · omega
        · exact absurd h5 hn
    rw [if_pos ⟨hc.1, by rw [inM_append, h3.1, h4]; rfl⟩, World.cell?_of_block (h2.old a.block hlt hn)]
    exact hv
  · cases hv
theorem t_callS {k : FuncId} {args : Array Operand} {at_ : Array TypeId} {vs : List Value} {ι : Type} {p : ι → Prop} {V : ι → Value} {N : ι → List Ent} (X M1 : List Ent) (Z : ι → List Ent) (hM : M = X ++ M1) (hZ : ∀ x, X ++ N x = Z x) (hb : HasBody P k) (hv : evs L args.toList = some vs)
    (hc : ∀ w, Mem w0 Ln (X ++ M1) S w → Mem w (nums M1) M1 [] w → Calls P k vs.toArray w (GivesA w M1 p V N)) :
    TOpP P Q n (Mem w0 Ln M S) L (.call { callee := .value (.func k), args := args, argTypes := at_ }) ι p V (fun x => Mem w0 Ln (Z x) S) := by
  subst hM
  obtain rfl : (fun x => X ++ N x) = Z := funext hZ
  have h : TOp P Q n (Mem w0 Ln (X ++ M1) S) L (.call { callee := .value (.func k), args := args, argTypes := at_ }) { x : ι // p x } (fun x => V x.1) (fun x => Mem w0 Ln (X ++ N x.1) S) :=
    t_callG (cap := #[]) rfl hb hv fun w hm => by
      simp only [Array.append_empty]
      refine (hc w hm (Mem.startL w (fun e he => hm.own e (List.mem_append_right _ he)) (List.pairwise_append.1 hm.apart).2.1)).mono ?_
      rintro en w' ⟨x, hp, rfl, h2⟩
      exact ⟨⟨x, hp⟩, rfl, hm.framedS h2⟩
  exact h.rep fun x w h => ⟨x.1, x.2, rfl, h⟩
/-- The same through a function value. -/
theorem t_callSV {f : Operand} {k : FuncId} {args : Array Operand} {at_ : Array TypeId} {cap : Array Value} {vs : List Value} {ι : Type} {p : ι → Prop} {V : ι → Value} {N : ι → List Ent} (X M1 : List Ent) (Z : ι → List Ent) (hM : M = X ++ M1) (hZ : ∀ x, X ++ N x = Z x) (hf : ev L f = some (.func (.func k) #[] cap)) (hb : HasBody P k) (hv : evs L args.toList = some vs)
    (hc : ∀ w, Mem w0 Ln (X ++ M1) S w → Mem w (nums M1) M1 [] w → Calls P k (vs.toArray ++ cap) w (GivesA w M1 p V N)) :
    TOpP P Q n (Mem w0 Ln M S) L (.call { callee := .value f, args := args, argTypes := at_ }) ι p V (fun x => Mem w0 Ln (Z x) S) := by
  subst hM
  obtain rfl : (fun x => X ++ N x) = Z := funext hZ
  have h : TOp P Q n (Mem w0 Ln (X ++ M1) S) L (.call { callee := .value f, args := args, argTypes := at_ }) { x : ι // p x } (fun x => V x.1) (fun x => Mem w0 Ln (X ++ N x.1) S) :=
    t_callG hf hb hv fun w hm => by
      refine (hc w hm (Mem.startL w (fun e he => hm.own e (List.mem_append_right _ he)) (List.pairwise_append.1 hm.apart).2.1)).mono ?_
      rintro en w' ⟨x, hp, rfl, h2⟩
      exact ⟨⟨x, hp⟩, rfl, hm.framedS h2⟩
  exact h.rep fun x w h => ⟨x.1, x.2, rfl, h⟩
/-- A region in an open order whose loads look at a part of memory alone. -/
theorem wpc_drawM {id : Nat} {l : List Oper} (M0 : List Ent) (k : Nat) (hm : P.follows .mixedOrders = true) (hM : Sub M0 M)
    (h : WPD P l.toArray Q n k (Mem w0 Ln M0 S) (Mem w0 Ln M S) L l.length (Array.replicate l.length false)) : WPC P Q n (Mem w0 Ln M S) L (.region id l.toArray true) := by
  intro a w hs hr
  refine wp_region_any hm (wpAny_of_I (S := SK k (Mem w0 Ln M0 S)) _ _ _ _ ?_)
  have := h a { w with drawn := w.drawn + 1 } hs hr.drew
  simpa using this
theorem wic_drawM {F : Fence} {id : Nat} {l : List Oper} (M0 : List Ent) (k : Nat) (hm : P.follows .mixedOrders = true) (hM : Sub M0 M)
    (h : WPDI F P l.toArray Q n k (Mem w0 Ln M0 S) (Mem w0 Ln M S) L l.length (Array.replicate l.length false)) : WPCI F P Q n (Mem w0 Ln M S) L (.region id l.toArray true) := by
  intro a w hs hr
  refine wpIn_region_any hm (wpAnyIn_of_J (S := SK k (Mem w0 Ln M0 S)) _ _ _ _ ?_)
  have := h a { w with drawn := w.drawn + 1 } hs hr.drew
  simpa using this
/-- Entries in another order. -/
theorem wpc_perm {c : Code} {M' : List Ent} (hp : M.Perm M') (next : WPC P Q n (Mem w0 Ln M' S) L c) : WPC P Q n (Mem w0 Ln M S) L c := fun a w hs h => next a w hs (h.perm hp)
theorem wpl_perm {ops : Array Oper} {rest : List Oper} {M' : List Ent} (hp : M.Perm M') (next : WPL P ops Q n (Mem w0 Ln M' S) L rest) : WPL P ops Q n (Mem w0 Ln M S) L rest := fun a w hs h => next a w hs (h.perm hp)
end
end Go.PL
