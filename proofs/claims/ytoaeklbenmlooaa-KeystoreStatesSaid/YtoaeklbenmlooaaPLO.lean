/- Operations with types and with memory, a rule each. -/
import Derived.Test.YtoaeklbenmlooaaPLM
import Derived.Laws.CopyRow
import Derived.Laws.Cells
import Derived.Laws.Entries
namespace Go.PL
set_option linter.unusedSimpArgs false
set_option linter.unusedVariables false
open Go Go.RowKit

/-- What the rules ask of a type: its zero value, its number of cells, its bytes. -/
def TyI (P : Program) (t : TypeId) (z : Value) (sz by_ : Nat) : Prop := (P.info? t).map (fun i => (i.zero, i.size, i.bytes)) = some (some z, sz, by_)

def isAggD : TypeDesc → Bool
  | .struct _ => true
  | .array _ _ => true
  | _ => false

section
variable {P : Program} {n : Cx} {R : World → Prop} {L : Slots} {Q : Exit → Act → World → Prop}

theorem TyI.info {t : TypeId} {z : Value} {sz by_ : Nat} (h : TyI P t z sz by_) : ∃ i, P.info? t = some i ∧ i.zero = some z ∧ i.size = sz ∧ i.bytes = by_ := by
  unfold TyI at h
  cases hi : P.info? t with
  | none => simp [hi] at h
  | some i => simp [hi] at h; exact ⟨i, rfl, h.1, h.2.1, h.2.2⟩

theorem run_sz {t : TypeId} {z : Value} {sz by_ : Nat} (h : TyI P t z sz by_) (w : World) : (sizeOf t).run P w = .ok sz w := by
  obtain ⟨i, hi, _, hs, _⟩ := h.info
  simp [sizeOf, typeInfo, hi, hs]

theorem run_zero {t : TypeId} {z : Value} {sz by_ : Nat} (h : TyI P t z sz by_) (w : World) : (zeroValue t).run P w = .ok z w := by
  obtain ⟨i, hi, hz, _, _⟩ := h.info
  simp [zeroValue, typeInfo, hi, hz]

theorem run_agg {t : TypeId} {d : TypeDesc} (h : P.underlying t = some d) (w : World) : (isAgg t).run P w = .ok (isAggD d) w := by
  cases d <;> simp [isAgg, run_underlying h, isAggD]

theorem add_lit (b o j : Nat) : (⟨b, o, none⟩ : Addr).add j = ⟨b, o + j, none⟩ := by
  unfold Addr.add; split <;> simp_all

/-! ### Addresses and values -/
theorem q_idxA {t e len : Nat} {x i : Operand} {b off : Nat} {k : IntKind} {m : Int} {z : Value} {sz by_ : Nat} (hu : P.underlying t = some (.array len e)) (he : TyI P e z sz by_)
    (hx : ev L x = some (.pointer (some ⟨b, off, none⟩))) (hi : ev L i = some (.int k m)) (h0 : 0 ≤ m) (h1 : m < len) (o' : Nat) (ho : off + m.toNat * sz = o') :
    QOp P n R L (.indexAddr t x i) (.pointer (some ⟨b, o', none⟩)) := by
  intro d ty pos af g a w hs _
  subst ho
  simp only [execOp, hs.eval hx, hs.eval hi]
  simp [Instr.indexAt, asIntOf, run_underlying hu, Instr.sureAddr, h0, h1, run_sz he, add_lit]

theorem q_idxS {t e : Nat} {x i : Operand} {ad : Addr} {len cap : Nat} {k : IntKind} {m : Int} {z : Value} {sz by_ : Nat} (hu : P.underlying t = some (.slice e)) (he : TyI P e z sz by_)
    (hx : ev L x = some (.slice (some ad) len cap)) (hi : ev L i = some (.int k m)) (h0 : 0 ≤ m) (h1 : m < len) (j : Nat) (hj : m.toNat * sz = j) :
    QOp P n R L (.indexAddr t x i) (.pointer (some (ad.add j))) := by
  intro d ty pos af g a w hs _
  subst hj
  simp only [execOp, hs.eval hx, hs.eval hi]
  simp [Instr.indexAt, asIntOf, run_underlying hu, h0, h1, run_sz he]

theorem q_field {t : Nat} {x : Operand} {f : Nat} {fs : Array Field} {fd : Field} {b off : Nat} {z : Value} {sz by_ : Nat} (hu : P.underlying t = some (.struct fs)) (hf : fs[f]? = some fd) (hz : TyI P fd.type z sz by_) (hsz : Nat.beq sz 0 = false)
    (hx : ev L x = some (.pointer (some ⟨b, off, none⟩))) (o' : Nat) (ho : off + fd.offset = o') : QOp P n R L (.fieldAddr t x f) (.pointer (some ⟨b, o', none⟩)) := by
  intro d ty pos af g a w hs _
  subst ho
  have : ¬ sz = 0 := fun e => by subst e; simp at hsz
  simp only [execOp, hs.eval hx]
  simp [Instr.fieldAt, run_underlying hu, hf, Instr.sureAddr, fieldPlace, run_sz hz, this, add_lit]

/-- An address that isn't written out. -/
theorem q_fieldP {t : Nat} {x : Operand} {f : Nat} {fs : Array Field} {fd : Field} {ad : Addr} {z : Value} {sz by_ : Nat} (hu : P.underlying t = some (.struct fs)) (hf : fs[f]? = some fd) (hz : TyI P fd.type z sz by_) (hsz : Nat.beq sz 0 = false)
    (hx : ev L x = some (.pointer (some ad))) : QOp P n R L (.fieldAddr t x f) (.pointer (some (ad.add fd.offset))) := by
  intro d ty pos af g a w hs _
  have : ¬ sz = 0 := fun e => by subst e; simp at hsz
  simp only [execOp, hs.eval hx]
  simp [Instr.fieldAt, run_underlying hu, hf, Instr.sureAddr, fieldPlace, run_sz hz, this]

theorem q_conv {s t : Nat} {x : Operand} {k k' : IntKind} {m : Int} {ds : TypeDesc} (hs' : P.underlying s = some ds) (hu : P.underlying t = some (.int k)) (hx : ev L x = some (.int k' m)) : QOp P n R L (.convert s t x) (.int k (wk k m)) := by
  intro d ty pos af g a w hs _
  simp only [execOp, hs.eval hx]
  simp [convert, run_underlying hs', run_underlying hu, Conv.intToInt, wk_eq]

theorem q_len {x : Operand} {t e : TypeId} {ad : Option Addr} {len cap : Nat} (hu : P.underlying t = some (.slice e)) (hx : ev L x = some (.slice ad len cap)) :
    QOp P n R L (.call { callee := .builtin .len, args := #[x], argTypes := #[t] }) (.int .i64 len) := by
  intro d ty pos af g a w hs _
  simp only [execOp, resolve, invoke, builtin, List.map_toArray, List.map_cons, List.map_nil, hs.eval hx]
  simp [Builtin.len_, run_underlying hu, goInt]

theorem q_lenStr {x : Operand} {t : TypeId} {s : ByteArray} (hu : P.underlying t = some .string) (hx : ev L x = some (.string s)) :
    QOp P n R L (.call { callee := .builtin .len, args := #[x], argTypes := #[t] }) (.int .i64 s.size) := by
  intro d ty pos af g a w hs _
  simp only [execOp, resolve, invoke, builtin, List.map_toArray, List.map_cons, List.map_nil, hs.eval hx]
  simp [Builtin.len_, run_underlying hu, goInt]

theorem q_fn {fn : Fn} {first captured : Array Operand} {us vs : List Value} (hf : first.toList.map (ev L) = us.map some) (hc : captured.toList.map (ev L) = vs.map some) :
    QOp P n R L (.makeFunc fn first captured) (.func fn us.toArray vs.toArray) := by
  intro d ty pos af g a w hs _
  have key : ∀ (xs : List Operand) (us : List Value), xs.map (ev L) = us.map some → xs.map a.eval = us := by
    intro xs
    induction xs with
    | nil => intro us h; cases us with
      | nil => rfl
      | cons => simp at h
    | cons x xs ih => intro us h; cases us with
      | nil => simp at h
      | cons u us =>
        simp only [List.map_cons, List.cons.injEq] at h
        simp only [List.map_cons, hs.eval h.1, ih us h.2]
  have h1 : first.map a.eval = us.toArray := by
    have e : (first.map a.eval).toList = us := by rw [Array.toList_map]; exact key _ _ hf
    rw [← e]
  have h2 : captured.map a.eval = vs.toArray := by
    have e : (captured.map a.eval).toList = vs := by rw [Array.toList_map]; exact key _ _ hc
    rw [← e]
  simp only [execOp, h1, h2]
  simp [Instr.makeFunc]

/-- An array's or a slice's part. -/
theorem q_sliceA {t e len : Nat} {x : Operand} {lo hi : Option Operand} {b off : Nat} {l h : Nat} {z : Value} {sz by_ : Nat} (hu : P.underlying t = some (.array len e)) (he : TyI P e z sz by_)
    (hx : ev L x = some (.pointer (some ⟨b, off, none⟩))) (hlo : match lo with | none => l = 0 | some o => ∃ (k : IntKind) (m : Int), ev L o = some (.int k m) ∧ 0 ≤ m ∧ m.toNat = l)
    (hhi : match hi with | none => h = len | some o => ∃ (k : IntKind) (m : Int), ev L o = some (.int k m) ∧ 0 ≤ m ∧ m.toNat = h) (hlh : l ≤ h) (hhn : h ≤ len) (hne : Nat.beq len l = false) :
    QOp P n R L (.slice t x lo hi none) (.slice (some ⟨b, off + l * sz, none⟩) (h - l) (len - l)) := by
  intro d ty pos af g a w hs _
  have hne' : ¬ len = l := fun e => by subst e; simp at hne
  have hb : ∀ (o : Operand) (y : Nat) (c : BoundsCode) (l : Nat), (∃ (k : IntKind) (m : Int), ev L o = some (.int k m) ∧ 0 ≤ m ∧ m.toNat = l) → l ≤ y → (Instr.sliceBound (a.eval o) y c).run P w = .ok l w := by
    rintro o y c l ⟨k, m, ho, h0, rfl⟩ hy
    have : m ≤ (y : Int) := by omega
    simp only [hs.eval ho]
    simp [Instr.sliceBound, asIntOf, h0, this]
  simp only [execOp, hs.eval hx]
  cases lo with
  | none =>
    simp only at hlo; subst hlo
    cases hi with
    | none =>
      simp only at hhi; subst hhi
      simp [Instr.sliceAt, run_underlying hu, Instr.sureAddr, Instr.sliceBounds, run_sz he, add_lit]
    | some oh =>
      simp only at hhi
      have h2 := hb oh len .sliceAlen h hhi hhn
      simp [Instr.sliceAt, run_underlying hu, Instr.sureAddr, Instr.sliceBounds, run_sz he, h2, add_lit]
  | some ol =>
    simp only at hlo
    have h1 := hb ol h .sliceB l hlo hlh
    cases hi with
    | none =>
      simp only at hhi; subst hhi
      simp [Instr.sliceAt, run_underlying hu, Instr.sureAddr, Instr.sliceBounds, run_sz he, h1, add_lit, hne']
    | some oh =>
      simp only at hhi
      have h2 := hb oh len .sliceAlen h hhi hhn
      simp [Instr.sliceAt, run_underlying hu, Instr.sureAddr, Instr.sliceBounds, run_sz he, h1, h2, add_lit, hne']

/-! ### Reading -/
theorem q_load1 {t : TypeId} {x : Operand} {ad : Addr} {v : Value} {d : TypeDesc} (hu : P.underlying t = some d) (hd : isAggD d = false) (hx : ev L x = some (.pointer (some ad)))
    (hc : ∀ w, R w → w.cell? ad = some v) : QOp P n R L (.load t x) v := by
  intro d' ty pos af g a w hs hr
  simp only [execOp, hs.eval hx]
  simp [Instr.loadAt, Instr.sureAddr, loadVar, run_agg hu, hd, load, Sem.run, hc w hr]

theorem q_loadN {t : TypeId} {x : Operand} {ad : Addr} {cs : List Value} {d : TypeDesc} {z : Value} {sz by_ : Nat} (hu : P.underlying t = some d) (hd : isAggD d = true) (ht : TyI P t z sz by_)
    (hx : ev L x = some (.pointer (some ad))) (hc : ∀ w, R w → ∀ j v, cs[j]? = some v → w.cell? (ad.add j) = some v) (hl : cs.length = sz) : QOp P n R L (.load t x) (.agg cs.toArray) := by
  intro d' ty pos af g a w hs hr
  subst hl
  have := run_loadCells_list (P := P) w ad cs (hc w hr)
  simp only [execOp, hs.eval hx]
  simp [Instr.loadAt, Instr.sureAddr, loadVar, run_agg hu, hd, run_sz ht, this]

/-! ### Making and writing -/
variable {w0 : World} {Ln : List Nat} {M : List Ent} {S : List Fact}

theorem t_alloc {t : TypeId} {z : Value} {sz by_ : Nat} (ht : TyI P t z sz by_) (cs : List Value) (hz : z.cells.toList = cs) :
    TOp P Q n (Mem w0 Ln M S) L (.alloc t) Nat (fun b => .pointer (some ⟨b, 0, none⟩)) (fun b => Mem w0 Ln (.blk b t cs :: M) S) := by
  intro d ty pos af g a w K hs hr hk
  subst hz
  have h := hk w.heap.size (w.alloc (.cells z.cells t)) (by simpa using hr.alloc t z.cells.toList)
  have hrun : (execOp a.eval ⟨d, .alloc t, ty, pos, af, g⟩).run P w = .ok (.value (.pointer (some ⟨w.heap.size, 0, none⟩))) (w.alloc (.cells z.cells t)) := by
    simp only [execOp]
    simp [Instr.alloc, run_zero ht, newVar, newRow]
  unfold Oper.wp
  rw [hrun]
  exact h

theorem t_box {t : TypeId} {x : Operand} {v : Value} (hx : ev L x = some v) (cs : List Value) (hz : v.cells.toList = cs) :
    TOp P Q n (Mem w0 Ln M S) L (.box t x) Nat (fun b => .pointer (some ⟨b, 0, none⟩)) (fun b => Mem w0 Ln (.blk b t cs :: M) S) := by
  intro d ty pos af g a w K hs hr hk
  subst hz
  have h := hk w.heap.size (w.alloc (.cells v.cells t)) (by simpa using hr.alloc t v.cells.toList)
  have hrun : (execOp a.eval ⟨d, .box t x, ty, pos, af, g⟩).run P w = .ok (.value (.pointer (some ⟨w.heap.size, 0, none⟩))) (w.alloc (.cells v.cells t)) := by
    simp only [execOp, hs.eval hx]
    simp [Instr.box, newVar, newRow]
  unfold Oper.wp
  rw [hrun]
  exact h

theorem setRow_frame (w : World) (b : Nat) (cs : Array Value) : (w.setRow b cs).os = w.os ∧ (w.setRow b cs).tape = w.tape ∧ (w.setRow b cs).output = w.output ∧ (w.setRow b cs).heap.size = w.heap.size :=
  ⟨rfl, rfl, rfl, by simp [World.setRow]⟩

theorem Mem.setBlk {w : World} {M' : List Ent} {b : Nat} {t : TypeId} {cs cs' : List Value} (h : Mem w0 Ln M S w) (hr : Repl M (.blk b t cs) (.blk b t cs') M') : Mem w0 Ln M' S (w.setRow b cs'.toArray) := by
  have hb : w.heap[b]? = some (.cells cs.toArray t (0, 0)) := h.own _ hr.mem
  obtain ⟨h1, h2, h3, h4⟩ := setRow_frame w b cs'.toArray
  refine h.turn hr h1 h2 h3 (by omega) (fun k _ hne => setRow_other w b k _ (fun e => hne (by simp [Ent.num, e]))) ?_ ?_
  · exact setRow_heap w b _ _ t _ hb
  · intro k hk; exact .inl hk

/-- A store into a block of one's own: cells 'vs' at 'off'. -/
theorem t_store {t : TypeId} {x y : Operand} {b off : Nat} {tb : TypeId} {cs cs' : List Value} {M' : List Ent} {v : Value} {vs : List Value} {z : Value} {sz by_ : Nat} (ht : TyI P t z sz by_)
    (hx : ev L x = some (.pointer (some ⟨b, off, none⟩))) (hy : ev L y = some v) (hv : v.cells.toList = vs) (hl : vs.length = sz) (h1 : ∀ u ∈ vs, u.oneCell' = true) (hin : off + vs.length ≤ cs.length)
    (hcs : cs.take off ++ vs ++ cs.drop (off + vs.length) = cs') (hr : Repl M (.blk b tb cs) (.blk b tb cs') M') :
    TOp P Q n (Mem w0 Ln M S) L (.store t x y) Unit (fun _ => undef) (fun _ => Mem w0 Ln M' S) := by
  intro d ty pos af g a w K hs hm hk
  subst hcs
  subst hv
  have hb : w.heap[b]? = some (.cells cs.toArray tb (0, 0)) := hm.own _ hr.mem
  have hst := run_storeCells_at (P := P) b off tb v.cells.toList 0 cs.toArray w hb (by simpa using hin) h1
  simp only [Nat.add_zero] at hst
  have hrun : (execOp a.eval ⟨d, .store t x y, ty, pos, af, g⟩).run P w = .ok .skip (w.setRow b (cs.take off ++ v.cells.toList ++ cs.drop (off + v.cells.toList.length)).toArray) := by
    simp only [execOp, hs.eval hx, hs.eval hy]
    have hl' : v.cells.size = sz := by simpa using hl
    simp only [Instr.storeAt, Instr.sureAddr, storeVar]
    simp [run_sz ht, hl', hst]
  unfold Oper.wp
  rw [hrun]
  exact hk () _ (hm.setBlk hr)

/-! ### Calls -/
def evs (L : Slots) : List Operand → Option (List Value)
  | [] => some []
  | x :: r => match ev L x, evs L r with
    | some v, some vs => some (v :: vs)
    | _, _ => none

theorem evs_eval {a : Act} (hs : Sl n a L) : ∀ {xs : List Operand} {vs : List Value}, evs L xs = some vs → xs.map a.eval = vs
  | [], vs, h => by simp [evs] at h; subst h; rfl
  | x :: r, vs, h => by
    simp only [evs] at h
    split at h
    · rename_i v us hv hus
      cases h
      simp [hs.eval hv, evs_eval hs hus]
    · cases h

/-- The function has a body of its own. -/
def HasBody (P : Program) (f : FuncId) : Prop := ∃ fn, P.funcs[f]? = some fn ∧ (fn.name == "runtime.NumGoroutine") = false ∧ fn.body.isNone = false

theorem run_callFunc {f : FuncId} (h : HasBody P f) (args : Array Value) (w : World) : (callFunc f args).run P w = .ok (.enter f args) w := by
  obtain ⟨fn, hf, hn, hb⟩ := h
  have hn' : ¬ fn.name = "runtime.NumGoroutine" := by simpa using hn
  have hb' : ¬ fn.body = none := fun e => by rw [e] at hb; simp at hb
  simp [callFunc, hf, hn', hb']

/-- What a call's contract says: it returns, what was there is as it was, and so is what it made. -/
def Gives {ι : Type} (w : World) (V : ι → Value) (N : ι → List Ent) (T : ι → List Fact) (e : Ending) (w' : World) : Prop :=
  ∃ x, e = .returned (V x) ∧ Below w.heap.size w w' ∧ New w.heap.size (N x) (T x) w'

theorem t_callG {f : Operand} {k : FuncId} {args : Array Operand} {at_ : Array TypeId} {cap : Array Value} {vs : List Value} {ι : Type} {V : ι → Value} {R' : ι → World → Prop}
    (hf : ev L f = some (.func (.func k) #[] cap)) (hb : HasBody P k) (hv : evs L args.toList = some vs)
    (hc : ∀ w, R w → Calls P k (vs.toArray ++ cap) w fun e w' => ∃ x, e = .returned (V x) ∧ R' x w') :
    TOp P Q n R L (.call { callee := .value f, args := args, argTypes := at_ }) ι V R' := by
  intro d ty pos af g a w K hs hm hk
  have hargs : args.map a.eval = vs.toArray := by
    have e : (args.map a.eval).toList = vs := by rw [Array.toList_map]; exact evs_eval hs hv
    rw [← e]
  have hrun : (execOp a.eval ⟨d, .call { callee := .value f, args := args, argTypes := at_ }, ty, pos, af, g⟩).run P w = .ok (.enter k (vs.toArray ++ cap)) w := by
    simp only [execOp, resolve, hs.eval hf, hargs]
    simp [Deferred.ofValue, invoke, run_callFunc hb]
  unfold Oper.wp
  rw [hrun]
  refine (hc w hm).mono ?_
  rintro e w' ⟨x, rfl, h⟩
  exact hk x w' h

/-- A call of a function by its number. -/
theorem t_call {k : FuncId} {args : Array Operand} {at_ : Array TypeId} {vs : List Value} {ι : Type} {V : ι → Value} {N : ι → List Ent} {T : ι → List Fact}
    (hb : HasBody P k) (hv : evs L args.toList = some vs) (hc : ∀ w, Mem w0 Ln M S w → Calls P k vs.toArray w (Gives w V N T)) :
    TOp P Q n (Mem w0 Ln M S) L (.call { callee := .value (.func k), args := args, argTypes := at_ }) ι V (fun x => Mem w0 Ln (N x ++ M) (T x ++ S)) :=
  t_callG (cap := #[]) rfl hb hv fun w hm => by
    simp only [Array.append_empty]
    refine (hc w hm).mono ?_
    rintro e w' ⟨x, rfl, hbel, hnew⟩
    exact ⟨x, rfl, hm.call hbel hnew⟩

/-- A function that only reckons. -/
def Pur (w : World) (v : Value) (e : Ending) (w' : World) : Prop := e = .returned v ∧ Below w.heap.size w w'

theorem new_nil (B : Nat) (w : World) : New B [] [] w := ⟨fun _ h => (by cases h), fun _ h => (by cases h), .nil, fun _ h => (by cases h)⟩

theorem t_pur {k : FuncId} {args : Array Operand} {at_ : Array TypeId} {vs : List Value} {v : Value}
    (hb : HasBody P k) (hv : evs L args.toList = some vs) (hc : ∀ w, Mem w0 Ln M S w → Calls P k vs.toArray w (Pur w v)) :
    TOp P Q n (Mem w0 Ln M S) L (.call { callee := .value (.func k), args := args, argTypes := at_ }) Unit (fun _ => v) (fun _ => Mem w0 Ln M S) := by
  refine t_call (N := fun _ => []) (T := fun _ => []) hb hv fun w hm => (hc w hm).mono ?_
  rintro e w' ⟨rfl, hbel⟩
  exact ⟨(), rfl, hbel, new_nil _ _⟩

/-- A store of a whole block. -/
theorem t_storeW {t : TypeId} {x y : Operand} {b : Nat} {tb : TypeId} {cs vs : List Value} {M' : List Ent} {v : Value} {z : Value} {sz by_ : Nat} (ht : TyI P t z sz by_)
    (hx : ev L x = some (.pointer (some ⟨b, 0, none⟩))) (hy : ev L y = some v) (hv : v.cells.toList = vs) (hr : Repl M (.blk b tb cs) (.blk b tb vs) M') (hl : vs.length = sz) (h1 : ∀ u ∈ vs, u.oneCell' = true) (hin : cs.length = sz) :
    TOp P Q n (Mem w0 Ln M S) L (.store t x y) Unit (fun _ => undef) (fun _ => Mem w0 Ln M' S) :=
  t_store ht hx hy hv hl h1 (by omega) (by rw [List.drop_of_length_le (by omega)]; simp) hr

/-- A store of one cell into a block of one's own. -/
theorem t_store1 {t : TypeId} {x y : Operand} {b off : Nat} {tb : TypeId} {cs cs' : List Value} {M' : List Ent} {v : Value} {z : Value} {by_ : Nat} (ht : TyI P t z 1 by_)
    (hx : ev L x = some (.pointer (some ⟨b, off, none⟩))) (hy : ev L y = some v) (hr : Repl M (.blk b tb cs) (.blk b tb cs') M') (h1 : v.oneCell' = true) (hin : off < cs.length)
    (hcs : cs.set off v = cs') :
    TOp P Q n (Mem w0 Ln M S) L (.store t x y) Unit (fun _ => undef) (fun _ => Mem w0 Ln M' S) := by
  have hv : v.cells.toList = [v] := by cases v <;> first | rfl | simp [Value.oneCell'] at h1
  refine t_store ht hx hy hv rfl (by simpa using h1) (by simp; omega) ?_ hr
  rw [← hcs, List.set_eq_take_append_cons_drop, if_pos hin]
  simp

/-- An array or a struct, of a whole block. -/
theorem t_storeA {t : TypeId} {x y : Operand} {b : Nat} {tb : TypeId} {cs vs : List Value} {M' : List Ent} {z : Value} {sz by_ : Nat} (ht : TyI P t z sz by_)
    (hx : ev L x = some (.pointer (some ⟨b, 0, none⟩))) (hy : ev L y = some (.agg vs.toArray)) (hr : Repl M (.blk b tb cs) (.blk b tb vs) M') (hl : vs.length = sz) (h1 : ∀ u ∈ vs, u.oneCell' = true) (hin : cs.length = sz) :
    TOp P Q n (Mem w0 Ln M S) L (.store t x y) Unit (fun _ => undef) (fun _ => Mem w0 Ln M' S) := t_storeW ht hx hy rfl hr hl h1 hin
/-- A part of a block. -/
theorem t_storeP {t : TypeId} {x y : Operand} {b off : Nat} {tb : TypeId} {cs cs' vs : List Value} {M' : List Ent} {z : Value} {sz by_ : Nat} (ht : TyI P t z sz by_)
    (hx : ev L x = some (.pointer (some ⟨b, off, none⟩))) (hy : ev L y = some (.agg vs.toArray)) (hr : Repl M (.blk b tb cs) (.blk b tb cs') M') (hl : vs.length = sz) (h1 : ∀ u ∈ vs, u.oneCell' = true) (hin : off + vs.length ≤ cs.length)
    (hcs : cs.take off ++ vs ++ cs.drop (off + vs.length) = cs') :
    TOp P Q n (Mem w0 Ln M S) L (.store t x y) Unit (fun _ => undef) (fun _ => Mem w0 Ln M' S) := t_store ht hx hy rfl hl h1 hin hcs hr

/-! ### A cut behind a branch; results -/
def Mid (n : Cx) {ι : Type} (L' : ι → Slots) (R' : ι → World → Prop) (a : Act) (w : World) : Prop := ∃ x, Sl n a (L' x) ∧ R' x w
theorem wpc_cut {x y : Code} (ι : Type) (L' : ι → Slots) (R' : ι → World → Prop) (h1 : WPC P (Exit.then (Mid n L' R') Q) n R L x) (h2 : ∀ i, WPC P Q n (R' i) (L' i) y) : WPC P Q n R L (.seq x y) :=
  fun a w hs hr => wp_seq (Code.wp_mono (fun e a w hq => by
    cases e <;> first | exact hq | (obtain ⟨i, h3, h4⟩ := hq; exact h2 i a w h3 h4)) (h1 a w hs hr))
theorem ex_mid {ι : Type} {L' : ι → Slots} {R' : ι → World → Prop} (i : ι) (hl : subs L (L' i)) (hr : ∀ w, R w → R' i w) : EX (Exit.then (Mid n L' R') Q) .normal n R L :=
  fun _ w hs h => ⟨i, hs.weaken (subs_get hl), hr w h⟩

/-- What a result variable yields. -/
def RVal (P : Program) (R : World → Prop) (L : Slots) : ResultVar → Value → Prop
  | .tmp t, v => get L t = some v
  | .cell c ty, v => ∃ ad, get L c = some (.pointer (some ad)) ∧ ∀ w, R w → (loadVar ty ad).run P w = .ok v w
theorem rv_tmp {t : Tmp} {v : Value} (h : get L t = some v) : RVal P R L (.tmp t) v := h
theorem rv_agg {c : Tmp} {t : TypeId} {ad : Addr} {cs : List Value} {d : TypeDesc} {z : Value} {sz by_ : Nat} (hu : P.underlying t = some d) (hd : isAggD d = true) (ht : TyI P t z sz by_)
    (hx : get L c = some (.pointer (some ad))) (hc : ∀ w, R w → ∀ j v, cs[j]? = some v → w.cell? (ad.add j) = some v) (hl : cs.length = sz) : RVal P R L (.cell c t) (.agg cs.toArray) := by
  subst hl
  exact ⟨ad, hx, fun w hw => by
    have := run_loadCells_list (P := P) w ad cs (hc w hw)
    simp [loadVar, run_agg hu, hd, run_sz ht, this]⟩
theorem rv_one {c : Tmp} {t : TypeId} {ad : Addr} {v : Value} {d : TypeDesc} (hu : P.underlying t = some d) (hd : isAggD d = false)
    (hx : get L c = some (.pointer (some ad))) (hc : ∀ w, R w → w.cell? ad = some v) : RVal P R L (.cell c t) v :=
  ⟨ad, hx, fun w hw => by simp [loadVar, run_agg hu, hd, load, Sem.run, hc w hw]⟩

theorem retv1 {m : Nat} {fn : Func} {post : Ending → World → Prop} {r : ResultVar} {v : Value} {e : Exit} (he : e = .ret ∨ e = .normal) (hr : fn.results = #[r]) (h1 : RVal P R L r v) (h : ∀ w, R w → post (.returned v) w) :
    EX (bodyPost P fn post) e ⟨m, []⟩ R L := by
  intro a w hs hw
  have hx : (results fn a.tmps).run P w = .ok v w := by
    simp only [results, hr]
    cases r
    · simp only [RVal] at h1; simp [hs.tmp _ _ h1, asAddr]
    · simp only [RVal] at h1; obtain ⟨ad0, hx0, hl0⟩ := h1; simp [hs.tmp _ _ hx0, hl0 w hw, asAddr]
  rcases he with rfl | rfl <;> exact ⟨hs.defers, v, hx, h w hw⟩
theorem retv2 {m : Nat} {fn : Func} {post : Ending → World → Prop} {r s : ResultVar} {v u : Value} {e : Exit} (he : e = .ret ∨ e = .normal) (hr : fn.results = #[r, s]) (h1 : RVal P R L r v) (h2 : RVal P R L s u)
    (h : ∀ w, R w → post (.returned (.tuple #[v, u])) w) : EX (bodyPost P fn post) e ⟨m, []⟩ R L := by
  intro a w hs hw
  have hx : (results fn a.tmps).run P w = .ok (.tuple #[v, u]) w := by
    simp only [results, hr]
    cases r <;> cases s
    · simp only [RVal] at h1; simp only [RVal] at h2; simp [hs.tmp _ _ h1, hs.tmp _ _ h2, asAddr]
    · simp only [RVal] at h1; simp only [RVal] at h2; obtain ⟨ad1, hx1, hl1⟩ := h2; simp [hs.tmp _ _ h1, hs.tmp _ _ hx1, hl1 w hw, asAddr]
    · simp only [RVal] at h1; simp only [RVal] at h2; obtain ⟨ad0, hx0, hl0⟩ := h1; simp [hs.tmp _ _ hx0, hl0 w hw, hs.tmp _ _ h2, asAddr]
    · simp only [RVal] at h1; simp only [RVal] at h2; obtain ⟨ad0, hx0, hl0⟩ := h1; obtain ⟨ad1, hx1, hl1⟩ := h2; simp [hs.tmp _ _ hx0, hl0 w hw, hs.tmp _ _ hx1, hl1 w hw, asAddr]
  rcases he with rfl | rfl <;> exact ⟨hs.defers, _, hx, h w hw⟩
theorem retv3 {m : Nat} {fn : Func} {post : Ending → World → Prop} {r s t : ResultVar} {v u x : Value} {e : Exit} (he : e = .ret ∨ e = .normal) (hr : fn.results = #[r, s, t]) (h1 : RVal P R L r v) (h2 : RVal P R L s u) (h3 : RVal P R L t x)
    (h : ∀ w, R w → post (.returned (.tuple #[v, u, x])) w) : EX (bodyPost P fn post) e ⟨m, []⟩ R L := by
  intro a w hs hw
  have hx : (results fn a.tmps).run P w = .ok (.tuple #[v, u, x]) w := by
    simp only [results, hr]
    cases r <;> cases s <;> cases t
    · simp only [RVal] at h1; simp only [RVal] at h2; simp only [RVal] at h3; simp [hs.tmp _ _ h1, hs.tmp _ _ h2, hs.tmp _ _ h3, asAddr]
    · simp only [RVal] at h1; simp only [RVal] at h2; simp only [RVal] at h3; obtain ⟨ad2, hx2, hl2⟩ := h3; simp [hs.tmp _ _ h1, hs.tmp _ _ h2, hs.tmp _ _ hx2, hl2 w hw, asAddr]
    · simp only [RVal] at h1; simp only [RVal] at h2; simp only [RVal] at h3; obtain ⟨ad1, hx1, hl1⟩ := h2; simp [hs.tmp _ _ h1, hs.tmp _ _ hx1, hl1 w hw, hs.tmp _ _ h3, asAddr]
    · simp only [RVal] at h1; simp only [RVal] at h2; simp only [RVal] at h3; obtain ⟨ad1, hx1, hl1⟩ := h2; obtain ⟨ad2, hx2, hl2⟩ := h3; simp [hs.tmp _ _ h1, hs.tmp _ _ hx1, hl1 w hw, hs.tmp _ _ hx2, hl2 w hw, asAddr]
    · simp only [RVal] at h1; simp only [RVal] at h2; simp only [RVal] at h3; obtain ⟨ad0, hx0, hl0⟩ := h1; simp [hs.tmp _ _ hx0, hl0 w hw, hs.tmp _ _ h2, hs.tmp _ _ h3, asAddr]
    · simp only [RVal] at h1; simp only [RVal] at h2; simp only [RVal] at h3; obtain ⟨ad0, hx0, hl0⟩ := h1; obtain ⟨ad2, hx2, hl2⟩ := h3; simp [hs.tmp _ _ hx0, hl0 w hw, hs.tmp _ _ h2, hs.tmp _ _ hx2, hl2 w hw, asAddr]
    · simp only [RVal] at h1; simp only [RVal] at h2; simp only [RVal] at h3; obtain ⟨ad0, hx0, hl0⟩ := h1; obtain ⟨ad1, hx1, hl1⟩ := h2; simp [hs.tmp _ _ hx0, hl0 w hw, hs.tmp _ _ hx1, hl1 w hw, hs.tmp _ _ h3, asAddr]
    · simp only [RVal] at h1; simp only [RVal] at h2; simp only [RVal] at h3; obtain ⟨ad0, hx0, hl0⟩ := h1; obtain ⟨ad1, hx1, hl1⟩ := h2; obtain ⟨ad2, hx2, hl2⟩ := h3; simp [hs.tmp _ _ hx0, hl0 w hw, hs.tmp _ _ hx1, hl1 w hw, hs.tmp _ _ hx2, hl2 w hw, asAddr]
  rcases he with rfl | rfl <;> exact ⟨hs.defers, _, hx, h w hw⟩

instance nop_pur {fn : Func} {w : World} {v : Value} : NoP (bodyPost P fn (Pur w v)) := nop_post fun c w' h => by cases h.1
instance nop_gives {fn : Func} {w : World} {ι : Type} {V : ι → Value} {N : ι → List Ent} {T : ι → List Fact} : NoP (bodyPost P fn (Gives w V N T)) := nop_post fun c w' ⟨x, h, _⟩ => by cases h
theorem Mem.cells_blk {w : World} {b : Nat} {t : TypeId} {cs : List Value} (h : Mem w0 Ln M S w) (hm : Ent.blk b t cs ∈ M) : ∀ j v, cs[j]? = some v → w.cell? ((⟨b, 0, none⟩ : Addr).add j) = some v := fun j v hv => by
  rw [add_lit, Nat.zero_add]; exact h.cell_blk hm hv

/-! ### Entries found by their block -/
class HasB (M : List Ent) (b : Nat) (t : outParam TypeId) (cs : outParam (List Value)) : Prop where
  out : Ent.blk b t cs ∈ M
instance (priority := high) hasB_here {M : List Ent} {b : Nat} {t : TypeId} {cs : List Value} : HasB (.blk b t cs :: M) b t cs := ⟨List.mem_cons_self ..⟩
instance hasB_there {M : List Ent} {x : Ent} {b : Nat} {t : TypeId} {cs : List Value} [h : HasB M b t cs] : HasB (x :: M) b t cs := ⟨List.mem_cons_of_mem _ h.out⟩
class HasR (M : List Ent) (g : Nat) (m cap : outParam Nat) (e : outParam TypeId) (sz : outParam Nat) (xs : outParam (List Value)) : Prop where
  out : Ent.row (.slice (some ⟨g, 0, none⟩) m cap) m e sz xs ∈ M
instance (priority := high) hasR_here {M : List Ent} {g m cap : Nat} {e : TypeId} {sz : Nat} {xs : List Value} : HasR (.row (.slice (some ⟨g, 0, none⟩) m cap) m e sz xs :: M) g m cap e sz xs := ⟨List.mem_cons_self ..⟩
instance hasR_there {M : List Ent} {x : Ent} {g m cap : Nat} {e : TypeId} {sz : Nat} {xs : List Value} [h : HasR M g m cap e sz xs] : HasR (x :: M) g m cap e sz xs := ⟨List.mem_cons_of_mem _ h.out⟩
class HasV (M : List Ent) (v : Value) (m : outParam Nat) (e : outParam TypeId) (sz : outParam Nat) (xs : outParam (List Value)) : Prop where
  out : Ent.row v m e sz xs ∈ M
instance (priority := high) hasV_here {M : List Ent} {v : Value} {m : Nat} {e : TypeId} {sz : Nat} {xs : List Value} : HasV (.row v m e sz xs :: M) v m e sz xs := ⟨List.mem_cons_self ..⟩
instance hasV_there {M : List Ent} {x : Ent} {v : Value} {m : Nat} {e : TypeId} {sz : Nat} {xs : List Value} [h : HasV M v m e sz xs] : HasV (x :: M) v m e sz xs := ⟨List.mem_cons_of_mem _ h.out⟩
class ReplB (M : List Ent) (b : Nat) (t : outParam TypeId) (cs : outParam (List Value)) (f : outParam (List Value → List Ent)) : Prop where
  out : ∀ cs', Repl M (.blk b t cs) (.blk b t cs') (f cs')
instance (priority := high) replB_here {M : List Ent} {b : Nat} {t : TypeId} {cs : List Value} : ReplB (.blk b t cs :: M) b t cs (fun cs' => .blk b t cs' :: M) := ⟨fun _ => .here⟩
instance replB_there {M : List Ent} {x : Ent} {b : Nat} {t : TypeId} {cs : List Value} {f : List Value → List Ent} [h : ReplB M b t cs f] : ReplB (x :: M) b t cs (fun cs' => x :: f cs') := ⟨fun cs' => .there (h.out cs')⟩
class ReplV (M : List Ent) (v : Value) (m : outParam Nat) (e : outParam TypeId) (sz : outParam Nat) (xs : outParam (List Value)) (f : outParam (Ent → List Ent)) : Prop where
  out : ∀ y, Repl M (.row v m e sz xs) y (f y)
instance (priority := high) replV_here {M : List Ent} {v : Value} {m : Nat} {e : TypeId} {sz : Nat} {xs : List Value} : ReplV (.row v m e sz xs :: M) v m e sz xs (fun y => y :: M) := ⟨fun _ => .here⟩
instance replV_there {M : List Ent} {x : Ent} {v : Value} {m : Nat} {e : TypeId} {sz : Nat} {xs : List Value} {f : Ent → List Ent} [h : ReplV M v m e sz xs f] : ReplV (x :: M) v m e sz xs (fun y => x :: f y) := ⟨fun y => .there (h.out y)⟩

/-- A load of one cell of a block of one's own. -/
theorem q_ld {t tb : TypeId} {x : Operand} {b off : Nat} {v : Value} {cs : List Value} {d : TypeDesc} (hu : P.underlying t = some d) (hd : isAggD d = false) (hx : ev L x = some (.pointer (some ⟨b, off, none⟩))) [h : HasB M b tb cs]
    (hv : cs[off]? = some v) : QOp P n (Mem w0 Ln M S) L (.load t x) v := q_load1 hu hd hx fun w hm => hm.cell_blk h.out hv
/-- A load of a whole block. -/
theorem q_ldN {t tb : TypeId} {x : Operand} {b : Nat} {cs : List Value} {d : TypeDesc} {z : Value} {sz by_ : Nat} (hu : P.underlying t = some d) (hd : isAggD d = true) (ht : TyI P t z sz by_)
    (hx : ev L x = some (.pointer (some ⟨b, 0, none⟩))) [h : HasB M b tb cs] (hl : cs.length = sz) : QOp P n (Mem w0 Ln M S) L (.load t x) (.agg cs.toArray) := q_loadN hu hd ht hx (fun w hm => hm.cells_blk h.out) hl
/-- A load of a part of a block. -/
theorem q_ldP {t tb : TypeId} {x : Operand} {b off : Nat} {cs : List Value} {d : TypeDesc} {z : Value} {sz by_ : Nat} (hu : P.underlying t = some d) (hd : isAggD d = true) (ht : TyI P t z sz by_)
    (hx : ev L x = some (.pointer (some ⟨b, off, none⟩))) [h : HasB M b tb cs] (cs' : List Value) (hc : (cs.drop off).take sz = cs') (hl : cs'.length = sz) : QOp P n (Mem w0 Ln M S) L (.load t x) (.agg cs'.toArray) :=
  q_loadN hu hd ht hx (fun w hm j v hj => by
    rw [add_lit]
    refine hm.cell_blk h.out ?_
    rw [← hc, List.getElem?_take] at hj
    split at hj
    · rwa [List.getElem?_drop] at hj
    · cases hj) hl
/-- A load of one cell of a row of one's own. -/
theorem q_ldR {t e : TypeId} {x : Operand} {g m cap sz j : Nat} {v : Value} {xs : List Value} {d : TypeDesc} (hu : P.underlying t = some d) (hd : isAggD d = false) (hx : ev L x = some (.pointer (some ((⟨g, 0, none⟩ : Addr).add j)))) [h : HasR M g m cap e sz xs]
    (hv : xs[j]? = some v) : QOp P n (Mem w0 Ln M S) L (.load t x) v := q_load1 hu hd hx fun w hm => hm.cell_row h.out hv
theorem t_st1 {t : TypeId} {x y : Operand} {b off : Nat} {tb : TypeId} {cs : List Value} {f : List Value → List Ent} {v : Value} {z : Value} {by_ : Nat} (ht : TyI P t z 1 by_)
    (hx : ev L x = some (.pointer (some ⟨b, off, none⟩))) (hy : ev L y = some v) [hr : ReplB M b tb cs f] (h1 : v.oneCell' = true) (hin : off < cs.length) (cs' : List Value)
    (hcs : cs.set off v = cs') :
    TOp P Q n (Mem w0 Ln M S) L (.store t x y) Unit (fun _ => undef) (fun _ => Mem w0 Ln (f cs') S) := t_store1 ht hx hy (hr.out cs') h1 hin hcs
theorem t_stA {t : TypeId} {x y : Operand} {b : Nat} {tb : TypeId} {cs vs : List Value} {f : List Value → List Ent} {z : Value} {sz by_ : Nat} (ht : TyI P t z sz by_)
    (hx : ev L x = some (.pointer (some ⟨b, 0, none⟩))) (hy : ev L y = some (.agg vs.toArray)) [hr : ReplB M b tb cs f] (hl : vs.length = sz) (h1 : ∀ u ∈ vs, u.oneCell' = true) (hin : cs.length = sz) :
    TOp P Q n (Mem w0 Ln M S) L (.store t x y) Unit (fun _ => undef) (fun _ => Mem w0 Ln (f vs) S) := t_storeA ht hx hy (hr.out vs) hl h1 hin
theorem t_stP {t : TypeId} {x y : Operand} {b off : Nat} {tb : TypeId} {cs vs : List Value} {f : List Value → List Ent} {z : Value} {sz by_ : Nat} (ht : TyI P t z sz by_)
    (hx : ev L x = some (.pointer (some ⟨b, off, none⟩))) (hy : ev L y = some (.agg vs.toArray)) [hr : ReplB M b tb cs f] (hl : vs.length = sz) (h1 : ∀ u ∈ vs, u.oneCell' = true) (hin : off + vs.length ≤ cs.length) (cs' : List Value)
    (hcs : cs.take off ++ vs ++ cs.drop (off + vs.length) = cs') :
    TOp P Q n (Mem w0 Ln M S) L (.store t x y) Unit (fun _ => undef) (fun _ => Mem w0 Ln (f cs') S) := t_storeP ht hx hy (hr.out cs') hl h1 hin hcs
end
end Go.PL
