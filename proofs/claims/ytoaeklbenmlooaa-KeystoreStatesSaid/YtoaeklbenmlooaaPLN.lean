/- Strings, and what strings.Builder's methods meet. -/
import Derived.Test.YtoaeklbenmlooaaPLU
import Derived.Lib.Builder
import Derived.Lib.UnsafeStr
import Derived.Laws.Externs
import Derived.Laws.Strings2
import Derived.Laws.Strings3
namespace Go.PL
set_option linter.unusedVariables false
set_option linter.unusedSimpArgs false
open Go Go.RowKit
section
variable {P : Program} {n : Cx} {R : World → Prop} {L : Slots} {Q : Exit → Act → World → Prop}
variable {w0 w : World} {Ln : List Nat} {M : List Ent} {S : List Fact}
/-- A byte of a string. -/
theorem q_strIdx {t : TypeId} {x i : Operand} {xs : List UInt8} {k : IntKind} {j : Nat} (hu : P.underlying t = some .string) (hx : ev L x = some (str xs)) (hi : ev L i = some (.int k ((j : Nat) : Int))) (h : j < xs.length) :
    QOp P n R L (.index t x i) (.int .u8 ((xs.getD j 0).toNat : Int)) := by
  intro d ty pos af g a w hs _
  have hj : xs.getD j 0 = xs[j] := by rw [List.getD_eq_getElem?_getD, List.getElem?_eq_getElem h]; rfl
  rw [hj]
  have hb : (⟨xs.toArray⟩ : ByteArray)[j]? = some xs[j] := by
    rw [getElem?_pos (⟨xs.toArray⟩ : ByteArray) j (show j < xs.toArray.size by simpa using h)]; rfl
  simp only [execOp, hs.eval hx, hs.eval hi]
  simp [Instr.index, asIntOf, run_underlying hu, str, h, hb]
/-- What is kept of a slice's first element. -/
def sd : Value → Value
  | .slice a _ _ => .pointer a
  | u => u
theorem q_sliceData {tys : Array TypeId} {x : Operand} {v : Value} {m : Nat} (hx : ev L x = some v) (hv : SV v m) (h : 0 < m ∨ v = .slice none 0 0) :
    QOp P n R L (.call { callee := .builtin .unsafeSliceData, args := #[x], argTypes := tys }) (sd v) := by
  intro d ty pos af g a w hs _
  simp only [execOp, resolve, invoke, builtin, List.map_toArray, List.map_cons, List.map_nil, hs.eval hx]
  obtain ⟨ad, cap, rfl, h1, h2, h3⟩ := hv
  cases ad with
  | none => simp [Lib.run_unsafeSliceData_nil, sd]
  | some ad =>
    have hc : cap ≠ 0 := by
      rcases h with h | h
      · omega
      · cases h
    simp [Lib.run_unsafeSliceData_row w _ _ _ _ _ hc, sd]
/-- A function without a body that gives what it got. -/
class SameP (P : Program) (k : FuncId) : Prop where
  out : ∀ (x : Value) (w : World), (callFunc k #[x]).run P w = .ok (.value x) w
theorem q_same {k : FuncId} {x : Operand} {at_ : Array TypeId} {v : Value} [h : SameP P k] (hx : ev L x = some v) : QOp P n R L (.call { callee := .value (.func k), args := #[x], argTypes := at_ }) v := by
  intro d ty pos af g a w hs _
  have hf : ev L (.func k) = some (.func (.func k) #[] #[]) := rfl
  simp only [execOp, resolve, List.map_toArray, List.map_cons, List.map_nil, hs.eval hx, hs.eval hf]
  simp [Deferred.ofValue, invoke, h.out]
theorem q_ptrNilT {tp te t' : TypeId} {x y : Operand} (hp : P.underlying tp = some (.pointer te)) (hx : ev L x = some (.pointer none)) (hy : ev L y = some (.pointer none)) (hg : P.eqGuardType P.depth tp = false) : QOp P n R L (.binOp .eql tp x y t') (.bool true) := by
  intro d ty pos af g a w hs _
  have h : ∀ d : Nat, (Op.equalIn (d + 1) tp (.pointer none) (.pointer none)).run P w = .ok true w := fun d => by
    simp [Op.equalIn, run_underlying hp]
  simp only [execOp, hs.eval hx, hs.eval hy]
  have h2 : (binOp .eql tp (.pointer none) (.pointer none)).run P w = .ok (.bool true) w := by
    simp only [binOp]
    simp [Op.equal, Op.maxDepth, h 9999]
  simp [eqGuard, hg, h2]
theorem q_ptrNilF {tp te t' : TypeId} {x y : Operand} {ad : Addr} (hp : P.underlying tp = some (.pointer te)) (hx : ev L x = some (.pointer (some ad))) (hy : ev L y = some (.pointer none)) (hg : P.eqGuardType P.depth tp = false) : QOp P n R L (.binOp .eql tp x y t') (.bool false) := by
  intro d ty pos af g a w hs _
  have h : ∀ d : Nat, (Op.equalIn (d + 1) tp (.pointer (some ad)) (.pointer none)).run P w = .ok false w := fun d => by
    simp [Op.equalIn, run_underlying hp]
  simp only [execOp, hs.eval hx, hs.eval hy]
  have h2 : (binOp .eql tp (.pointer (some ad)) (.pointer none)).run P w = .ok (.bool false) w := by
    simp only [binOp]
    simp [Op.equal, Op.maxDepth, h 9999]
  simp [eqGuard, hg, h2]
theorem q_ptrNe {tp te t' : TypeId} {x y : Operand} {ad : Addr} {z : Value} {sz by_ : Nat} (hp : P.underlying tp = some (.pointer te)) (hz : TyI P te z sz by_) (hx : ev L x = some (.pointer (some ad))) (hy : ev L y = some (.pointer (some ad))) (hg : P.eqGuardType P.depth tp = false) : QOp P n R L (.binOp .neq tp x y t') (.bool false) := by
  intro d ty pos af g a w hs _
  obtain ⟨i, hi, _⟩ := hz.info
  simp only [execOp, hs.eval hx, hs.eval hy]
  simp [eqGuard, hg, Lib.run_neq_ptr_same w ad hp hi]
theorem q_toU {src dst t tb : TypeId} {x : Operand} {b : Nat} {cs : List Value} {z : Value} {sz by_ : Nat} (hs' : P.underlying src = some (.pointer t)) (hd : P.underlying dst = some .unsafePointer) (ht : TyI P t z sz by_) (hsz : Nat.beq sz 0 = false)
    (hx : ev L x = some (.pointer (some ⟨b, 0, none⟩))) [h : HasB M b tb cs] (h0 : 0 < cs.length) : QOp P n (Mem w0 Ln M S) L (.convert src dst x) (.pointer (some ⟨b, 0, none⟩)) := by
  intro d ty pos af g a w hs hm
  obtain ⟨i, hi, _, hsz', _⟩ := ht.info
  have hb := hm.own _ h.out
  have hsh : w.shape? b = some (tb, cs.length) := by
    unfold World.shape?
    rw [show w.heap[b]? = some (.cells cs.toArray tb (0, 0)) from hb]; simp
  simp only [execOp, hs.eval hx]
  have hr := Lib.run_to_unsafe (P := P) w ⟨b, 0, none⟩ hs' hd hi (by rw [hsz']; intro e; rw [e] at hsz; simp at hsz) hsh h0
  simp [hr]
theorem q_fromU {src dst u tb : TypeId} {x : Operand} {b : Nat} {cs : List Value} {z : Value} {sz by_ : Nat} (hs' : P.underlying src = some .unsafePointer) (hd : P.underlying dst = some (.pointer u)) (ht : TyI P u z sz by_)
    (hx : ev L x = some (.pointer (some ⟨b, 0, none⟩))) [h : HasB M b tb cs] (hl : liesAt P P.depth tb (cs.length / P.cellsOf tb) 0 u 1 = true) : QOp P n (Mem w0 Ln M S) L (.convert src dst x) (.pointer (some ⟨b, 0, none⟩)) := by
  intro d ty pos af g a w hs hm
  obtain ⟨i, hi, _, _, _⟩ := ht.info
  have hb := hm.own _ h.out
  have hsh : w.shape? b = some (tb, cs.length) := by
    unfold World.shape?
    rw [show w.heap[b]? = some (.cells cs.toArray tb (0, 0)) from hb]; simp
  simp only [execOp, hs.eval hx]
  have hr := Lib.run_from_unsafe (P := P) w ⟨b, 0, none⟩ hs' hd hi hsh hl
  simp [hr]
/-- The bytes of a row as a string: the row can only be read from here on. -/
theorem t_unsafeStr {pt it e : TypeId} {x y : Operand} {v : Value} {xs : List UInt8} {M' : List Ent} (hpp : P.underlying pt = some (.pointer e)) (hc : P.cellsOf e = 1) (hx : ev L x = some (sd v)) (hy : ev L y = some (.int .i64 ((xs.length : Nat) : Int)))
    (hp : Pick M (.row v xs.length e 1 (v8s xs)) M') (h0 : xs ≠ []) (h63 : xs.length ≤ 9223372036854775807) :
    TOp P Q n (Mem w0 [] M S) L (.call { callee := .builtin .unsafeString, args := #[x, y], argTypes := #[pt, it] }) Unit (fun _ => str xs) (fun _ => Mem w0 [] M' (seen v xs.length 1 (v8s xs) :: S)) := by
  intro d ty pos af g a w K hs hm hk
  have hfr := hm.freezeRow hp
  have hown : w.ownsRow 0 e 1 v xs.length (v8s xs) := hm.own _ hp.mem
  have hap := hp.apart hm.apart
  have hnew := hm.new _ hp.mem
  have hl0 : xs.length ≠ 0 := by simpa using h0
  have hseen := hm.seen_row hp.mem
  rcases hown.2 with ⟨rfl, hz⟩ | ⟨b, cap, cur, rfl, _, hg, h3, h4, h5, h6⟩
  · omega
  · have hsh : w.shape? b = some (e, cur.size) := by unfold World.shape?; rw [hg]
    have hcell : ∀ j x, xs[j]? = some x → w.cell? ((⟨b, 0, none⟩ : Addr).add j) = some (.int .u8 x.toNat) := fun j x hj => hseen.cell (by rw [v8s, List.getElem?_map, hj]; rfl)
    have hn : xs.length ≤ cur.size := by
      have h1 := hcell (xs.length - 1) _ (List.getElem?_eq_getElem (by omega))
      rw [add_lit, Nat.zero_add] at h1
      simp only [World.cell?, hg] at h1
      have := (Array.getElem?_eq_some_iff.1 h1).1
      omega
    have hrun := Lib.run_unsafeString_row (P := P) w pt it ty e hpp hc b cur.size hsh xs h0 hn h63 hcell
    have hrun2 : (execOp a.eval ⟨d, .call { callee := .builtin .unsafeString, args := #[x, y], argTypes := #[pt, it] }, ty, pos, af, g⟩).run P w = .ok (.value (str xs)) (w.freeze ⟨b, 0, none⟩ xs.length) := by
      simp only [execOp, resolve, invoke, builtin, List.map_toArray, List.map_cons, List.map_nil, hs.eval hx, hs.eval hy, sd]
      simp [hrun, str]
    unfold Oper.wp
    rw [hrun2]
    have hnum : (Ent.row (.slice (some ⟨b, 0, none⟩) xs.length cap) xs.length e 1 (v8s xs)).num = some b := rfl
    have hF : w.freeze ⟨b, 0, none⟩ xs.length = { w with heap := w.heap.modify b fun
      | .cells c elem (lo, hi) => .cells c elem (if lo == hi then (0, 0 + xs.length) else (min lo 0, max hi (0 + xs.length)))
      | o => o } := by unfold World.freeze; rw [if_neg (by simpa using hl0)]; rfl
    have hne : ∀ k, k ≠ b → (w.freeze ⟨b, 0, none⟩ xs.length).heap[k]? = w.heap[k]? := fun k hk => by
      rw [hF]; simp only [Array.getElem?_modify]; rw [if_neg (fun e => hk e.symm)]
    have hbb : (w.freeze ⟨b, 0, none⟩ xs.length).heap[b]? = some (.cells cur e (0, 0 + xs.length)) := by
      rw [hF]; simp only [Array.getElem?_modify, hg, if_true]; simp
    refine hk () _ (hfr.marked (b := b) (by rw [hF]) (by rw [hF]) (by rw [hF]) (by rw [hF]; simp) hne (hap b hnum) ((hnew b hnum).resolve_right (by simp)) fun ad u hu => ?_)
    by_cases e' : ad.block = b
    · unfold World.cell? at hu ⊢
      rw [e', hbb]
      rw [e', hg] at hu
      exact hu
    · rw [World.cell?_of_block (hne _ e')]; exact hu
/-- The bytes of a row as a string; the row is given away. -/
theorem t_unsafeStrL {pt it e : TypeId} {x y : Operand} {v : Value} {xs : List UInt8} {M' : List Ent} (hpp : P.underlying pt = some (.pointer e)) (hc : P.cellsOf e = 1) (hx : ev L x = some (sd v)) (hy : ev L y = some (.int .i64 ((xs.length : Nat) : Int)))
    (hp : Pick M (.row v xs.length e 1 (v8s xs)) M') (h0 : xs ≠ []) (h63 : xs.length ≤ 9223372036854775807) :
    TOp P Q n (Mem w0 Ln M S) L (.call { callee := .builtin .unsafeString, args := #[x, y], argTypes := #[pt, it] }) Unit (fun _ => str xs) (fun _ => Mem w0 Ln M' S) := by
  intro d ty pos af g a w K hs hm hk
  have hown : w.ownsRow 0 e 1 v xs.length (v8s xs) := hm.own _ hp.mem
  have hap := hp.apart hm.apart
  have hl0 : xs.length ≠ 0 := by simpa using h0
  have hseen := hm.seen_row hp.mem
  rcases hown.2 with ⟨rfl, hz⟩ | ⟨b, cap, cur, rfl, _, hg, h3, h4, h5, h6⟩
  · omega
  · have hsh : w.shape? b = some (e, cur.size) := by unfold World.shape?; rw [hg]
    have hcell : ∀ j x, xs[j]? = some x → w.cell? ((⟨b, 0, none⟩ : Addr).add j) = some (.int .u8 x.toNat) := fun j x hj => hseen.cell (by rw [v8s, List.getElem?_map, hj]; rfl)
    have hn : xs.length ≤ cur.size := by
      have h1 := hcell (xs.length - 1) _ (List.getElem?_eq_getElem (by omega))
      rw [add_lit, Nat.zero_add] at h1
      simp only [World.cell?, hg] at h1
      have := (Array.getElem?_eq_some_iff.1 h1).1
      omega
    have hrun := Lib.run_unsafeString_row (P := P) w pt it ty e hpp hc b cur.size hsh xs h0 hn h63 hcell
    have hrun2 : (execOp a.eval ⟨d, .call { callee := .builtin .unsafeString, args := #[x, y], argTypes := #[pt, it] }, ty, pos, af, g⟩).run P w = .ok (.value (str xs)) (w.freeze ⟨b, 0, none⟩ xs.length) := by
      simp only [execOp, resolve, invoke, builtin, List.map_toArray, List.map_cons, List.map_nil, hs.eval hx, hs.eval hy, sd]
      simp [hrun, str]
    unfold Oper.wp
    rw [hrun2]
    have hnum : (Ent.row (.slice (some ⟨b, 0, none⟩) xs.length cap) xs.length e 1 (v8s xs)).num = some b := rfl
    have hF : w.freeze ⟨b, 0, none⟩ xs.length = { w with heap := w.heap.modify b fun
      | .cells c elem (lo, hi) => .cells c elem (if lo == hi then (0, 0 + xs.length) else (min lo 0, max hi (0 + xs.length)))
      | o => o } := by unfold World.freeze; rw [if_neg (by simpa using hl0)]; rfl
    have hne : ∀ k, k ≠ b → (w.freeze ⟨b, 0, none⟩ xs.length).heap[k]? = w.heap[k]? := fun k hk => by
      rw [hF]; simp only [Array.getElem?_modify]; rw [if_neg (fun e => hk e.symm)]
    have hbb : (w.freeze ⟨b, 0, none⟩ xs.length).heap[b]? = some (.cells cur e (0, 0 + xs.length)) := by
      rw [hF]; simp only [Array.getElem?_modify, hg, if_true]; simp
    refine hk () _ (hm.step (by rw [hF]) (by rw [hF]) (by rw [hF]) (by rw [hF]; simp) (fun k _ _ hin => hne k fun e => ?_) (fun u hu => Ent.kept (hm.own u (hp.sublist.subset hu)) fun k hk => hne k fun e => inM_not (hap b hnum) u hu (e ▸ hk)) (fun u hu => hm.new u (hp.sublist.subset hu)) (hm.apart.sublist hp.sublist) fun k _ hin => ?_)
    · subst e; exact inM_not hin _ hp.mem hnum
    · cases hi : inM M' k
      · rfl
      · obtain ⟨x, hx, hxn⟩ := inM_iff.1 hi
        exact absurd hxn (inM_not hin x (hp.sublist.subset hx))
/-- The bytes of no row: the empty string. -/
theorem q_unsafeStr0 {pt it : TypeId} {x y : Operand} {p : Option Addr} (hx : ev L x = some (.pointer p)) (hy : ev L y = some (.int .i64 0)) : QOp P n R L (.call { callee := .builtin .unsafeString, args := #[x, y], argTypes := #[pt, it] }) (str []) := by
  intro d ty pos af g a w hs _
  simp only [execOp, resolve, invoke, builtin, List.map_toArray, List.map_cons, List.map_nil, hs.eval hx, hs.eval hy]
  simp [Lib.run_unsafeString_none, str]
  rfl
theorem q_lenS {x : Operand} {t : TypeId} {xs : List UInt8} (hu : P.underlying t = some .string) (hx : ev L x = some (str xs)) :
    QOp P n R L (.call { callee := .builtin .len, args := #[x], argTypes := #[t] }) (.int .i64 ((xs.length : Nat) : Int)) := q_lenStr hu hx
theorem q_strEq {t t' : TypeId} {x y : Operand} {xs ys : List UInt8} (hu : P.underlying t = some .string) (hx : ev L x = some (str xs)) (hy : ev L y = some (str ys)) (hg : P.eqGuardType P.depth t = false) : QOp P n R L (.binOp .eql t x y t') (.bool (decide (xs = ys))) := by
  intro d ty pos af g a w hs _
  have hx' : ev L x = some (.string ⟨xs.toArray⟩) := hx
  have hy' : ev L y = some (.string ⟨ys.toArray⟩) := hy
  simp only [execOp, hs.eval hx', hs.eval hy']
  have h2 : (binOp .eql t (.string ⟨xs.toArray⟩) (.string ⟨ys.toArray⟩)).run P w = .ok (.bool (decide (xs = ys))) w := by
    show (Op.stringOp .eql ⟨xs.toArray⟩ ⟨ys.toArray⟩).run P w = _
    simp [Op.stringOp]
    rw [Bool.eq_iff_iff]; simp
  simp [eqGuard, hg, h2]
theorem extract_str (xs : List UInt8) (l k : Nat) : (⟨xs.toArray⟩ : ByteArray).extract l k = ⟨((xs.drop l).take (k - l)).toArray⟩ := by
  apply ByteArray.ext
  rw [ByteArray.data_extract]
  apply Array.ext'
  simp [List.extract_eq_take_drop]
theorem run_sliceAt_str {t : TypeId} {lo hi mx : Option Value} {v u : Value} (hu : P.underlying t = some .string) (h : (Instr.slice t v lo hi mx).run P w = .ok u w) : (Instr.sliceAt t v lo hi mx).run P w = .ok u w := by
  simp [Instr.sliceAt, run_underlying hu, h]
theorem q_strHi {t : TypeId} {x h : Operand} {kh : IntKind} {xs : List UInt8} {k : Nat} (hu : P.underlying t = some .string) (hx : ev L x = some (str xs)) (hh : ev L h = some (.int kh ((k : Nat) : Int))) (hk : k ≤ xs.length) :
    QOp P n R L (.slice t x none (some h) none) (str (xs.take k)) := by
  intro d ty pos af g a w hs _
  have hx' : ev L x = some (.string ⟨xs.toArray⟩) := hx
  have hr := run_slice_string_to_if (P := P) (w := w) t ⟨xs.toArray⟩ kh ((k : Nat) : Int) hu
  rw [if_pos ⟨by omega, by show (k : Int) ≤ ((xs.toArray.size : Nat) : Int); simp; omega⟩, extract_str] at hr
  have hr2 := run_sliceAt_str hu hr
  simp only [execOp, hs.eval hx', Option.map, hs.eval hh]
  simp [hr2, str]
theorem q_strLH {t : TypeId} {x l h : Operand} {kl kh : IntKind} {xs : List UInt8} {m k : Nat} (hu : P.underlying t = some .string) (hx : ev L x = some (str xs)) (hl : ev L l = some (.int kl ((m : Nat) : Int))) (hh : ev L h = some (.int kh ((k : Nat) : Int))) (hm : m ≤ k) (hk : k ≤ xs.length) :
    QOp P n R L (.slice t x (some l) (some h) none) (str ((xs.drop m).take (k - m))) := by
  intro d ty pos af g a w hs _
  have hx' : ev L x = some (.string ⟨xs.toArray⟩) := hx
  have hr := run_slice_string (P := P) w t ⟨xs.toArray⟩ kl kh ((m : Nat) : Int) ((k : Nat) : Int) hu (by omega) (by omega) (by show (k : Int) ≤ ((xs.toArray.size : Nat) : Int); simp; omega)
  rw [extract_str] at hr
  have hr2 := run_sliceAt_str hu hr
  simp only [execOp, hs.eval hx', Option.map, hs.eval hl, hs.eval hh]
  simp [hr2, str]
theorem q_strCat {t t' : TypeId} {x y : Operand} {xs ys : List UInt8} (hx : ev L x = some (str xs)) (hy : ev L y = some (str ys)) (h : xs.length + ys.length ≤ maxLen) : QOp P n R L (.binOp .add t x y t') (str (xs ++ ys)) := by
  intro d ty pos af g a w hs _
  have hx' : ev L x = some (.string ⟨xs.toArray⟩) := hx
  have hy' : ev L y = some (.string ⟨ys.toArray⟩) := hy
  have hsz : ¬ (9223372036854775807 : Int) < ((⟨xs.toArray⟩ : ByteArray).size : Int) + ((⟨ys.toArray⟩ : ByteArray).size : Int) := by
    show ¬ (9223372036854775807 : Int) < ((xs.toArray.size : Nat) : Int) + ((ys.toArray.size : Nat) : Int)
    simp only [maxLen] at h
    simp; omega
  have hap : (⟨xs.toArray⟩ : ByteArray) ++ ⟨ys.toArray⟩ = ⟨(xs ++ ys).toArray⟩ := by
    apply ByteArray.ext; simp
  simp only [execOp, hs.eval hx', hs.eval hy']
  have h2 : (binOp .add t (.string ⟨xs.toArray⟩) (.string ⟨ys.toArray⟩)).run P w = .ok (str (xs ++ ys)) w := by
    show (Op.stringOp .add ⟨xs.toArray⟩ ⟨ys.toArray⟩).run P w = _
    simp [Op.stringOp]
    rw [if_neg hsz, hap]; rfl
  simp [eqGuard, h2]
/-- What a call promises that all one owns is lent to: what is owned behind it. -/
def GivesA {ι : Type} (w : World) (Es : List Ent) (p : ι → Prop) (V : ι → Value) (N : ι → List Ent) (e : Ending) (w' : World) : Prop := ∃ x, p x ∧ e = .returned (V x) ∧ Mem w (nums Es) (N x) [] w'
instance nop_givesA {fn : Func} {w : World} {ι : Type} {Es : List Ent} {p : ι → Prop} {V : ι → Value} {N : ι → List Ent} : NoP (bodyPost P fn (GivesA w Es p V N)) := nop_post fun c w' ⟨x, _, h, _⟩ => by cases h
theorem t_callA {k : FuncId} {args : Array Operand} {at_ : Array TypeId} {vs : List Value} {ι : Type} {p : ι → Prop} {V : ι → Value} {N : ι → List Ent}
    (hb : HasBody P k) (hv : evs L args.toList = some vs) (hc : ∀ w, Mem w0 Ln M S w → Mem w (nums M) M [] w → Calls P k vs.toArray w (GivesA w M p V N)) :
    TOpP P Q n (Mem w0 Ln M S) L (.call { callee := .value (.func k), args := args, argTypes := at_ }) ι p V (fun x => Mem w0 Ln (N x) []) := by
  have h : TOp P Q n (Mem w0 Ln M S) L (.call { callee := .value (.func k), args := args, argTypes := at_ }) { x : ι // p x } (fun x => V x.1) (fun x => Mem w0 Ln (N x.1) []) :=
    t_callG (cap := #[]) rfl hb hv fun w hm => by
      simp only [Array.append_empty]
      refine (hc w hm hm.base).mono ?_
      rintro en w' ⟨x, hp, rfl, h2⟩
      exact ⟨⟨x, hp⟩, rfl, hm.trans h2⟩
  exact h.rep fun x w h => ⟨x.1, x.2, rfl, h⟩
/-- The same, one thing kept back. -/
theorem t_callA1 {k : FuncId} {args : Array Operand} {at_ : Array TypeId} {vs : List Value} {ι : Type} {p : ι → Prop} {V : ι → Value} {N : ι → List Ent} {x0 : Ent} {Es : List Ent}
    (hb : HasBody P k) (hv : evs L args.toList = some vs) (hc : ∀ w, Mem w0 Ln (x0 :: Es) S w → Mem w (nums Es) Es [] w → Calls P k vs.toArray w (GivesA w Es p V N)) :
    TOpP P Q n (Mem w0 Ln (x0 :: Es) S) L (.call { callee := .value (.func k), args := args, argTypes := at_ }) ι p V (fun x => Mem w0 Ln (x0 :: N x) []) := by
  have h : TOp P Q n (Mem w0 Ln (x0 :: Es) S) L (.call { callee := .value (.func k), args := args, argTypes := at_ }) { x : ι // p x } (fun x => V x.1) (fun x => Mem w0 Ln (x0 :: N x.1) []) :=
    t_callG (cap := #[]) rfl hb hv fun w hm => by
      simp only [Array.append_empty]
      refine (hc w hm (hm.sub (.drop (Sub.refl _)) (Sub.refl _)).base).mono ?_
      rintro en w' ⟨x, hp, rfl, h2⟩
      exact ⟨⟨x, hp⟩, rfl, Mem.framed (X := [x0]) hm h2⟩
  exact h.rep fun x w h => ⟨x.1, x.2, rfl, h⟩
end
end Go.PL
