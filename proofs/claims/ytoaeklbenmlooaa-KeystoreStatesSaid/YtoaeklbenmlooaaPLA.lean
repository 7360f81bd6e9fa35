/- A small logic for walking operations: slots as a list of pairs, operations without memory as one function, and what they do to the slots. -/
import Derived.Calls
import Derived.Tactics
import Derived.OrdersHeld
import Derived.Below
import Derived.Laws.Bits
namespace Go.PL
set_option linter.unusedSimpArgs false
set_option linter.unusedVariables false
open Go

abbrev Slots := List (Nat × Value)

def get : Slots → Nat → Option Value
  | [], _ => none
  | (k, v) :: r, t => bif Nat.beq k t then some v else get r t

def ev (L : Slots) : Operand → Option Value
  | .tmp t => get L t
  | .const v => some v
  | .global g => some (.pointer (some ⟨g, 0, none⟩))
  | .func f => some (.func (.func f) #[] #[])

/-- The number of temporaries, and what is deferred. -/
structure Cx where
  n : Nat
  ds : List Deferred
/-- What is known of the temporaries. -/
structure Sl (n : Cx) (a : Act) (L : Slots) : Prop where
  size : a.tmps.size = n.n
  defers : a.defers = n.ds
  tmp : ∀ t v, get L t = some v → a.tmps[t]? = some v

theorem Sl.eval {n : Cx} {a : Act} {L : Slots} (h : Sl n a L) {x : Operand} {v : Value} (hx : ev L x = some v) : a.eval x = v := by
  cases x with
  | tmp t => simp [Act.eval, h.tmp t v hx]
  | const u => simpa [ev, Act.eval] using hx
  | global g => simpa [ev, Act.eval] using hx
  | func f => simpa [ev, Act.eval] using hx

theorem get_cons (k t : Nat) (v : Value) (r : Slots) : get ((k, v) :: r) t = if k = t then some v else get r t := by
  show (bif Nat.beq k t then some v else get r t) = _
  by_cases h : k = t
  · subst h; simp [Nat.beq_refl]
  · have : Nat.beq k t = false := by
      cases hb : Nat.beq k t
      · rfl
      · exact absurd (Nat.eq_of_beq_eq_true hb) h
    simp [this, h]

theorem Sl.put {n : Cx} {a : Act} {L : Slots} (h : Sl n a L) {d : Nat} (hd : Nat.blt d n.n = true) (v : Value) : Sl n (a.put (some d) v) ((d, v) :: L) := by
  have hd' : d < n.n := by simpa using hd
  refine ⟨by simp [Act.put, h.size], h.defers, fun t u hu => ?_⟩
  rw [get_cons] at hu
  simp only [Act.put]
  by_cases e : d = t
  · subst e
    simp only [if_true] at hu
    cases hu
    simp [h.size, hd']
  · rw [if_neg e] at hu
    rw [Array.getElem?_setIfInBounds_ne e]
    exact h.tmp t u hu

theorem Sl.put_none {n : Cx} {a : Act} {L : Slots} (h : Sl n a L) (v : Value) : Sl n (a.put none v) L := h

theorem Sl.weaken {n : Cx} {a : Act} {L L' : Slots} (h : Sl n a L) (hl : ∀ t v, get L' t = some v → get L t = some v) : Sl n a L' :=
  ⟨h.size, h.defers, fun t v hv => h.tmp t v (hl t v hv)⟩

/-- Two lists of slots: every pair of the second is what the first holds. -/
def subs (L : Slots) : Slots → Prop
  | [] => True
  | (t, v) :: r => get L t = some v ∧ subs L r
theorem subs_get {L : Slots} : ∀ {L' : Slots}, subs L L' → ∀ t v, get L' t = some v → get L t = some v
  | [], _, t, v, h => by simp [get] at h
  | (k, u) :: r, hs, t, v, h => by
    rw [get_cons] at h
    by_cases e : k = t
    · subst e; simp only [if_true] at h; cases h; exact hs.1
    · rw [if_neg e] at h; exact subs_get hs.2 t v h

/-! ### Operations that touch no memory -/

/-- What an integer becomes in its kind. -/
def wk : IntKind → Int → Int
  | .i64, n => (n + 9223372036854775808) % 18446744073709551616 - 9223372036854775808
  | .u8, n => n % 256
  | .u16, n => n % 65536
  | .u32, n => n % 4294967296
  | .u64, n => n % 18446744073709551616
  | k, n => k.wrap n
theorem wk_eq (k : IntKind) (n : Int) : k.wrap n = wk k n := by
  cases k <;> simp only [wk, IntKind.wrap, IntKind.signed, IntKind.bits] <;> simp <;> omega

def arithI (op : BinOp) (k : IntKind) (a b : Int) : Option Value :=
  match op with
  | .add => some (.int k (wk k (a + b)))
  | .sub => some (.int k (wk k (a - b)))
  | .mul => some (.int k (wk k (a * b)))
  | .and => some (.int k (wk k ((BitVec.ofInt k.bits a &&& BitVec.ofInt k.bits b).toNat)))
  | .or => some (.int k (wk k ((BitVec.ofInt k.bits a ||| BitVec.ofInt k.bits b).toNat)))
  | .xor => some (.int k (wk k ((BitVec.ofInt k.bits a ^^^ BitVec.ofInt k.bits b).toNat)))
  | .eql => some (.bool (a == b))
  | .neq => some (.bool (a != b))
  | .lss => some (.bool (a < b))
  | .leq => some (.bool (a ≤ b))
  | .gtr => some (.bool (a > b))
  | .geq => some (.bool (a ≥ b))
  | _ => none

/-- Both operands ints of one kind; no division, no shift. -/
def binV (op : BinOp) : Value → Value → Option Value
  | .int .i64 a, .int .i64 b => arithI op .i64 a b
  | .int .u8 a, .int .u8 b => arithI op .u8 a b
  | .int .u32 a, .int .u32 b => arithI op .u32 a b
  | .int .u64 a, .int .u64 b => arithI op .u64 a b
  | .int .u16 a, .int .u16 b => arithI op .u16 a b
  | _, _ => none

def unV (op : UnOp) : Value → Option Value
  | .int k a => match op with
    | .neg => some (.int k (wk k (-a)))
    | _ => none
  | .bool b => match op with
    | .not => some (.bool (!b))
    | _ => none
  | _ => none

def pureOp (L : Slots) : Op → Option Value
  | .move x => ev L x
  | .assign x => ev L x
  | .pick c x y => match ev L c with
    | some (.bool true) => ev L x
    | some (.bool false) => ev L y
    | _ => none
  | .binOp op _ x y _ => match ev L x, ev L y with
    | some u, some v => binV op u v
    | _, _ => none
  | .unOp op _ x => match ev L x with
    | some u => unV op u
    | none => none
  | .extract x i => match ev L x with
    | some (.tuple vs) => vs[i]?
    | _ => none
  | .nilCheck x => match ev L x with
    | some (.pointer (some p)) => some (.pointer (some p))
    | some (.func (.func f) u c) => some (.func (.func f) u c)
    | _ => none
  | _ => none

theorem run_binV {P : Program} {op : BinOp} {t : TypeId} {u v r : Value} (h : binV op u v = some r) (w : World) : (binOp op t u v).run P w = .ok r w := by
  cases u <;> cases v <;> try (simp [binV] at h; done)
  · rename_i k a k' b
    cases k <;> cases k' <;> try (simp [binV] at h; done)
    all_goals
      cases op <;> simp [binV, arithI] at h <;> subst h <;> simp [binOp, Op.intArith, Op.intBits, Op.intCmp, wk_eq, pure]

theorem run_unV {P : Program} {op : UnOp} {u r : Value} (h : unV op u = some r) (w : World) : (Op.unary op u).run P w = .ok r w := by
  cases u <;> cases op <;> simp [unV] at h <;> subst h <;> simp [Op.unary, Op.intArith, wk_eq, pure]

/-- Operation 'o', where the slots and the world are as said, leaves 'v' and the world as it is. -/
def QOp (P : Program) (n : Cx) (R : World → Prop) (L : Slots) (op : Op) (v : Value) : Prop :=
  ∀ (d : Option Tmp) (ty : TypeId) (pos : String) (af : Array Edge) (g : Option (Nat × Bool)) (a : Act) (w : World), Sl n a L → R w → (execOp a.eval ⟨d, op, ty, pos, af, g⟩).run P w = .ok (.value v) w

theorem eqGuard_ok {P : Program} {op : BinOp} {t : TypeId} {x y : Operand} {u v r : Value} (h : binV op u v = some r) (w : World) : (eqGuard op t x y u v).run P w = .ok () w := by
  cases u <;> cases v <;> try (simp [binV] at h; done)
  all_goals cases op <;> simp [eqGuard, pure]

theorem q_pure {P : Program} {n : Cx} {R : World → Prop} {L : Slots} {op : Op} {v : Value} (h : pureOp L op = some v) : QOp P n R L op v := by
  intro d ty pos af g a w hs _
  cases op <;> try (simp [pureOp] at h; done)
  case move x => simp [pureOp] at h; simp [execOp, hs.eval h, Sem.run, pure]
  case assign x => simp [pureOp] at h; simp [execOp, hs.eval h, Sem.run, pure]
  case pick c x y =>
    simp only [pureOp] at h
    split at h
    · rename_i hc; simp only [execOp, hs.eval hc, hs.eval h]; simp [asBool]
    · rename_i hc; simp only [execOp, hs.eval hc, hs.eval h]; simp [asBool]
    · cases h
  case nilCheck x =>
    simp only [pureOp] at h
    split at h
    · rename_i hx; cases h; simp only [execOp, hs.eval hx]; simp
    · rename_i hx; cases h; simp only [execOp, hs.eval hx]; simp
    · cases h
  case binOp o t x y t' =>
    simp only [pureOp] at h
    split at h
    · rename_i u v' hu hv
      have h1 := run_binV (P := P) (t := t) h w
      have h2 := eqGuard_ok (P := P) (t := t) (x := x) (y := y) h w
      simp only [execOp, hs.eval hu, hs.eval hv, Sem.run_bind, h2, Result.andThen_ok, h1, Sem.run_pure]
    · cases h
  case unOp o t x =>
    simp only [pureOp] at h
    split at h
    · rename_i u hu
      have h1 := run_unV (P := P) h w
      simp only [execOp, hs.eval hu, Sem.run_bind, h1, Result.andThen_ok, Sem.run_pure]
    · cases h
  case extract x i =>
    simp only [pureOp] at h
    split at h
    · rename_i vs hx
      simp only [execOp, hs.eval hx]; simp [Instr.extract, h]
    · cases h

end Go.PL
