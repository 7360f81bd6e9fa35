import Derived.Calls
import Derived.Tactics
import Derived.OrdersHeld
import Derived.Below
import Derived.Laws.Bits
import Derived.Laws.AppendOwn
import Derived.Laws.Rows
import Derived.Laws.CopyRow
import Derived.Laws.Cells
import Derived.Laws.Entries
import Derived.Test.YtgnablliekgbgaaDoorMNY
set_option linter.unusedSimpArgs false
set_option linter.unusedVariables false
/- A small logic for walking operations: slots as a list of pairs, operations without memory as one function, and what they do to the slots. -/
namespace Go.PL
open Go
abbrev Slots := List (Nat × Value)
def get : Slots → Nat → Option Value
  | [], _ => none
  | (k, v) :: r, t => bif Nat.beq k t then some v else get r t
def ev (L : Slots) : Operand → Option Value
  | .tmp t => get L t
  | .const v => some v
  | .global g => some (.pointer (some ⟨g, 0, none⟩))
  | .func f => some (.func (.func f) #[] #[])
structure Cx where
  n : Nat
  ds : List Deferred
structure Sl (n : Cx) (a : Act) (L : Slots) : Prop where
  size : a.tmps.size = n.n
  defers : a.defers = n.ds
  tmp : ∀ t v, get L t = some v → a.tmps[t]? = some v
theorem Sl.eval {n : Cx} {a : Act} {L : Slots} (h : Sl n a L) {x : Operand} {v : Value} (hx : ev L x = some v) : a.eval x = v := by
  cases x with
  | tmp t => simp [Act.eval, h.tmp t v hx]
  | const u => simpa [ev, Act.eval] using hx
  | global g => simpa [ev, Act.eval] using hx
  | func f => simpa [ev, Act.eval] using hx
theorem get_cons (k t : Nat) (v : Value) (r : Slots) : get ((k, v) :: r) t = if k = t then some v else get r t := by
  show (bif Nat.beq k t then some v else get r t) = _
  by_cases h : k = t
  · subst h; simp [Nat.beq_refl]
  · have : Nat.beq k t = false := by
      cases hb : Nat.beq k t
      · rfl
      · exact absurd (Nat.eq_of_beq_eq_true hb) h
    simp [this, h]
theorem Sl.put {n : Cx} {a : Act} {L : Slots} (h : Sl n a L) {d : Nat} (hd : Nat.blt d n.n = true) (v : Value) : Sl n (a.put (some d) v) ((d, v) :: L) := by
  have hd' : d < n.n := by simpa using hd
  refine ⟨by simp [Act.put, h.size], h.defers, fun t u hu => ?_⟩
  rw [get_cons] at hu
  simp only [Act.put]
  by_cases e : d = t
  · subst e
    simp only [if_true] at hu
    cases hu
    simp [h.size, hd']
  · rw [if_neg e] at hu
    rw [Array.getElem?_setIfInBounds_ne e]
    exact h.tmp t u hu
theorem Sl.put_none {n : Cx} {a : Act} {L : Slots} (h : Sl n a L) (v : Value) : Sl n (a.put none v) L := h
theorem Sl.weaken {n : Cx} {a : Act} {L L' : Slots} (h : Sl n a L) (hl : ∀ t v, get L' t = some v → get L t = some v) : Sl n a L' :=
  ⟨h.size, h.defers, fun t v hv => h.tmp t v (hl t v hv)⟩
def subs (L : Slots) : Slots → Prop
  | [] => True
  | (t, v) :: r => get L t = some v ∧ subs L r
theorem subs_get {L : Slots} : ∀ {L' : Slots}, subs L L' → ∀ t v, get L' t = some v → get L t = some v
  | [], _, t, v, h => by simp [get] at h
  | (k, u) :: r, hs, t, v, h => by
    rw [get_cons] at h
    by_cases e : k = t
    · subst e; simp only [if_true] at h; cases h; exact hs.1
    · rw [if_neg e] at h; exact subs_get hs.2 t v h
def wk : IntKind → Int → Int
  | .i64, n => (n + 9223372036854775808) % 18446744073709551616 - 9223372036854775808
  | .u8, n => n % 256
  | .u16, n => n % 65536
  | .u32, n => n % 4294967296
  | .u64, n => n % 18446744073709551616
  | k, n => k.wrap n
theorem wk_eq (k : IntKind) (n : Int) : k.wrap n = wk k n := by
  cases k <;> simp only [wk, IntKind.wrap, IntKind.signed, IntKind.bits] <;> simp <;> omega
def arithI (op : BinOp) (k : IntKind) (a b : Int) : Option Value :=
  match op with
  | .add => some (.int k (wk k (a + b)))
  | .sub => some (.int k (wk k (a - b)))
  | .mul => some (.int k (wk k (a * b)))
  | .and => some (.int k (wk k ((BitVec.ofInt k.bits a &&& BitVec.ofInt k.bits b).toNat)))
  | .or => some (.int k (wk k ((BitVec.ofInt k.bits a ||| BitVec.ofInt k.bits b).toNat)))
  | .xor => some (.int k (wk k ((BitVec.ofInt k.bits a ^^^ BitVec.ofInt k.bits b).toNat)))
  | .eql => some (.bool (a == b))
  | .neq => some (.bool (a != b))
  | .lss => some (.bool (a < b))
  | .leq => some (.bool (a ≤ b))
  | .gtr => some (.bool (a > b))
  | .geq => some (.bool (a ≥ b))
  | _ => none
def binV (op : BinOp) : Value → Value → Option Value
  | .int .i64 a, .int .i64 b => arithI op .i64 a b
  | .int .u8 a, .int .u8 b => arithI op .u8 a b
  | .int .u32 a, .int .u32 b => arithI op .u32 a b
  | .int .u64 a, .int .u64 b => arithI op .u64 a b
  | .int .u16 a, .int .u16 b => arithI op .u16 a b
  | _, _ => none
def unV (op : UnOp) : Value → Option Value
  | .int k a => match op with
    | .neg => some (.int k (wk k (-a)))
    | _ => none
  | .bool b => match op with
    | .not => some (.bool (!b))
    | _ => none
  | _ => none
def pureOp (L : Slots) : Op → Option Value
  | .move x => ev L x
  | .assign x => ev L x
  | .pick c x y => match ev L c with
    | some (.bool true) => ev L x
    | some (.bool false) => ev L y
    | _ => none
  | .binOp op _ x y _ => match ev L x, ev L y with
    | some u, some v => binV op u v
    | _, _ => none
  | .unOp op _ x => match ev L x with
    | some u => unV op u
    | none => none
  | .extract x i => match ev L x with
    | some (.tuple vs) => vs[i]?
    | _ => none
  | .nilCheck x => match ev L x with
    | some (.pointer (some p)) => some (.pointer (some p))
    | some (.func (.func f) u c) => some (.func (.func f) u c)
    | _ => none
  | _ => none
theorem run_binV {P : Program} {op : BinOp} {t : TypeId} {u v r : Value} (h : binV op u v = some r) (w : World) : (binOp op t u v).run P w = .ok r w := by
  cases u <;> cases v <;> try (simp [binV] at h; done)
  · rename_i k a k' b
    cases k <;> cases k' <;> try (simp [binV] at h; done)
    all_goals
      cases op <;> simp [binV, arithI] at h <;> subst h <;> simp [binOp, Op.intArith, Op.intBits, Op.intCmp, wk_eq, pure]
theorem run_unV {P : Program} {op : UnOp} {u r : Value} (h : unV op u = some r) (w : World) : (Op.unary op u).run P w = .ok r w := by
  cases u <;> cases op <;> simp [unV] at h <;> subst h <;> simp [Op.unary, Op.intArith, wk_eq, pure]
def QOp (P : Program) (n : Cx) (R : World → Prop) (L : Slots) (op : Op) (v : Value) : Prop :=
  ∀ (d : Option Tmp) (ty : TypeId) (pos : String) (af : Array Edge) (g : Option (Nat × Bool)) (a : Act) (w : World), Sl n a L → R w → (execOp a.eval ⟨d, op, ty, pos, af, g⟩).run P w = .ok (.value v) w
theorem eqGuard_ok {P : Program} {op : BinOp} {t : TypeId} {x y : Operand} {u v r : Value} (h : binV op u v = some r) (w : World) : (eqGuard op t x y u v).run P w = .ok () w := by
  cases u <;> cases v <;> try (simp [binV] at h; done)
  all_goals cases op <;> simp [eqGuard, pure]
theorem q_pure {P : Program} {n : Cx} {R : World → Prop} {L : Slots} {op : Op} {v : Value} (h : pureOp L op = some v) : QOp P n R L op v := by
  intro d ty pos af g a w hs _
  cases op <;> try (simp [pureOp] at h; done)
  case move x => simp [pureOp] at h; simp [execOp, hs.eval h, Sem.run, pure]
  case assign x => simp [pureOp] at h; simp [execOp, hs.eval h, Sem.run, pure]
  case pick c x y =>
    simp only [pureOp] at h
    split at h
    · rename_i hc; simp only [execOp, hs.eval hc, hs.eval h]; simp [asBool]
    · rename_i hc; simp only [execOp, hs.eval hc, hs.eval h]; simp [asBool]
    · cases h
  case nilCheck x =>
    simp only [pureOp] at h
    split at h
    · rename_i hx; cases h; simp only [execOp, hs.eval hx]; simp
    · rename_i hx; cases h; simp only [execOp, hs.eval hx]; simp
    · cases h
  case binOp o t x y t' =>
    simp only [pureOp] at h
    split at h
    · rename_i u v' hu hv
      have h1 := run_binV (P := P) (t := t) h w
      have h2 := eqGuard_ok (P := P) (t := t) (x := x) (y := y) h w
      simp only [execOp, hs.eval hu, hs.eval hv, Sem.run_bind, h2, Result.andThen_ok, h1, Sem.run_pure]
    · cases h
  case unOp o t x =>
    simp only [pureOp] at h
    split at h
    · rename_i u hu
      have h1 := run_unV (P := P) h w
      simp only [execOp, hs.eval hu, Sem.run_bind, h1, Result.andThen_ok, Sem.run_pure]
    · cases h
  case extract x i =>
    simp only [pureOp] at h
    split at h
    · rename_i vs hx
      simp only [execOp, hs.eval hx]; simp [Instr.extract, h]
    · cases h
end Go.PL
namespace Go.PL
open Go
section
variable {P : Program} {Q : Exit → Act → World → Prop} {n : Cx} {R : World → Prop} {L : Slots}
def WPL (P : Program) (ops : Array Oper) (Q : Exit → Act → World → Prop) (n : Cx) (R : World → Prop) (L : Slots) (rest : List Oper) : Prop :=
  ∀ a w, Sl n a L → R w → wpList P ops Q rest a w
def WPC (P : Program) (Q : Exit → Act → World → Prop) (n : Cx) (R : World → Prop) (L : Slots) (c : Code) : Prop :=
  ∀ a w, Sl n a L → R w → c.wp P Q a w
def EX (Q : Exit → Act → World → Prop) (e : Exit) (n : Cx) (R : World → Prop) (L : Slots) : Prop :=
  ∀ a w, Sl n a L → R w → Q e a w
def TOp (P : Program) (Q : Exit → Act → World → Prop) (n : Cx) (R : World → Prop) (L : Slots) (op : Op) (ι : Type) (V : ι → Value) (R' : ι → World → Prop) : Prop :=
  ∀ (d : Option Tmp) (ty : TypeId) (pos : String) (af : Array Edge) (g : Option (Nat × Bool)) (a : Act) (w : World) (K : Act → World → Prop), Sl n a L → R w →
    (∀ x w', R' x w' → K (a.put d (V x)) w') → (Oper.wp P ⟨d, op, ty, pos, af, g⟩ a w K Q)
theorem QOp.mono {R1 : World → Prop} {op : Op} {v : Value} (h : QOp P n R L op v) (hr : ∀ w, R1 w → R w) : QOp P n R1 L op v :=
  fun d ty pos af g a w hs h1 => h d ty pos af g a w hs (hr w h1)
theorem QOp.top {op : Op} {v : Value} (h : QOp P n R L op v) : TOp P Q n R L op Unit (fun _ => v) (fun _ => R) := by
  intro d ty pos af g a w K hs hr hk
  unfold Oper.wp
  rw [h d ty pos af g a w hs hr]
  exact hk () w hr
variable {ops : Array Oper} {rest : List Oper} {op : Op} {v : Value} {d : Nat} {ty : TypeId} {pos : String} {af : Array Edge}
theorem wpl_q (hop : QOp P n R L op v) (hd : Nat.blt d n.n = true) (next : WPL P ops Q n R ((d, v) :: L) rest) :
    WPL P ops Q n R L (⟨some d, op, ty, pos, af, none⟩ :: rest) := by
  intro a w hs hr
  refine wpList_plain rfl fun K hK => ?_
  unfold Oper.wp
  rw [hop _ _ _ _ _ a w hs hr]
  exact hK _ _ (next _ _ (hs.put hd v) hr)
theorem wpl_q0 (hop : QOp P n R L op v) (next : WPL P ops Q n R L rest) : WPL P ops Q n R L (⟨none, op, ty, pos, af, none⟩ :: rest) := by
  intro a w hs hr
  refine wpList_plain rfl fun K hK => ?_
  unfold Oper.wp
  rw [hop _ _ _ _ _ a w hs hr]
  exact hK _ _ (next _ _ hs hr)
theorem wpl_t {ι : Type} {V : ι → Value} {R' : ι → World → Prop} (hop : TOp P Q n R L op ι V R') (hd : Nat.blt d n.n = true) (next : ∀ x, WPL P ops Q n (R' x) ((d, V x) :: L) rest) :
    WPL P ops Q n R L (⟨some d, op, ty, pos, af, none⟩ :: rest) := by
  intro a w hs hr
  refine wpList_plain rfl fun K hK => hop _ _ _ _ _ a w K hs hr fun x w' h' => hK _ _ (next x _ _ (hs.put hd (V x)) h')
theorem wpl_t0 {ι : Type} {V : ι → Value} {R' : ι → World → Prop} (hop : TOp P Q n R L op ι V R') (next : ∀ x, WPL P ops Q n (R' x) L rest) :
    WPL P ops Q n R L (⟨none, op, ty, pos, af, none⟩ :: rest) := by
  intro a w hs hr
  refine wpList_plain rfl fun K hK => hop _ _ _ _ _ a w K hs hr fun x w' h' => hK _ _ (next x _ _ hs h')
theorem yielded_of {a : Act} (hs : Sl n a L) {j t : Nat} {b : Bool} (hj : (ops[j]?).bind (·.dst) = some t) (hv : get L t = some (.bool b)) : yielded ops a.tmps j = some b := by
  simp [yielded, hj, hs.tmp t _ hv]
theorem wpl_on {d : Option Tmp} {j t : Nat} {b : Bool} (hj : (ops[j]?).bind (·.dst) = some t) (hv : get L t = some (.bool b)) (next : WPL P ops Q n R L (⟨d, op, ty, pos, af, none⟩ :: rest)) :
    WPL P ops Q n R L (⟨d, op, ty, pos, af, some (j, b)⟩ :: rest) := by
  intro a w hs hr
  have h := next a w hs hr
  have hy := yielded_of (ops := ops) hs hj hv
  unfold wpList at h ⊢
  simp only [Region.wanted, if_true] at h
  simp only [Region.wanted, hy, beq_self_eq_true, if_true]
  exact h
def offV : Value → Bool → Bool
  | .bool c, b => !(c == b)
  | _, _ => true
theorem yielded_off {a : Act} (hs : Sl n a L) {j t : Nat} {b : Bool} {v : Value} (hj : (ops[j]?).bind (·.dst) = some t) (hv : get L t = some v) (ho : offV v b = true) : (yielded ops a.tmps j == some b) = false := by
  have ht := hs.tmp t _ hv
  simp only [yielded, hj]
  cases v <;> simp_all [offV]
theorem wpl_off {j t : Nat} {b : Bool} {v : Value} (hj : (ops[j]?).bind (·.dst) = some t) (hv : get L t = some v) (hbc : offV v b = true) (hd : Nat.blt d n.n = true) (next : WPL P ops Q n R ((d, undef) :: L) rest) :
    WPL P ops Q n R L (⟨some d, op, ty, pos, af, some (j, b)⟩ :: rest) := by
  intro a w hs hr
  have hy := yielded_off (ops := ops) hs hj hv hbc
  unfold wpList
  simp only [Region.wanted, hy, Bool.false_eq_true, if_false]
  exact next _ _ (hs.put hd undef) hr
theorem wpl_weaken {R1 : World → Prop} {L1 : Slots} (hl : subs L L1) (hr : ∀ w, R w → R1 w) (next : WPL P ops Q n R1 L1 rest) : WPL P ops Q n R L rest :=
  fun a w hs h => next a w (hs.weaken (subs_get hl)) (hr w h)
theorem wpl_nil (h : EX Q .normal n R L) : WPL P ops Q n R L [] := fun a w hs hr => wpList_nil (h a w hs hr)
theorem wpc_region {id : Nat} {l : List Oper} (h : WPL P l.toArray Q n R L l) : WPC P Q n R L (.region id l.toArray false) :=
  fun a w hs hr => wp_region_lit (h a w hs hr)
theorem wpc_seq {x y : Code} (h : WPC P (Exit.then (fun a w => y.wp P Q a w) Q) n R L x) : WPC P Q n R L (.seq x y) :=
  fun a w hs hr => wp_seq (h a w hs hr)
theorem wpc_cond {c : Operand} {x y : Code} {b : Bool} (hb : ev L c = some (.bool b)) (ht : b = true → WPC P Q n R L x) (hf : b = false → WPC P Q n R L y) : WPC P Q n R L (.cond c x y) :=
  fun a w hs hr => wp_cond_split (hs.eval hb) (fun h => ht h a w hs hr) (fun h => hf h a w hs hr)
theorem wpc_cond_t {c : Operand} {x y : Code} (hb : ev L c = some (.bool true)) (ht : WPC P Q n R L x) : WPC P Q n R L (.cond c x y) :=
  fun a w hs hr => wp_cond_true (hs.eval hb) (ht a w hs hr)
theorem wpc_cond_f {c : Operand} {x y : Code} (hb : ev L c = some (.bool false)) (hf : WPC P Q n R L y) : WPC P Q n R L (.cond c x y) :=
  fun a w hs hr => wp_cond_false (hs.eval hb) (hf a w hs hr)
theorem wpc_block {id : Nat} {c : Code} (h : WPC P (Exit.inBlock id Q) n R L c) : WPC P Q n R L (.block id c) :=
  fun a w hs hr => wp_block (h a w hs hr)
theorem wpc_skip (h : EX Q .normal n R L) : WPC P Q n R L .skip := fun a w hs hr => wp_skip (h a w hs hr)
theorem wpc_exit {id : Nat} (h : EX Q (.exit id) n R L) : WPC P Q n R L (.exit id) := fun a w hs hr => wp_exit (h a w hs hr)
theorem wpc_ret (h : EX Q .ret n R L) : WPC P Q n R L .ret := fun a w hs hr => wp_ret (h a w hs hr)
theorem wpc_weaken {c : Code} {R1 : World → Prop} {L1 : Slots} (hl : subs L L1) (hr : ∀ w, R w → R1 w) (next : WPC P Q n R1 L1 c) : WPC P Q n R L c :=
  fun a w hs h => next a w (hs.weaken (subs_get hl)) (hr w h)
theorem ex_then {y : Code} (h : WPC P Q n R L y) : EX (Exit.then (fun a w => y.wp P Q a w) Q) .normal n R L := h
theorem ex_then_exit {K : Act → World → Prop} {id : Nat} (h : EX Q (.exit id) n R L) : EX (Exit.then K Q) (.exit id) n R L := h
theorem ex_then_ret {K : Act → World → Prop} (h : EX Q .ret n R L) : EX (Exit.then K Q) .ret n R L := h
theorem ex_block {id : Nat} (h : EX Q .normal n R L) : EX (Exit.inBlock id Q) .normal n R L := h
theorem ex_block_ret {id : Nat} (h : EX Q .ret n R L) : EX (Exit.inBlock id Q) .ret n R L := h
theorem ex_block_hit {id : Nat} (h : EX Q .normal n R L) : EX (Exit.inBlock id Q) (.exit id) n R L := fun a w hs hr => by
  simp only [Exit.inBlock, if_true]; exact h a w hs hr
theorem ex_block_miss {id id' : Nat} (hne : Nat.beq id' id = false) (h : EX Q (.exit id') n R L) : EX (Exit.inBlock id Q) (.exit id') n R L := fun a w hs hr => by
  have : ¬ id' = id := fun e => by subst e; simp [Nat.beq_refl] at hne
  simp only [Exit.inBlock, this, if_false]; exact h a w hs hr
theorem ex_weaken {e : Exit} {R1 : World → Prop} {L1 : Slots} (hl : subs L L1) (hr : ∀ w, R w → R1 w) (next : EX Q e n R1 L1) : EX Q e n R L :=
  fun a w hs h => next a w (hs.weaken (subs_get hl)) (hr w h)
def Again (n : Cx) {ι : Type} (Li : ι → Slots) (Ri : ι → World → Prop) (μ : ι → Nat) (x : ι) (a : Act) (w : World) : Prop := ∃ y, Sl n a (Li y) ∧ Ri y w ∧ μ y < μ x
theorem wpc_loop {c : Code} {ι : Type} (Li : ι → Slots) (Ri : ι → World → Prop) (μ : ι → Nat) (x0 : ι) (h0 : subs L (Li x0)) (hR : ∀ w, R w → Ri x0 w)
    (round : ∀ x, WPC P (Exit.then (Again n Li Ri μ x) Q) n (Ri x) (Li x) c) : WPC P Q n R L (.loop c) := by
  intro a w hs hr
  have key : ∀ m x a w, μ x = m → Sl n a (Li x) → Ri x w → ∀ (b : Frame) (k : List Item) (cs : List Frame),
      ∃ e a' w', Q e a' w' ∧ Arrives P (lone (b.at a (.code c :: .inLoop c :: k)) cs w) b k cs e a' w' := by
    intro m
    induction m using Nat.strongRecOn with
    | _ m ih =>
      intro x a w hm hs hr b k cs
      obtain ⟨e, a₁, w₁, hq, harr⟩ := round x a w hs hr b (.inLoop c :: k) cs
      cases e with
      | normal =>
        obtain ⟨y, hs1, hr1, hlt⟩ := hq
        obtain ⟨e₂, a₂, w₂, hq₂, harr₂⟩ := ih (μ y) (hm ▸ hlt) y a₁ w₁ rfl hs1 hr1 b k cs
        exact ⟨e₂, a₂, w₂, hq₂, .of_steps (Steps.trans harr (.one step_inLoop)) harr₂⟩
      | exit id => exact ⟨_, a₁, w₁, hq, .pass (x := .inLoop c) rfl (fun _ _ => .inl zz40) harr⟩
      | goto l => exact ⟨_, a₁, w₁, hq, .pass (x := .inLoop c) rfl (fun _ _ => .inl zz40) harr⟩
      | ret => exact ⟨_, a₁, w₁, hq, .pass (x := .inLoop c) rfl (fun _ _ => .inl zz40) harr⟩
      | panic ch => exact ⟨_, a₁, w₁, hq, .pass (x := .inLoop c) rfl (fun _ _ => .inl zz40) harr⟩
      | outgrown => exact ⟨_, a₁, w₁, hq, .pass (x := .inLoop c) rfl (fun _ _ => .inl zz40) harr⟩
  intro b k cs
  obtain ⟨e, a', w', hq, harr⟩ := key _ x0 a w rfl (hs.weaken (subs_get h0)) (hR w hr) b k cs
  exact ⟨e, a', w', hq, .of_steps (.one step_loop) harr⟩
theorem ex_again {ι : Type} {Li : ι → Slots} {Ri : ι → World → Prop} {μ : ι → Nat} {x : ι} (y : ι) (hl : subs L (Li y)) (hr : ∀ w, R w → Ri y w) (hm : μ y < μ x) :
    EX (Exit.then (Again n Li Ri μ x) Q) .normal n R L :=
  fun _ w hs h => ⟨y, hs.weaken (subs_get hl), hr w h, hm⟩
def argSlots : Nat → List Value → Slots
  | _, [] => []
  | i, v :: r => (i, v) :: argSlots (i + 1) r
theorem get_argSlots (t : Nat) (v : Value) : ∀ (l : List Value) (i : Nat), get (argSlots i l) t = some v → i ≤ t ∧ l[t - i]? = some v
  | [], i, h => by simp [argSlots, get] at h
  | u :: r, i, h => by
    simp only [argSlots] at h
    rw [get_cons] at h
    by_cases e : i = t
    · subst e; simp only [if_true] at h; cases h; simp
    · rw [if_neg e] at h
      have := get_argSlots t v r (i + 1) h
      refine ⟨zz12, ?_⟩
      have e2 : t - i = (t - (i + 1)) + 1 := by omega
      rw [e2, List.getElem?_cons_succ]; exact this.2
theorem enter {f : FuncId} {fn : Func} {c : Code} {args : List Value} {w0 : World} {post : Ending → World → Prop}
    (hf : P.funcs[f]? = some fn) (hb : fn.body = some c) {m : Nat} (hn : fn.ntmps = m) (hna : args.length ≤ m) (h0 : R w0)
    (h : WPC P (bodyPost P fn post) ⟨m, []⟩ R (argSlots 0 args) c) : Calls P f args.toArray w0 post := by
  refine calls_of_wp hf hb (h _ w0 ⟨?_, rfl, fun t v hv => ?_⟩ h0)
  · simp [hn]; omega
  · have := (get_argSlots t v args 0 hv).2
    simp only [Nat.sub_zero] at this
    have hlt : t < args.length := by
      rcases Nat.lt_or_ge t args.length with h | h
      · exact h
      · rw [List.getElem?_eq_none h] at this; cases this
    rw [List.getElem?_eq_getElem hlt] at this
    simpa [Array.getElem?_append, hlt] using this
theorem ret1 {m : Nat} {fn : Func} {post : Ending → World → Prop} {t : Tmp} {v : Value} {e : Exit} (he : e = .ret ∨ e = .normal) (hr : fn.results = #[.tmp t]) (hv : get L t = some v) (h : ∀ w, R w → post (.returned v) w) :
    EX (bodyPost P fn post) e ⟨m, []⟩ R L := by
  intro a w hs hw
  have hx : (results fn a.tmps).run P w = .ok v w := by
    rw [results_tmp hr]; simp [hs.tmp t v hv]
  rcases he with rfl | rfl <;> exact ⟨hs.defers, v, hx, h w hw⟩
theorem ret0 {m : Nat} {fn : Func} {post : Ending → World → Prop} {e : Exit} (he : e = .ret ∨ e = .normal) (hr : fn.results = #[]) (h : ∀ w, R w → post (.returned (.tuple #[])) w) :
    EX (bodyPost P fn post) e ⟨m, []⟩ R L := by
  intro a w hs hw
  have hx := results_none hr a.tmps P w
  rcases he with rfl | rfl <;> exact ⟨hs.defers, _, hx, h w hw⟩
theorem ret2 {m : Nat} {fn : Func} {post : Ending → World → Prop} {t u : Tmp} {v v2 : Value} {e : Exit} (he : e = .ret ∨ e = .normal) (hr : fn.results = #[.tmp t, .tmp u]) (hv : get L t = some v) (hv2 : get L u = some v2)
    (h : ∀ w, R w → post (.returned (.tuple #[v, v2])) w) : EX (bodyPost P fn post) e ⟨m, []⟩ R L := by
  intro a w hs hw
  have hx : (results fn a.tmps).run P w = .ok (.tuple #[v, v2]) w := by
    rw [results_tmp2 hr]; simp [hs.tmp t v hv, hs.tmp u v2 hv2]
  rcases he with rfl | rfl <;> exact ⟨hs.defers, _, hx, h w hw⟩
end
end Go.PL
namespace Go.PL
open Go
section
variable {P : Program} {ops : Array Oper} {Q : Exit → Act → World → Prop} {md : Region.Mode} {S : Array Bool → World → Prop} {R0 : World → Prop}
def wpAnyI (P : Program) (md : Region.Mode) (ops : Array Oper) (Q : Exit → Act → World → Prop) (S : Array Bool → World → Prop) : Nat → Array Bool → Act → World → Prop
  | 0, listed, a, w => Region.ready md ops listed = [] ∧ Q .normal a w
  | fuel + 1, listed, a, w =>
    (Region.ready md ops listed = [] → Q .normal a w) ∧
    ∀ i ∈ Region.ready md ops listed, wpOp P ops Q i (fun a' w' => S (listed.setIfInBounds i true) w' ∧ wpAnyI P md ops Q S fuel (listed.setIfInBounds i true) a' w') a w
theorem wpAny_of_I : ∀ (fuel : Nat) (listed : Array Bool) (a : Act) (w : World), wpAnyI P md ops Q S fuel listed a w → wpAny P md ops Q fuel listed a w
  | 0, _, _, _, h => h
  | fuel + 1, _, _, _, h => ⟨h.1, fun i hi => wpOp_mono (fun a' w' h' => wpAny_of_I fuel _ a' w' h'.2) (h.2 i hi)⟩
theorem wpAnyI_mono {S S' : Array Bool → World → Prop} (hS : ∀ l w, S l w → S' l w) : ∀ (fuel : Nat) (listed : Array Bool) (a : Act) (w : World), wpAnyI P md ops Q S fuel listed a w → wpAnyI P md ops Q S' fuel listed a w
  | 0, _, _, _, h => h
  | fuel + 1, _, _, _, h => ⟨h.1, fun i hi => wpOp_mono (fun a' w' h' => ⟨hS _ _ h'.1, wpAnyI_mono hS fuel _ a' w' h'.2⟩) (h.2 i hi)⟩
def SK (k : Nat) (R0 : World → Prop) (listed : Array Bool) (w : World) : Prop := listed.getD k false = true ∨ R0 w
theorem getD_set_ne' {l : Array Bool} {i k : Nat} (h : i ≠ k) : (l.setIfInBounds i true).getD k false = l.getD k false := getD_set_ne false h
theorem wpAnyI_first {i k : Nat} {oi : Oper} {v : Value} (hi : ops[i]? = some oi) (hik : i ≠ k) (hsel : ∀ (j : Nat) (o : Oper) cs b, ops[j]? = some o → o.op ≠ .select cs b)
    (hdep : ∀ ok, ops[k]? = some ok → ∃ e ∈ ok.after, Region.binds md e = true ∧ e.on = i)
    (hQ : ∀ c a w, Q (.panic c) (a.put oi.dst v) w → Q (.panic c) a w) :
    ∀ (fuel : Nat) (listed : Array Bool) (a : Act) (w : World),
      (∀ j oj, ops[j]? = some oj → j ≠ i → listed.getD j true = false → (∀ e ∈ oj.after, Region.binds md e = true → e.on ≠ i) → oi.apart ops oj = true) →
      i ∈ Region.ready md ops listed → listed.getD k false = false → YieldsIf P ops R0 oi v a → SK k R0 listed w →
      wpAnyI P md ops Q (SK k R0) fuel (listed.setIfInBounds i true) (a.put oi.dst v) w → wpAnyI P md ops Q (SK k R0) (fuel + 1) listed a w := by
  intro fuel
  induction fuel with
  | zero =>
    intro listed a w _ hr hk hy hS H
    have hR : R0 w := hS.resolve_left (by simp [hk])
    refine ⟨fun h => zz46, fun j hj => ?_⟩
    by_cases hji : j = i
    · subst hji; exact hy.wpOp hi hR ⟨.inr hR, H⟩
    · have := ready_mono hj hji
      rw [H.1] at this
      cases this
  | succ fuel ih =>
    intro listed a w hfree hr hk hy hS H
    have hR : R0 w := hS.resolve_left (by simp [hk])
    refine ⟨fun h => zz46, fun j hj => ?_⟩
    by_cases hji : j = i
    · subst hji; exact hy.wpOp hi hR ⟨.inr hR, H⟩
    · have h1 := H.2 j (ready_mono hj hji)
      obtain ⟨hjun, oj, hoj, hall⟩ := mem_ready.1 hj
      have hnot : ∀ e ∈ oj.after, Region.binds md e = true → e.on ≠ i := fun e he hb heq => by
        have h1 := hall e he hb
        have h0 := (mem_ready.1 hr).1
        rw [heq] at h1
        rcases Nat.lt_or_ge i listed.size with h' | h'
        · simp [h'] at h0 h1; rw [h0] at h1; cases h1
        · simp [Array.getElem?_eq_none h'] at h1
      have hjk : j ≠ k := fun e => by
        subst e
        obtain ⟨e, he, hb, heq⟩ := hdep oj hoj
        exact hnot e he hb heq
      have h2 := wpOp_putIf hoj (hfree j oj hoj hji hjun hnot) (fun cs b => hsel i oi cs b hi) (fun cs b => hsel j oj cs b hoj) hQ hy h1
      have hfree' : ∀ m om, ops[m]? = some om → m ≠ i → (listed.setIfInBounds j true).getD m true = false →
          (∀ e ∈ om.after, Region.binds md e = true → e.on ≠ i) → oi.apart ops om = true := fun m om hm hmi hun hno => by
        refine hfree m om hm hmi ?_ hno
        by_cases hjm : j = m
        · subst hjm; exact hjun
        · rw [getD_set_ne true hjm] at hun; exact hun
      refine wpOp_mono (fun a' w' h3 => ?_) h2
      have hS' : SK k R0 (listed.setIfInBounds j true) w' := by
        rcases h3.2.1 with h | h
        · refine .inl ?_
          rw [getD_set_ne' hjk, getD_set_ne' hik] at h
          rw [getD_set_ne' hjk]; exact h
        · exact .inr h
      refine ⟨hS', ih (listed.setIfInBounds j true) a' w' hfree' (ready_mono hr (Ne.symm hji)) (by rw [getD_set_ne' hjk]; exact hk) h3.1 hS' ?_⟩
      rw [Array.setIfInBounds_comm _ _ hji]
      exact h3.2.2
theorem wpAnyI_first' {i k : Nat} {oi : Oper} {v : Value} (hi : ops[i]? = some oi) (hik : i ≠ k) (hsel : ∀ (j : Nat) (o : Oper) cs b, ops[j]? = some o → o.op ≠ .select cs b)
    (hQ : ∀ c a w, Q (.panic c) (a.put oi.dst v) w → Q (.panic c) a w) :
    ∀ (fuel : Nat) (listed : Array Bool) (a : Act) (w : World),
      (∀ j oj, ops[j]? = some oj → j ≠ i → listed.getD j true = false → (∀ e ∈ oj.after, Region.binds md e = true → e.on ≠ i) → oi.apart ops oj = true) →
      i ∈ Region.ready md ops listed → YieldsIf P ops (fun _ => True) oi v a → SK k R0 listed w →
      wpAnyI P md ops Q (SK k R0) fuel (listed.setIfInBounds i true) (a.put oi.dst v) w → wpAnyI P md ops Q (SK k R0) (fuel + 1) listed a w := by
  intro fuel
  have hup : ∀ (l : Array Bool) w, SK k R0 l w → SK k R0 (l.setIfInBounds i true) w := fun l w h => h.imp (fun h => by rw [getD_set_ne' hik]; exact h) id
  induction fuel with
  | zero =>
    intro listed a w _ hr hy hS H
    refine ⟨fun h => zz46, fun j hj => ?_⟩
    by_cases hji : j = i
    · subst hji; exact hy.wpOp hi trivial ⟨hup _ _ hS, H⟩
    · have := ready_mono hj hji
      rw [H.1] at this
      cases this
  | succ fuel ih =>
    intro listed a w hfree hr hy hS H
    refine ⟨fun h => zz46, fun j hj => ?_⟩
    by_cases hji : j = i
    · subst hji; exact hy.wpOp hi trivial ⟨hup _ _ hS, H⟩
    · have h1 := H.2 j (ready_mono hj hji)
      obtain ⟨hjun, oj, hoj, hall⟩ := mem_ready.1 hj
      have hnot : ∀ e ∈ oj.after, Region.binds md e = true → e.on ≠ i := fun e he hb heq => by
        have h1 := hall e he hb
        have h0 := (mem_ready.1 hr).1
        rw [heq] at h1
        rcases Nat.lt_or_ge i listed.size with h' | h'
        · simp [h'] at h0 h1; rw [h0] at h1; cases h1
        · simp [Array.getElem?_eq_none h'] at h1
      have h2 := wpOp_putIf hoj (hfree j oj hoj hji hjun hnot) (fun cs b => hsel i oi cs b hi) (fun cs b => hsel j oj cs b hoj) hQ hy h1
      have hfree' : ∀ m om, ops[m]? = some om → m ≠ i → (listed.setIfInBounds j true).getD m true = false →
          (∀ e ∈ om.after, Region.binds md e = true → e.on ≠ i) → oi.apart ops om = true := fun m om hm hmi hun hno => by
        refine hfree m om hm hmi ?_ hno
        by_cases hjm : j = m
        · subst hjm; exact hjun
        · rw [getD_set_ne true hjm] at hun; exact hun
      refine wpOp_mono (fun a' w' h3 => ?_) h2
      have hS' : SK k R0 (listed.setIfInBounds j true) w' := by
        rcases h3.2.1 with h | h
        · refine .inl ?_
          by_cases hjk : j = k
          · subst hjk
            rw [Array.setIfInBounds_comm _ _ (Ne.symm hji), getD_set_ne' hik] at h
            exact h
          · rw [getD_set_ne' hjk, getD_set_ne' hik] at h
            rw [getD_set_ne' hjk]; exact h
        · exact .inr h
      refine ⟨hS', ih (listed.setIfInBounds j true) a' w' hfree' (ready_mono hr (Ne.symm hji)) h3.1 hS' ?_⟩
      rw [Array.setIfInBounds_comm _ _ hji]
      exact h3.2.2
variable {n : Cx} {R : World → Prop} {L : Slots} {k fuel : Nat} {listed : Array Bool}
def WPD (P : Program) (ops : Array Oper) (Q : Exit → Act → World → Prop) (n : Cx) (k : Nat) (R0 R : World → Prop) (L : Slots) (fuel : Nat) (listed : Array Bool) : Prop :=
  ∀ a w, Sl n a L → R w → wpAnyI P .any ops Q (SK k R0) fuel listed a w
class NoP (Q : Exit → Act → World → Prop) : Prop where
  out : ∀ c (a a' : Act) w, a'.defers = a.defers → Q (.panic c) a w → Q (.panic c) a' w
theorem defers_put (a : Act) (d : Option Tmp) (v : Value) : a.defers = (a.put d v).defers := by cases d <;> rfl
def noSel (ops : Array Oper) : Bool := Region.noSelect ops
theorem wpc_draw {id : Nat} {l : List Oper} (k : Nat) (hm : P.follows .mixedOrders = true) (hdr : ∀ w : World, R w → R { w with drawn := w.drawn + 1 })
    (h : WPD P l.toArray Q n k R R L l.length (Array.replicate l.length false)) : WPC P Q n R L (.region id l.toArray true) := by
  intro a w hs hr
  refine wp_region_any hm (wpAny_of_I (S := SK k R) _ _ _ _ ?_)
  have := h a { w with drawn := w.drawn + 1 } hs (hdr w hr)
  simpa using this
def waits (ops : Array Oper) (k i : Nat) : Bool := match ops[k]? with
  | none => true
  | some ok => ok.after.any fun e => Region.binds .any e && Nat.beq e.on i
theorem waits_spec {k i : Nat} (h : waits ops k i = true) : ∀ ok, ops[k]? = some ok → ∃ e ∈ ok.after, Region.binds .any e = true ∧ e.on = i := by
  intro ok hok
  simp only [waits, hok] at h
  obtain ⟨e, he, hb⟩ := Array.any_eq_true'.1 h
  simp only [Bool.and_eq_true] at hb
  exact ⟨e, he, hb.1, Nat.eq_of_beq_eq_true hb.2⟩
theorem get_list {l : List Oper} {i : Nat} {o : Oper} (h : l[i]? = some o) : l.toArray[i]? = some o := by simpa using h
variable {op : Op} {v : Value} {d : Nat} {ty : TypeId} {pos : String} {af : Array Edge} {g : Option (Nat × Bool)}
def Wants (ops : Array Oper) (L : Slots) : Option (Nat × Bool) → Prop
  | none => True
  | some (j, b) => ∃ t, (ops[j]?).bind (·.dst) = some t ∧ get L t = some (.bool b)
def WantsNot (ops : Array Oper) (L : Slots) : Option (Nat × Bool) → Prop
  | none => False
  | some (j, b) => ∃ t v, (ops[j]?).bind (·.dst) = some t ∧ get L t = some v ∧ offV v b = true
theorem Wants.spec {a : Act} {d : Option Tmp} (h : Wants ops L g) (hs : Sl n a L) : Region.wanted ⟨d, op, ty, pos, af, g⟩ (yielded ops a.tmps) = true := by
  cases g with
  | none => rfl
  | some g =>
    obtain ⟨j, b⟩ := g
    obtain ⟨t, hj, hv⟩ := h
    simp [Region.wanted, yielded_of (ops := ops) hs hj hv]
theorem WantsNot.spec {a : Act} {d : Option Tmp} (h : WantsNot ops L g) (hs : Sl n a L) : Region.wanted ⟨d, op, ty, pos, af, g⟩ (yielded ops a.tmps) = false := by
  cases g with
  | none => exact h.elim
  | some g =>
    obtain ⟨j, b⟩ := g
    obtain ⟨t, c, hj, hv, hc⟩ := h
    simp only [Region.wanted, yielded_off (ops := ops) hs hj hv hc]
def chk (ops : Array Oper) (listed : Array Bool) (i : Nat) : Bool := Region.noSelect ops && Region.free .any ops listed i && (Region.ready .any ops listed).contains i
theorem chk_spec {i : Nat} (h : chk ops listed i = true) : Region.noSelect ops = true ∧ Region.free .any ops listed i = true ∧ i ∈ Region.ready .any ops listed := by
  simp only [chk, Bool.and_eq_true] at h
  exact ⟨h.1.1, h.1.2, by simpa using h.2⟩
theorem wpd_q (i : Nat) (hi : ops[i]? = some ⟨some d, op, ty, pos, af, g⟩) (hc : (chk ops listed i && waits ops k i && !Nat.beq i k && !listed.getD k false) = true) (hg : Wants ops L g)
    (hop : QOp P n R0 L op v) (hd : Nat.blt d n.n = true) [hP : NoP Q] (hR : ∀ w, R w → R0 w)
    (next : WPD P ops Q n k R0 R ((d, v) :: L) fuel (listed.setIfInBounds i true)) : WPD P ops Q n k R0 R L (fuel + 1) listed := by
  intro a w hs hr
  simp only [Bool.and_eq_true, Bool.not_eq_true'] at hc
  obtain ⟨⟨⟨hc, hw⟩, hik⟩, hk⟩ := hc
  obtain ⟨hsel, hf, hrd⟩ := chk_spec hc
  have hik' : i ≠ k := fun e => by subst e; simp [Nat.beq_refl] at hik
  exact wpAnyI_first (R0 := R0) hi hik' (Region.noSelect_spec hsel) (waits_spec hw) (fun c a w h => hP.out _ _ _ _ (defers_put _ _ _) h) fuel listed a w (Region.free_spec hi hf) hrd hk
    (.inl ⟨hg.spec hs, fun w' h' => hop _ _ _ _ _ a w' hs h'⟩) (.inr (hR w hr)) (next _ _ (hs.put hd v) hr)
theorem wpd_p (i : Nat) (hi : ops[i]? = some ⟨some d, op, ty, pos, af, g⟩) (hc : (chk ops listed i && !Nat.beq i k) = true) (hg : Wants ops L g)
    (hop : QOp P n (fun _ => True) L op v) (hd : Nat.blt d n.n = true) [hP : NoP Q] (hR : ∀ w, R w → SK k R0 listed w)
    (next : WPD P ops Q n k R0 R ((d, v) :: L) fuel (listed.setIfInBounds i true)) : WPD P ops Q n k R0 R L (fuel + 1) listed := by
  intro a w hs hr
  simp only [Bool.and_eq_true, Bool.not_eq_true'] at hc
  obtain ⟨hc, hik⟩ := hc
  obtain ⟨hsel, hf, hrd⟩ := chk_spec hc
  have hik' : i ≠ k := fun e => by subst e; simp [Nat.beq_refl] at hik
  exact wpAnyI_first' (R0 := R0) hi hik' (Region.noSelect_spec hsel) (fun c a w h => hP.out _ _ _ _ (defers_put _ _ _) h) fuel listed a w (Region.free_spec hi hf) hrd
    (.inl ⟨hg.spec hs, fun w' h' => hop _ _ _ _ _ a w' hs h'⟩) (hR w hr) (next _ _ (hs.put hd v) hr)
theorem wpd_off (i : Nat) (hi : ops[i]? = some ⟨some d, op, ty, pos, af, g⟩) (hc : (chk ops listed i && !Nat.beq i k) = true) (hg : WantsNot ops L g)
    (hd : Nat.blt d n.n = true) [hP : NoP Q] (hR : ∀ w, R w → SK k R0 listed w)
    (next : WPD P ops Q n k R0 R ((d, undef) :: L) fuel (listed.setIfInBounds i true)) : WPD P ops Q n k R0 R L (fuel + 1) listed := by
  intro a w hs hr
  simp only [Bool.and_eq_true, Bool.not_eq_true'] at hc
  obtain ⟨hc, hik⟩ := hc
  obtain ⟨hsel, hf, hrd⟩ := chk_spec hc
  have hik' : i ≠ k := fun e => by subst e; simp [Nat.beq_refl] at hik
  exact wpAnyI_first' (R0 := R0) hi hik' (Region.noSelect_spec hsel) (fun c a w h => hP.out _ _ _ _ (defers_put _ _ _) h) fuel listed a w (Region.free_spec hi hf) hrd
    (.inr ⟨hg.spec hs, rfl⟩) (hR w hr) (next _ _ (hs.put hd undef) hr)
theorem wpAnyI_one {i : Nat} {fuel : Nat} {listed : Array Bool} {a : Act} {w : World} {S : Array Bool → World → Prop} (hr : Region.ready .any ops listed = [i])
    (h : wpOp P ops Q i (fun a' w' => S (listed.setIfInBounds i true) w' ∧ wpAnyI P .any ops Q S fuel (listed.setIfInBounds i true) a' w') a w) : wpAnyI P .any ops Q S (fuel + 1) listed a w :=
  ⟨fun h0 => absurd (hr.symm.trans h0) zz40, fun j hj => by rw [hr] at hj; simp at hj; subst hj; exact h⟩
theorem wpd_t {ι : Type} {V : ι → Value} {R' : ι → World → Prop} (i : Nat) (hi : ops[i]? = some ⟨some d, op, ty, pos, af, g⟩) (hr : Region.ready .any ops listed = [i]) (hg : Wants ops L g)
    (hop : TOp P Q n R L op ι V R') (hd : Nat.blt d n.n = true) (hS : ∀ x w, R' x w → SK k R0 (listed.setIfInBounds i true) w)
    (next : ∀ x, WPD P ops Q n k R0 (R' x) ((d, V x) :: L) fuel (listed.setIfInBounds i true)) : WPD P ops Q n k R0 R L (fuel + 1) listed := by
  intro a w hs hw
  refine wpAnyI_one hr ?_
  unfold wpOp
  simp only [hi, hg.spec hs, if_true]
  exact .inl (hop _ _ _ _ _ a w _ hs hw fun x w' h' => ⟨hS x w' h', next x _ _ (hs.put hd (V x)) h'⟩)
theorem wpd_t0 {ι : Type} {V : ι → Value} {R' : ι → World → Prop} (i : Nat) (hi : ops[i]? = some ⟨none, op, ty, pos, af, g⟩) (hr : Region.ready .any ops listed = [i]) (hg : Wants ops L g)
    (hop : TOp P Q n R L op ι V R') (hS : ∀ x w, R' x w → SK k R0 (listed.setIfInBounds i true) w)
    (next : ∀ x, WPD P ops Q n k R0 (R' x) L fuel (listed.setIfInBounds i true)) : WPD P ops Q n k R0 R L (fuel + 1) listed := by
  intro a w hs hw
  refine wpAnyI_one hr ?_
  unfold wpOp
  simp only [hi, hg.spec hs, if_true]
  exact .inl (hop _ _ _ _ _ a w _ hs hw fun x w' h' => ⟨hS x w' h', next x _ _ hs h'⟩)
theorem wpd_done (hr : Region.ready .any ops listed = []) (h : EX Q .normal n R L) : WPD P ops Q n k R0 R L fuel listed := by
  intro a w hs hw
  cases fuel with
  | zero => exact ⟨hr, h a w hs hw⟩
  | succ f => exact ⟨fun _ => h a w hs hw, fun i hi => by rw [hr] at hi; cases hi⟩
instance nop_then {K : Act → World → Prop} [h : NoP Q] : NoP (Exit.then K Q) := ⟨fun c a a' w e hq => h.out c a a' w e hq⟩
instance nop_block {id : Nat} [h : NoP Q] : NoP (Exit.inBlock id Q) := ⟨fun c a a' w e hq => h.out c a a' w e hq⟩
theorem nop_post {fn : Func} {post : Ending → World → Prop} (h : ∀ c w, ¬ post (.panicked c) w) : NoP (bodyPost P fn post) := ⟨fun c _ _ w _ hq => absurd hq.2 (h c w)⟩
instance (priority := 100) nop_body {fn : Func} {post : Ending → World → Prop} : NoP (bodyPost P fn post) := ⟨fun _ _ _ _ e hq => ⟨e.trans hq.1, hq.2⟩⟩
theorem sk0 {R : World → Prop} : ∀ w, R w → SK k R listed w := fun _ h => .inr h
theorem skk {R R1 : World → Prop} (h : listed.getD k false = true) : ∀ w, R1 w → SK k R listed w := fun _ _ => .inl h
end
end Go.PL
namespace Go.PL
open Go Go.RowKit
abbrev Rd := Addr → Option Value
inductive Ent where
  | blk (b : Nat) (t : TypeId) (cs : List Value)
  | row (v : Value) (n : Nat) (e : TypeId) (sz : Nat) (xs : List Value)
  | obj (b : Nat) (o : Obj)
def Ent.num : Ent → Option Nat
  | .blk b _ _ => some b
  | .row v _ _ _ _ => v.ownBlock
  | .obj b _ => some b
def Ent.at (w : World) : Ent → Prop
  | .blk b t cs => w.heap[b]? = some (.cells cs.toArray t (0, 0))
  | .row v n e sz xs => w.ownsRow 0 e sz v n xs
  | .obj b o => w.heap[b]? = some o
theorem Ent.lt {w : World} {e : Ent} (h : e.at w) {k : Nat} (hk : e.num = some k) : k < w.heap.size := by
  cases e with
  | blk b t cs =>
    simp only [Ent.num, Option.some.injEq] at hk
    subst hk
    exact (Array.getElem?_eq_some_iff.1 h).1
  | row v n e sz xs => exact (World.ownsRow.lt h k hk).2
  | obj b o =>
    simp only [Ent.num, Option.some.injEq] at hk
    subst hk
    exact (Array.getElem?_eq_some_iff.1 h).1
theorem Ent.kept {w w' : World} {e : Ent} (h : e.at w) (hk : ∀ k, e.num = some k → w'.heap[k]? = w.heap[k]?) : e.at w' := by
  cases e with
  | blk b t cs => exact (hk b rfl).trans h
  | obj b o => exact (hk b rfl).trans h
  | row v n e sz xs =>
    obtain ⟨h1, h2⟩ := h
    refine ⟨h1, ?_⟩
    rcases h2 with hn | ⟨g, cap, cur, rfl, hb, hg, rest⟩
    · exact .inl hn
    · exact .inr ⟨g, cap, cur, rfl, hb, (hk g rfl).trans hg, rest⟩
structure Fact where
  f : Rd → Prop
  mono : ∀ r r' : Rd, (∀ a v, r a = some v → r' a = some v) → f r → f r'
def inM (M : List Ent) (b : Nat) : Bool := M.any fun e => e.num == some b
def rdF (B : Nat) (M : List Ent) (w : World) : Rd := fun a => if B ≤ a.block ∧ inM M a.block = false then w.cell? a else none
structure Mem (w0 : World) (Ln : List Nat) (M : List Ent) (S : List Fact) (w : World) : Prop where
  os : w.os = w0.os
  tape : w.tape = w0.tape
  output : w.output = w0.output
  size : w0.heap.size ≤ w.heap.size
  old : ∀ k, k < w0.heap.size → k ∉ Ln → w.heap[k]? = w0.heap[k]?
  own : ∀ e ∈ M, e.at w
  new : ∀ e ∈ M, ∀ k, e.num = some k → w0.heap.size ≤ k ∨ k ∈ Ln
  apart : M.Pairwise fun e f => ∀ k, e.num = some k → f.num ≠ some k
  facts : ∀ s ∈ S, s.f (rdF w0.heap.size M w)
structure New (B : Nat) (N : List Ent) (T : List Fact) (w : World) : Prop where
  own : ∀ e ∈ N, e.at w
  new : ∀ e ∈ N, ∀ k, e.num = some k → B ≤ k
  apart : N.Pairwise fun e f => ∀ k, e.num = some k → f.num ≠ some k
  facts : ∀ s ∈ T, s.f (rdF B N w)
theorem Mem.start (w : World) : Mem w [] [] [] w :=
  ⟨rfl, rfl, rfl, Nat.le_refl _, fun _ _ _ => rfl, fun _ h => (by cases h), fun _ h => (by cases h), .nil, fun _ h => (by cases h)⟩
theorem inM_iff {M : List Ent} {b : Nat} : inM M b = true ↔ ∃ e ∈ M, e.num = some b := by
  simp [inM, List.any_eq_true]
theorem inM_not {M : List Ent} {b : Nat} (h : inM M b = false) : ∀ e ∈ M, e.num ≠ some b := fun e he hn => by
  have := inM_iff.2 ⟨e, he, hn⟩
  rw [h] at this; cases this
section
variable {w0 w : World} {Ln : List Nat} {M : List Ent} {S : List Fact}
theorem Mem.drew (h : Mem w0 Ln M S w) : Mem w0 Ln M S { w with drawn := w.drawn + 1 } :=
  ⟨h.os, h.tape, h.output, h.size, h.old, h.own, h.new, h.apart, h.facts⟩
theorem Mem.step {w' : World} {M' : List Ent} (h : Mem w0 Ln M S w) (hos : w'.os = w.os) (htape : w'.tape = w.tape) (hout : w'.output = w.output) (hsz : w.heap.size ≤ w'.heap.size)
    (hb : ∀ k, k < w.heap.size → (k < w0.heap.size → k ∉ Ln) → inM M k = false → w'.heap[k]? = w.heap[k]?)
    (hown : ∀ e ∈ M', e.at w') (hnew : ∀ e ∈ M', ∀ k, e.num = some k → w0.heap.size ≤ k ∨ k ∈ Ln) (hap : M'.Pairwise fun e f => ∀ k, e.num = some k → f.num ≠ some k)
    (hM : ∀ k, k < w.heap.size → inM M k = false → inM M' k = false) : Mem w0 Ln M' S w' := by
  refine ⟨hos.trans h.os, htape.trans h.tape, hout.trans h.output, Nat.le_trans h.size hsz, fun k hk hl => ?_, hown, hnew, hap, fun s hs => s.mono _ _ (fun a v hv => ?_) (h.facts s hs)⟩
  · have hnot : inM M k = false := by
      cases hm : inM M k
      · rfl
      · obtain ⟨e, he, hn⟩ := inM_iff.1 hm
        rcases h.new e he k hn with h1 | h1
        · omega
        · exact absurd h1 hl
    exact (hb k (Nat.lt_of_lt_of_le hk h.size) (fun _ => hl) hnot).trans (h.old k hk hl)
  · simp only [rdF] at hv ⊢
    split at hv
    · rename_i hc
      have hlt := World.block_lt_of_cell? w a hv
      rw [if_pos ⟨hc.1, hM _ hlt hc.2⟩]
      rw [World.cell?_of_block (hb a.block hlt (fun h' => zz12) hc.2)]
      exact hv
    · cases hv
theorem Mem.alloc (h : Mem w0 Ln M S w) (t : TypeId) (cs : List Value) : Mem w0 Ln (.blk w.heap.size t cs :: M) S (w.alloc (.cells cs.toArray t)) := by
  have hlt : ∀ e ∈ M, ∀ k, e.num = some k → k < w.heap.size := fun e he k hk => Ent.lt (h.own e he) hk
  refine h.step rfl rfl rfl zz40 (fun k hk _ _ => heap_alloc_old w _ k hk) ?_ ?_ ?_ ?_
  · intro e he
    rcases List.mem_cons.1 he with rfl | he
    · exact heap_alloc_new w _
    · exact Ent.kept (h.own e he) fun k hk => heap_alloc_old w _ k (hlt e he k hk)
  · intro e he k hk
    rcases List.mem_cons.1 he with rfl | he
    · simp only [Ent.num, Option.some.injEq] at hk; subst hk; exact .inl h.size
    · exact h.new e he k hk
  · refine List.pairwise_cons.2 ⟨fun f hf k hk hfk => ?_, h.apart⟩
    simp only [Ent.num, Option.some.injEq] at hk
    have := hlt f hf k hfk
    omega
  · intro k hk hm
    simp only [inM, List.any_cons, Bool.or_eq_false_iff]
    refine ⟨?_, hm⟩
    simp [Ent.num]; omega
inductive Repl {α : Type} : List α → α → α → List α → Prop where
  | here {x y : α} {l : List α} : Repl (x :: l) x y (y :: l)
  | there {x y z : α} {l l' : List α} : Repl l x y l' → Repl (z :: l) x y (z :: l')
theorem Repl.mem {α : Type} {l l' : List α} {x y : α} (h : Repl l x y l') : x ∈ l := by
  induction h with
  | here => simp
  | there _ ih => exact List.mem_cons_of_mem _ ih
theorem Repl.mem' {α : Type} {l l' : List α} {x y : α} (h : Repl l x y l') : ∀ z ∈ l', z = y ∨ z ∈ l := by
  induction h with
  | here => intro z hz; rcases List.mem_cons.1 hz with rfl | hz; exact .inl rfl; exact .inr (List.mem_cons_of_mem _ hz)
  | there _ ih =>
    intro z hz
    rcases List.mem_cons.1 hz with rfl | hz
    · exact .inr (List.mem_cons_self ..)
    · exact (ih z hz).imp id (List.mem_cons_of_mem _)
theorem Repl.apart {l l' : List Ent} {x y : Ent} (h : Repl l x y l') (ha : l.Pairwise fun e f => ∀ k, e.num = some k → f.num ≠ some k)
    (hy : ∀ z ∈ l, ∀ k, y.num = some k → z.num = some k → x.num = some k) : l'.Pairwise fun e f => ∀ k, e.num = some k → f.num ≠ some k := by
  induction h with
  | here =>
    rename_i x y l
    obtain ⟨h1, h2⟩ := List.pairwise_cons.1 ha
    refine List.pairwise_cons.2 ⟨fun f hf k hk hfk => ?_, h2⟩
    exact h1 f hf k (hy f (List.mem_cons_of_mem _ hf) k hk hfk) hfk
  | there hr ih =>
    obtain ⟨h1, h2⟩ := List.pairwise_cons.1 ha
    refine List.pairwise_cons.2 ⟨fun f hf k hk hfk => ?_, ih h2 fun z hz => hy z (List.mem_cons_of_mem _ hz)⟩
    rcases hr.mem' f hf with rfl | hf'
    · have := hy _ (List.mem_cons_self ..) k hfk hk
      exact h1 _ hr.mem k hk this
    · exact h1 f hf' k hk hfk
theorem Repl.others {l l' : List Ent} {x y : Ent} (h : Repl l x y l') (ha : l.Pairwise fun e f => ∀ k, e.num = some k → f.num ≠ some k) :
    ∀ z ∈ l', z = y ∨ (z ∈ l ∧ ∀ k, z.num = some k → x.num ≠ some k) := by
  induction h with
  | here =>
    obtain ⟨h1, h2⟩ := List.pairwise_cons.1 ha
    intro z hz
    rcases List.mem_cons.1 hz with rfl | hz
    · exact .inl rfl
    · exact .inr ⟨List.mem_cons_of_mem _ hz, fun k hk hx => h1 z hz k hx hk⟩
  | there hr ih =>
    obtain ⟨h1, h2⟩ := List.pairwise_cons.1 ha
    intro z hz
    rcases List.mem_cons.1 hz with rfl | hz
    · exact .inr ⟨List.mem_cons_self .., fun k hk hx => h1 _ hr.mem k hk hx⟩
    · exact (ih h2 z hz).imp id fun ⟨a, b⟩ => ⟨List.mem_cons_of_mem _ a, b⟩
theorem Mem.turn {w' : World} {M' : List Ent} {x y : Ent} (h : Mem w0 Ln M S w) (hr : Repl M x y M') (hos : w'.os = w.os) (htape : w'.tape = w.tape) (hout : w'.output = w.output) (hsz : w.heap.size ≤ w'.heap.size)
    (hb : ∀ k, k < w.heap.size → x.num ≠ some k → w'.heap[k]? = w.heap[k]?) (hy : y.at w') (hyn : ∀ k, y.num = some k → x.num = some k ∨ w.heap.size ≤ k) : Mem w0 Ln M' S w' := by
  have hlt : ∀ e ∈ M, ∀ k, e.num = some k → k < w.heap.size := fun e he k hk => Ent.lt (h.own e he) hk
  refine h.step hos htape hout hsz (fun k hk _ hm => hb k hk (inM_not hm _ hr.mem)) ?_ ?_ ?_ ?_
  · intro e he
    rcases hr.others h.apart e he with rfl | ⟨he, hne⟩
    · exact hy
    · exact Ent.kept (h.own e he) fun k hk => hb k (hlt e he k hk) (hne k hk)
  · intro e he k hk
    rcases hr.mem' e he with rfl | he
    · rcases hyn k hk with h1 | h1
      · exact h.new _ hr.mem k h1
      · exact .inl (Nat.le_trans h.size h1)
    · exact h.new e he k hk
  · refine hr.apart h.apart fun z hz k hyk hzk => ?_
    rcases hyn k hyk with h1 | h1
    · exact h1
    · have := hlt z hz k hzk; omega
  · intro k hk hm
    cases hm' : inM M' k
    · rfl
    · obtain ⟨e, he, hn⟩ := inM_iff.1 hm'
      rcases hr.mem' e he with rfl | he
      · rcases hyn k hn with h1 | h1
        · exact absurd h1 (inM_not hm _ hr.mem)
        · omega
      · exact absurd hn (inM_not hm e he)
theorem Mem.call {w' : World} {N : List Ent} {T : List Fact} (h : Mem w0 Ln M S w) (hb : Below w.heap.size w w') (hn : New w.heap.size N T w') : Mem w0 Ln (N ++ M) (T ++ S) w' := by
  have hlt : ∀ e ∈ M, ∀ k, e.num = some k → k < w.heap.size := fun e he k hk => Ent.lt (h.own e he) hk
  have key : Mem w0 Ln (N ++ M) S w' := by
    refine h.step hb.os hb.tape hb.output hb.size (fun k hk _ _ => hb.block k hk) ?_ ?_ ?_ ?_
    · intro e he
      rcases List.mem_append.1 he with he | he
      · exact hn.own e he
      · exact Ent.kept (h.own e he) fun k hk => hb.block k (hlt e he k hk)
    · intro e he k hk
      rcases List.mem_append.1 he with he | he
      · exact .inl (Nat.le_trans h.size (hn.new e he k hk))
      · exact h.new e he k hk
    · refine List.pairwise_append.2 ⟨hn.apart, h.apart, fun a ha b hb k hk hbk => ?_⟩
      have h1 := hn.new a ha k hk
      have h2 := hlt b hb k hbk
      omega
    · intro k hk hm
      cases hm' : inM (N ++ M) k
      · rfl
      · obtain ⟨e, he, hnum⟩ := inM_iff.1 hm'
        rcases List.mem_append.1 he with he | he
        · have := hn.new e he k hnum; omega
        · exact absurd hnum (inM_not hm e he)
  refine { key with facts := fun s hs => ?_ }
  rcases List.mem_append.1 hs with hs | hs
  · refine s.mono _ _ (fun a v hv => ?_) (hn.facts s hs)
    simp only [rdF] at hv ⊢
    split at hv
    · rename_i hc
      have hin : inM (N ++ M) a.block = false := by
        cases hm' : inM (N ++ M) a.block
        · rfl
        · obtain ⟨e, he, hnum⟩ := inM_iff.1 hm'
          rcases List.mem_append.1 he with he | he
          · exact absurd hnum (inM_not hc.2 e he)
          · have := hlt e he _ hnum; omega
      rw [if_pos ⟨Nat.le_trans h.size hc.1, hin⟩]
      exact hv
    · cases hv
  · exact key.facts s hs
inductive Sub {α : Type} : List α → List α → Prop where
  | nil {l : List α} : Sub [] l
  | keep {x : α} {l l' : List α} : Sub l l' → Sub (x :: l) (x :: l')
  | drop {x : α} {l l' : List α} : Sub l l' → Sub l (x :: l')
theorem Sub.sublist {α : Type} {l l' : List α} (h : Sub l l') : l.Sublist l' := by
  induction h with
  | nil => exact List.nil_sublist _
  | keep _ ih => exact ih.cons_cons _
  | drop _ ih => exact ih.cons _
theorem Sub.mem {α : Type} {l l' : List α} (h : Sub l l') : ∀ x, x ∈ l → x ∈ l' := fun _ hx => h.sublist.subset hx
theorem Sub.refl {α : Type} : ∀ (l : List α), Sub l l
  | [] => .nil
  | _ :: l => .keep (Sub.refl l)
theorem Mem.sub {M' : List Ent} {S' : List Fact} (h : Mem w0 Ln M S w) (hM : Sub M' M) (hS : Sub S' S) : Mem w0 Ln M' S' w := by
  refine ⟨h.os, h.tape, h.output, h.size, h.old, fun e he => h.own e (hM.mem e he), fun e he => h.new e (hM.mem e he), h.apart.sublist hM.sublist, fun s hs => s.mono _ _ (fun a v hv => ?_) (h.facts s (hS.mem s hs))⟩
  simp only [rdF] at hv ⊢
  split at hv
  · rename_i hc
    have hin : inM M' a.block = false := by
      cases hm' : inM M' a.block
      · rfl
      · obtain ⟨e, he, hnum⟩ := inM_iff.1 hm'
        exact absurd hnum (inM_not hc.2 e (hM.mem e he))
    rw [if_pos ⟨hc.1, hin⟩]
    exact hv
  · cases hv
theorem Mem.below (h : Mem w0 [] M S w) : Below w0.heap.size w0 w := ⟨h.os, h.tape, h.output, h.size, fun k hk => h.old k hk zz40⟩
theorem Mem.made {N : List Ent} {T : List Fact} (h : Mem w0 [] M S w) (hM : Sub N M) (hS : Sub T S) : New w0.heap.size N T w :=
  let h' := h.sub hM hS
  ⟨h'.own, fun e he k hk => (h'.new e he k hk).resolve_right zz40, h'.apart, h'.facts⟩
def nums : List Ent → List Nat
  | [] => []
  | e :: r => match e.num with
    | some k => k :: nums r
    | none => nums r
theorem mem_nums {M : List Ent} {k : Nat} : k ∈ nums M ↔ ∃ e ∈ M, e.num = some k := by
  induction M with
  | nil => simp [nums]
  | cons e r ih =>
    simp only [nums]
    cases hn : e.num with
    | none => simp [ih, hn]
    | some j => simp [ih, hn, eq_comm]
theorem Mem.base (h : Mem w0 Ln M S w) : Mem w (nums M) M [] w :=
  ⟨rfl, rfl, rfl, Nat.le_refl _, fun _ _ _ => rfl, h.own, fun e he k hk => .inr (mem_nums.2 ⟨e, he, hk⟩), h.apart, fun _ hs => (by cases hs)⟩
theorem Mem.trans {w1 : World} {M' : List Ent} {S' : List Fact} (h1 : Mem w0 Ln M S w1) (h2 : Mem w1 (nums M) M' S' w) : Mem w0 Ln M' [] w := by
  refine ⟨h2.os.trans h1.os, h2.tape.trans h1.tape, h2.output.trans h1.output, Nat.le_trans h1.size h2.size, fun k hk hl => ?_, h2.own, fun e he k hk => ?_, h2.apart, fun _ hs => (by cases hs)⟩
  · refine (h2.old k (Nat.lt_of_lt_of_le hk h1.size) fun hm => ?_).trans (h1.old k hk hl)
    obtain ⟨e, he, hn⟩ := mem_nums.1 hm
    rcases h1.new e he k hn with h | h
    · omega
    · exact hl h
  · rcases h2.new e he k hk with h | h
    · exact .inl (Nat.le_trans h1.size h)
    · obtain ⟨e', he', hn⟩ := mem_nums.1 h
      exact h1.new e' he' k hn
theorem Mem.lend {Ln' : List Nat} (h : Mem w0 Ln M S w) (hl : ∀ k, k ∈ Ln → k ∈ Ln') : Mem w0 Ln' M S w :=
  ⟨h.os, h.tape, h.output, h.size, fun k hk hn => h.old k hk fun hm => hn (hl k hm), h.own, fun e he k hk => (h.new e he k hk).imp id (hl k), h.apart, h.facts⟩
theorem Mem.chg {w1 : World} {T : List Nat} (h : Mem w0 Ln M S w1) (h2 : Mem w1 T [] [] w) (hT : ∀ k, k ∈ T → w0.heap.size ≤ k ∧ inM M k = false) : Mem w0 Ln M [] w := by
  refine ⟨h2.os.trans h.os, h2.tape.trans h.tape, h2.output.trans h.output, Nat.le_trans h.size h2.size, fun k hk hl => ?_, fun e he => ?_, h.new, h.apart, fun _ hs => (by cases hs)⟩
  · exact (h2.old k (Nat.lt_of_lt_of_le hk h.size) fun hm => by have := (hT k hm).1; omega).trans (h.old k hk hl)
  · exact Ent.kept (h.own e he) fun k hk => h2.old k (Ent.lt (h.own e he) hk) fun hm => inM_not (hT k hm).2 e he hk
theorem Mem.startL {Ms : List Ent} (w : World) (h : ∀ e ∈ Ms, e.at w) (ha : Ms.Pairwise fun e f => ∀ k, e.num = some k → f.num ≠ some k) : Mem w (nums Ms) Ms [] w :=
  ⟨rfl, rfl, rfl, Nat.le_refl _, fun _ _ _ => rfl, h, fun e he k hk => .inr (mem_nums.2 ⟨e, he, hk⟩), ha, fun _ hs => (by cases hs)⟩
theorem Mem.start1 {b : Nat} {t : TypeId} {cs : List Value} (w : World) (h : w.heap[b]? = some (.cells cs.toArray t (0, 0))) : Mem w [b] [.blk b t cs] [] w :=
  Mem.startL (Ms := [.blk b t cs]) w (by intro e he; simp at he; subst he; exact h) zz40
theorem Mem.lent1 {w' : World} {M' : List Ent} {b : Nat} {t t' : TypeId} {cs cs' : List Value} (h : Mem w0 Ln M S w) (hr : Repl M (.blk b t cs) (.blk b t' cs') M') (h2 : Mem w [b] [.blk b t' cs'] [] w') : Mem w0 Ln M' S w' := by
  refine h.turn hr h2.os h2.tape h2.output h2.size (fun k hk hne => h2.old k hk ?_) (h2.own _ (List.mem_cons_self ..)) ?_
  · intro hm; simp at hm; exact hne (by simp [Ent.num, hm])
  · intro k hk; exact .inl hk
theorem Mem.cell_blk (h : Mem w0 Ln M S w) {b : Nat} {t : TypeId} {cs : List Value} (hm : Ent.blk b t cs ∈ M) {off : Nat} {v : Value} (hv : cs[off]? = some v) : w.cell? ⟨b, off, none⟩ = some v := by
  have : w.heap[b]? = some (.cells cs.toArray t (0, 0)) := h.own _ hm
  simp [World.cell?, this, hv]
theorem Mem.cell_row (h : Mem w0 Ln M S w) {g n cap : Nat} {e : TypeId} {sz : Nat} {xs : List Value} (hm : Ent.row (.slice (some ⟨g, 0, none⟩) n cap) n e sz xs ∈ M) {j : Nat} {v : Value} (hv : xs[j]? = some v) :
    w.cell? ((⟨g, 0, none⟩ : Addr).add j) = some v := World.ownsRow.cells (h.own _ hm) rfl j v hv
theorem Mem.cell_old (h : Mem w0 [] M S w) {a : Addr} {v : Value} (hv : w0.cell? a = some v) : w.cell? a = some v :=
  (World.cell?_of_block (h.old a.block (World.block_lt_of_cell? w0 a hv) zz40)).trans hv
theorem Mem.cell_oldL (h : Mem w0 Ln M S w) {a : Addr} {v : Value} (hv : w0.cell? a = some v) (hl : a.block ∉ Ln) : w.cell? a = some v :=
  (World.cell?_of_block (h.old a.block (World.block_lt_of_cell? w0 a hv) hl)).trans hv
theorem Mem.fact (h : Mem w0 Ln M S w) {s : Fact} (hs : s ∈ S) : s.f w.cell? := by
  refine s.mono _ _ (fun a v hv => ?_) (h.facts s hs)
  simp only [rdF] at hv
  split at hv
  · exact hv
  · cases hv
end
end Go.PL
namespace Go.PL
open Go Go.RowKit
def TyI (P : Program) (t : TypeId) (z : Value) (sz by_ : Nat) : Prop := (P.info? t).map (fun i => (i.zero, i.size, i.bytes)) = some (some z, sz, by_)
def isAggD : TypeDesc → Bool
  | .struct _ => true
  | .array _ _ => true
  | _ => false
section
variable {P : Program} {n : Cx} {R : World → Prop} {L : Slots} {Q : Exit → Act → World → Prop}
theorem TyI.info {t : TypeId} {z : Value} {sz by_ : Nat} (h : TyI P t z sz by_) : ∃ i, P.info? t = some i ∧ i.zero = some z ∧ i.size = sz ∧ i.bytes = by_ := by
  unfold TyI at h
  cases hi : P.info? t with
  | none => simp [hi] at h
  | some i => simp [hi] at h; exact ⟨i, rfl, h.1, h.2.1, h.2.2⟩
theorem run_sz {t : TypeId} {z : Value} {sz by_ : Nat} (h : TyI P t z sz by_) (w : World) : (sizeOf t).run P w = .ok sz w := by
  obtain ⟨i, hi, _, hs, _⟩ := h.info
  simp [sizeOf, typeInfo, hi, hs]
theorem run_zero {t : TypeId} {z : Value} {sz by_ : Nat} (h : TyI P t z sz by_) (w : World) : (zeroValue t).run P w = .ok z w := by
  obtain ⟨i, hi, hz, _, _⟩ := h.info
  simp [zeroValue, typeInfo, hi, hz]
theorem run_agg {t : TypeId} {d : TypeDesc} (h : P.underlying t = some d) (w : World) : (isAgg t).run P w = .ok (isAggD d) w := by
  cases d <;> simp [isAgg, run_underlying h, isAggD]
theorem add_lit (b o j : Nat) : (⟨b, o, none⟩ : Addr).add j = ⟨b, o + j, none⟩ := by
  unfold Addr.add; split <;> simp_all
theorem q_idxA {t e len : Nat} {x i : Operand} {b off : Nat} {k : IntKind} {m : Int} {z : Value} {sz by_ : Nat} (hu : P.underlying t = some (.array len e)) (he : TyI P e z sz by_)
    (hx : ev L x = some (.pointer (some ⟨b, off, none⟩))) (hi : ev L i = some (.int k m)) (h0 : 0 ≤ m) (h1 : m < len) (o' : Nat) (ho : off + m.toNat * sz = o') :
    QOp P n R L (.indexAddr t x i) (.pointer (some ⟨b, o', none⟩)) := by
  intro d ty pos af g a w hs _
  subst ho
  simp only [execOp, hs.eval hx, hs.eval hi]
  simp [Instr.indexAt, asIntOf, run_underlying hu, Instr.sureAddr, h0, h1, run_sz he, add_lit]
theorem q_idxS {t e : Nat} {x i : Operand} {ad : Addr} {len cap : Nat} {k : IntKind} {m : Int} {z : Value} {sz by_ : Nat} (hu : P.underlying t = some (.slice e)) (he : TyI P e z sz by_)
    (hx : ev L x = some (.slice (some ad) len cap)) (hi : ev L i = some (.int k m)) (h0 : 0 ≤ m) (h1 : m < len) (j : Nat) (hj : m.toNat * sz = j) :
    QOp P n R L (.indexAddr t x i) (.pointer (some (ad.add j))) := by
  intro d ty pos af g a w hs _
  subst hj
  simp only [execOp, hs.eval hx, hs.eval hi]
  simp [Instr.indexAt, asIntOf, run_underlying hu, h0, h1, run_sz he]
theorem q_field {t : Nat} {x : Operand} {f : Nat} {fs : Array Field} {fd : Field} {b off : Nat} {z : Value} {sz by_ : Nat} (hu : P.underlying t = some (.struct fs)) (hf : fs[f]? = some fd) (hz : TyI P fd.type z sz by_) (hsz : Nat.beq sz 0 = false)
    (hx : ev L x = some (.pointer (some ⟨b, off, none⟩))) (o' : Nat) (ho : off + fd.offset = o') : QOp P n R L (.fieldAddr t x f) (.pointer (some ⟨b, o', none⟩)) := by
  intro d ty pos af g a w hs _
  subst ho
  have : ¬ sz = 0 := fun e => by subst e; simp at hsz
  simp only [execOp, hs.eval hx]
  simp [Instr.fieldAt, run_underlying hu, hf, Instr.sureAddr, fieldPlace, run_sz hz, this, add_lit]
theorem q_fieldP {t : Nat} {x : Operand} {f : Nat} {fs : Array Field} {fd : Field} {ad : Addr} {z : Value} {sz by_ : Nat} (hu : P.underlying t = some (.struct fs)) (hf : fs[f]? = some fd) (hz : TyI P fd.type z sz by_) (hsz : Nat.beq sz 0 = false)
    (hx : ev L x = some (.pointer (some ad))) : QOp P n R L (.fieldAddr t x f) (.pointer (some (ad.add fd.offset))) := by
  intro d ty pos af g a w hs _
  have : ¬ sz = 0 := fun e => by subst e; simp at hsz
  simp only [execOp, hs.eval hx]
  simp [Instr.fieldAt, run_underlying hu, hf, Instr.sureAddr, fieldPlace, run_sz hz, this]
theorem q_conv {s t : Nat} {x : Operand} {k k' : IntKind} {m : Int} {ds : TypeDesc} (hs' : P.underlying s = some ds) (hu : P.underlying t = some (.int k)) (hx : ev L x = some (.int k' m)) : QOp P n R L (.convert s t x) (.int k (wk k m)) := by
  intro d ty pos af g a w hs _
  simp only [execOp, hs.eval hx]
  simp [convert, run_underlying hs', run_underlying hu, Conv.intToInt, wk_eq]
theorem q_len {x : Operand} {t e : TypeId} {ad : Option Addr} {len cap : Nat} (hu : P.underlying t = some (.slice e)) (hx : ev L x = some (.slice ad len cap)) :
    QOp P n R L (.call { callee := .builtin .len, args := #[x], argTypes := #[t] }) (.int .i64 len) := by
  intro d ty pos af g a w hs _
  simp only [execOp, resolve, invoke, builtin, List.map_toArray, List.map_cons, List.map_nil, hs.eval hx]
  simp [Builtin.len_, run_underlying hu, goInt]
theorem q_lenStr {x : Operand} {t : TypeId} {s : ByteArray} (hu : P.underlying t = some .string) (hx : ev L x = some (.string s)) :
    QOp P n R L (.call { callee := .builtin .len, args := #[x], argTypes := #[t] }) (.int .i64 s.size) := by
  intro d ty pos af g a w hs _
  simp only [execOp, resolve, invoke, builtin, List.map_toArray, List.map_cons, List.map_nil, hs.eval hx]
  simp [Builtin.len_, run_underlying hu, goInt]
theorem q_fn {fn : Fn} {first captured : Array Operand} {us vs : List Value} (hf : first.toList.map (ev L) = us.map some) (hc : captured.toList.map (ev L) = vs.map some) :
    QOp P n R L (.makeFunc fn first captured) (.func fn us.toArray vs.toArray) := by
  intro d ty pos af g a w hs _
  have key : ∀ (xs : List Operand) (us : List Value), xs.map (ev L) = us.map some → xs.map a.eval = us := by
    intro xs
    induction xs with
    | nil => intro us h; cases us with
      | nil => rfl
      | cons => simp at h
    | cons x xs ih => intro us h; cases us with
      | nil => simp at h
      | cons u us =>
        simp only [List.map_cons, List.cons.injEq] at h
        simp only [List.map_cons, hs.eval h.1, ih us h.2]
  have h1 : first.map a.eval = us.toArray := by
    have e : (first.map a.eval).toList = us := by rw [Array.toList_map]; exact key _ _ hf
    rw [← e]
  have h2 : captured.map a.eval = vs.toArray := by
    have e : (captured.map a.eval).toList = vs := by rw [Array.toList_map]; exact key _ _ hc
    rw [← e]
  simp only [execOp, h1, h2]
  simp [Instr.makeFunc]
theorem q_sliceA {t e len : Nat} {x : Operand} {lo hi : Option Operand} {b off : Nat} {l h : Nat} {z : Value} {sz by_ : Nat} (hu : P.underlying t = some (.array len e)) (he : TyI P e z sz by_)
    (hx : ev L x = some (.pointer (some ⟨b, off, none⟩))) (hlo : match lo with | none => l = 0 | some o => ∃ (k : IntKind) (m : Int), ev L o = some (.int k m) ∧ 0 ≤ m ∧ m.toNat = l)
    (hhi : match hi with | none => h = len | some o => ∃ (k : IntKind) (m : Int), ev L o = some (.int k m) ∧ 0 ≤ m ∧ m.toNat = h) (hlh : l ≤ h) (hhn : h ≤ len) (hne : Nat.beq len l = false) :
    QOp P n R L (.slice t x lo hi none) (.slice (some ⟨b, off + l * sz, none⟩) (h - l) (len - l)) := by
  intro d ty pos af g a w hs _
  have hne' : ¬ len = l := fun e => by subst e; simp at hne
  have hb : ∀ (o : Operand) (y : Nat) (c : BoundsCode) (l : Nat), (∃ (k : IntKind) (m : Int), ev L o = some (.int k m) ∧ 0 ≤ m ∧ m.toNat = l) → l ≤ y → (Instr.sliceBound (a.eval o) y c).run P w = .ok l w := by
    rintro o y c l ⟨k, m, ho, h0, rfl⟩ hy
    have : m ≤ (y : Int) := by omega
    simp only [hs.eval ho]
    simp [Instr.sliceBound, asIntOf, h0, this]
  simp only [execOp, hs.eval hx]
  cases lo with
  | none =>
    simp only at hlo; subst hlo
    cases hi with
    | none =>
      simp only at hhi; subst hhi
      simp [Instr.sliceAt, run_underlying hu, Instr.sureAddr, Instr.sliceBounds, run_sz he, add_lit]
    | some oh =>
      simp only at hhi
      have h2 := hb oh len .sliceAlen h hhi hhn
      simp [Instr.sliceAt, run_underlying hu, Instr.sureAddr, Instr.sliceBounds, run_sz he, h2, add_lit]
  | some ol =>
    simp only at hlo
    have h1 := hb ol h .sliceB l hlo hlh
    cases hi with
    | none =>
      simp only at hhi; subst hhi
      simp [Instr.sliceAt, run_underlying hu, Instr.sureAddr, Instr.sliceBounds, run_sz he, h1, add_lit, hne']
    | some oh =>
      simp only at hhi
      have h2 := hb oh len .sliceAlen h hhi hhn
      simp [Instr.sliceAt, run_underlying hu, Instr.sureAddr, Instr.sliceBounds, run_sz he, h1, h2, add_lit, hne']
theorem q_load1 {t : TypeId} {x : Operand} {ad : Addr} {v : Value} {d : TypeDesc} (hu : P.underlying t = some d) (hd : isAggD d = false) (hx : ev L x = some (.pointer (some ad)))
    (hc : ∀ w, R w → w.cell? ad = some v) : QOp P n R L (.load t x) v := by
  intro d' ty pos af g a w hs hr
  simp only [execOp, hs.eval hx]
  simp [Instr.loadAt, Instr.sureAddr, loadVar, run_agg hu, hd, load, Sem.run, hc w hr]
theorem q_loadN {t : TypeId} {x : Operand} {ad : Addr} {cs : List Value} {d : TypeDesc} {z : Value} {sz by_ : Nat} (hu : P.underlying t = some d) (hd : isAggD d = true) (ht : TyI P t z sz by_)
    (hx : ev L x = some (.pointer (some ad))) (hc : ∀ w, R w → ∀ j v, cs[j]? = some v → w.cell? (ad.add j) = some v) (hl : cs.length = sz) : QOp P n R L (.load t x) (.agg cs.toArray) := by
  intro d' ty pos af g a w hs hr
  subst hl
  have := run_loadCells_list (P := P) w ad cs (hc w hr)
  simp only [execOp, hs.eval hx]
  simp [Instr.loadAt, Instr.sureAddr, loadVar, run_agg hu, hd, run_sz ht, this]
variable {w0 : World} {Ln : List Nat} {M : List Ent} {S : List Fact}
theorem t_alloc {t : TypeId} {z : Value} {sz by_ : Nat} (ht : TyI P t z sz by_) (cs : List Value) (hz : z.cells.toList = cs) :
    TOp P Q n (Mem w0 Ln M S) L (.alloc t) Nat (fun b => .pointer (some ⟨b, 0, none⟩)) (fun b => Mem w0 Ln (.blk b t cs :: M) S) := by
  intro d ty pos af g a w K hs hr hk
  subst hz
  have h := hk w.heap.size (w.alloc (.cells z.cells t)) (by simpa using hr.alloc t z.cells.toList)
  have hrun : (execOp a.eval ⟨d, .alloc t, ty, pos, af, g⟩).run P w = .ok (.value (.pointer (some ⟨w.heap.size, 0, none⟩))) (w.alloc (.cells z.cells t)) := by
    simp only [execOp]
    simp [Instr.alloc, run_zero ht, newVar, newRow]
  unfold Oper.wp
  rw [hrun]
  exact h
theorem t_box {t : TypeId} {x : Operand} {v : Value} (hx : ev L x = some v) (cs : List Value) (hz : v.cells.toList = cs) :
    TOp P Q n (Mem w0 Ln M S) L (.box t x) Nat (fun b => .pointer (some ⟨b, 0, none⟩)) (fun b => Mem w0 Ln (.blk b t cs :: M) S) := by
  intro d ty pos af g a w K hs hr hk
  subst hz
  have h := hk w.heap.size (w.alloc (.cells v.cells t)) (by simpa using hr.alloc t v.cells.toList)
  have hrun : (execOp a.eval ⟨d, .box t x, ty, pos, af, g⟩).run P w = .ok (.value (.pointer (some ⟨w.heap.size, 0, none⟩))) (w.alloc (.cells v.cells t)) := by
    simp only [execOp, hs.eval hx]
    simp [Instr.box, newVar, newRow]
  unfold Oper.wp
  rw [hrun]
  exact h
theorem setRow_frame (w : World) (b : Nat) (cs : Array Value) : (w.setRow b cs).os = w.os ∧ (w.setRow b cs).tape = w.tape ∧ (w.setRow b cs).output = w.output ∧ (w.setRow b cs).heap.size = w.heap.size :=
  ⟨rfl, rfl, rfl, by simp [World.setRow]⟩
theorem Mem.setBlk {w : World} {M' : List Ent} {b : Nat} {t : TypeId} {cs cs' : List Value} (h : Mem w0 Ln M S w) (hr : Repl M (.blk b t cs) (.blk b t cs') M') : Mem w0 Ln M' S (w.setRow b cs'.toArray) := by
  have hb : w.heap[b]? = some (.cells cs.toArray t (0, 0)) := h.own _ hr.mem
  obtain ⟨h1, h2, h3, h4⟩ := setRow_frame w b cs'.toArray
  refine h.turn hr h1 h2 h3 zz12 (fun k _ hne => setRow_other w b k _ (fun e => hne (by simp [Ent.num, e]))) ?_ ?_
  · exact setRow_heap w b _ _ t _ hb
  · intro k hk; exact .inl hk
theorem t_store {t : TypeId} {x y : Operand} {b off : Nat} {tb : TypeId} {cs cs' : List Value} {M' : List Ent} {v : Value} {vs : List Value} {z : Value} {sz by_ : Nat} (ht : TyI P t z sz by_)
    (hx : ev L x = some (.pointer (some ⟨b, off, none⟩))) (hy : ev L y = some v) (hv : v.cells.toList = vs) (hl : vs.length = sz) (h1 : ∀ u ∈ vs, u.oneCell' = true) (hin : off + vs.length ≤ cs.length)
    (hcs : cs.take off ++ vs ++ cs.drop (off + vs.length) = cs') (hr : Repl M (.blk b tb cs) (.blk b tb cs') M') :
    TOp P Q n (Mem w0 Ln M S) L (.store t x y) Unit (fun _ => undef) (fun _ => Mem w0 Ln M' S) := by
  intro d ty pos af g a w K hs hm hk
  subst hcs
  subst hv
  have hb : w.heap[b]? = some (.cells cs.toArray tb (0, 0)) := hm.own _ hr.mem
  have hst := run_storeCells_at (P := P) b off tb v.cells.toList 0 cs.toArray w hb (by simpa using hin) h1
  simp only [Nat.add_zero] at hst
  have hrun : (execOp a.eval ⟨d, .store t x y, ty, pos, af, g⟩).run P w = .ok .skip (w.setRow b (cs.take off ++ v.cells.toList ++ cs.drop (off + v.cells.toList.length)).toArray) := by
    simp only [execOp, hs.eval hx, hs.eval hy]
    have hl' : v.cells.size = sz := by simpa using hl
    simp only [Instr.storeAt, Instr.sureAddr, storeVar]
    simp [run_sz ht, hl', hst]
  unfold Oper.wp
  rw [hrun]
  exact hk () _ (hm.setBlk hr)
def evs (L : Slots) : List Operand → Option (List Value)
  | [] => some []
  | x :: r => match ev L x, evs L r with
    | some v, some vs => some (v :: vs)
    | _, _ => none
theorem evs_eval {a : Act} (hs : Sl n a L) : ∀ {xs : List Operand} {vs : List Value}, evs L xs = some vs → xs.map a.eval = vs
  | [], vs, h => by simp [evs] at h; subst h; rfl
  | x :: r, vs, h => by
    simp only [evs] at h
    split at h
    · rename_i v us hv hus
      cases h
      simp [hs.eval hv, evs_eval hs hus]
    · cases h
def HasBody (P : Program) (f : FuncId) : Prop := ∃ fn, P.funcs[f]? = some fn ∧ (fn.name == "runtime.NumGoroutine") = false ∧ fn.body.isNone = false
theorem run_callFunc {f : FuncId} (h : HasBody P f) (args : Array Value) (w : World) : (callFunc f args).run P w = .ok (.enter f args) w := by
  obtain ⟨fn, hf, hn, hb⟩ := h
  have hn' : ¬ fn.name = "runtime.NumGoroutine" := by simpa using hn
  have hb' : ¬ fn.body = none := fun e => by rw [e] at hb; simp at hb
  simp [callFunc, hf, hn', hb']
def Gives {ι : Type} (w : World) (V : ι → Value) (N : ι → List Ent) (T : ι → List Fact) (e : Ending) (w' : World) : Prop :=
  ∃ x, e = .returned (V x) ∧ Below w.heap.size w w' ∧ New w.heap.size (N x) (T x) w'
theorem t_callG {f : Operand} {k : FuncId} {args : Array Operand} {at_ : Array TypeId} {cap : Array Value} {vs : List Value} {ι : Type} {V : ι → Value} {R' : ι → World → Prop}
    (hf : ev L f = some (.func (.func k) #[] cap)) (hb : HasBody P k) (hv : evs L args.toList = some vs)
    (hc : ∀ w, R w → Calls P k (vs.toArray ++ cap) w fun e w' => ∃ x, e = .returned (V x) ∧ R' x w') :
    TOp P Q n R L (.call { callee := .value f, args := args, argTypes := at_ }) ι V R' := by
  intro d ty pos af g a w K hs hm hk
  have hargs : args.map a.eval = vs.toArray := by
    have e : (args.map a.eval).toList = vs := by rw [Array.toList_map]; exact evs_eval hs hv
    rw [← e]
  have hrun : (execOp a.eval ⟨d, .call { callee := .value f, args := args, argTypes := at_ }, ty, pos, af, g⟩).run P w = .ok (.enter k (vs.toArray ++ cap)) w := by
    simp only [execOp, resolve, hs.eval hf, hargs]
    simp [Deferred.ofValue, invoke, run_callFunc hb]
  unfold Oper.wp
  rw [hrun]
  refine (hc w hm).mono ?_
  rintro e w' ⟨x, rfl, h⟩
  exact hk x w' h
theorem t_call {k : FuncId} {args : Array Operand} {at_ : Array TypeId} {vs : List Value} {ι : Type} {V : ι → Value} {N : ι → List Ent} {T : ι → List Fact}
    (hb : HasBody P k) (hv : evs L args.toList = some vs) (hc : ∀ w, Mem w0 Ln M S w → Calls P k vs.toArray w (Gives w V N T)) :
    TOp P Q n (Mem w0 Ln M S) L (.call { callee := .value (.func k), args := args, argTypes := at_ }) ι V (fun x => Mem w0 Ln (N x ++ M) (T x ++ S)) :=
  t_callG (cap := #[]) rfl hb hv fun w hm => by
    simp only [Array.append_empty]
    refine (hc w hm).mono ?_
    rintro e w' ⟨x, rfl, hbel, hnew⟩
    exact ⟨x, rfl, hm.call hbel hnew⟩
def Pur (w : World) (v : Value) (e : Ending) (w' : World) : Prop := e = .returned v ∧ Below w.heap.size w w'
theorem new_nil (B : Nat) (w : World) : New B [] [] w := ⟨fun _ h => (by cases h), fun _ h => (by cases h), .nil, fun _ h => (by cases h)⟩
theorem t_pur {k : FuncId} {args : Array Operand} {at_ : Array TypeId} {vs : List Value} {v : Value}
    (hb : HasBody P k) (hv : evs L args.toList = some vs) (hc : ∀ w, Mem w0 Ln M S w → Calls P k vs.toArray w (Pur w v)) :
    TOp P Q n (Mem w0 Ln M S) L (.call { callee := .value (.func k), args := args, argTypes := at_ }) Unit (fun _ => v) (fun _ => Mem w0 Ln M S) := by
  refine t_call (N := fun _ => []) (T := fun _ => []) hb hv fun w hm => (hc w hm).mono ?_
  rintro e w' ⟨rfl, hbel⟩
  exact ⟨(), rfl, hbel, new_nil _ _⟩
theorem t_storeW {t : TypeId} {x y : Operand} {b : Nat} {tb : TypeId} {cs vs : List Value} {M' : List Ent} {v : Value} {z : Value} {sz by_ : Nat} (ht : TyI P t z sz by_)
    (hx : ev L x = some (.pointer (some ⟨b, 0, none⟩))) (hy : ev L y = some v) (hv : v.cells.toList = vs) (hr : Repl M (.blk b tb cs) (.blk b tb vs) M') (hl : vs.length = sz) (h1 : ∀ u ∈ vs, u.oneCell' = true) (hin : cs.length = sz) :
    TOp P Q n (Mem w0 Ln M S) L (.store t x y) Unit (fun _ => undef) (fun _ => Mem w0 Ln M' S) :=
  t_store ht hx hy hv hl h1 zz12 (by rw [List.drop_of_length_le zz12]; simp) hr
theorem t_store1 {t : TypeId} {x y : Operand} {b off : Nat} {tb : TypeId} {cs cs' : List Value} {M' : List Ent} {v : Value} {z : Value} {by_ : Nat} (ht : TyI P t z 1 by_)
    (hx : ev L x = some (.pointer (some ⟨b, off, none⟩))) (hy : ev L y = some v) (hr : Repl M (.blk b tb cs) (.blk b tb cs') M') (h1 : v.oneCell' = true) (hin : off < cs.length)
    (hcs : cs.set off v = cs') :
    TOp P Q n (Mem w0 Ln M S) L (.store t x y) Unit (fun _ => undef) (fun _ => Mem w0 Ln M' S) := by
  have hv : v.cells.toList = [v] := by cases v <;> first | rfl | simp [Value.oneCell'] at h1
  refine t_store ht hx hy hv rfl (by simpa using h1) zz50 ?_ hr
  rw [← hcs, List.set_eq_take_append_cons_drop, if_pos hin]
  simp
theorem t_storeA {t : TypeId} {x y : Operand} {b : Nat} {tb : TypeId} {cs vs : List Value} {M' : List Ent} {z : Value} {sz by_ : Nat} (ht : TyI P t z sz by_)
    (hx : ev L x = some (.pointer (some ⟨b, 0, none⟩))) (hy : ev L y = some (.agg vs.toArray)) (hr : Repl M (.blk b tb cs) (.blk b tb vs) M') (hl : vs.length = sz) (h1 : ∀ u ∈ vs, u.oneCell' = true) (hin : cs.length = sz) :
    TOp P Q n (Mem w0 Ln M S) L (.store t x y) Unit (fun _ => undef) (fun _ => Mem w0 Ln M' S) := t_storeW ht hx hy rfl hr hl h1 hin
theorem t_storeP {t : TypeId} {x y : Operand} {b off : Nat} {tb : TypeId} {cs cs' vs : List Value} {M' : List Ent} {z : Value} {sz by_ : Nat} (ht : TyI P t z sz by_)
    (hx : ev L x = some (.pointer (some ⟨b, off, none⟩))) (hy : ev L y = some (.agg vs.toArray)) (hr : Repl M (.blk b tb cs) (.blk b tb cs') M') (hl : vs.length = sz) (h1 : ∀ u ∈ vs, u.oneCell' = true) (hin : off + vs.length ≤ cs.length)
    (hcs : cs.take off ++ vs ++ cs.drop (off + vs.length) = cs') :
    TOp P Q n (Mem w0 Ln M S) L (.store t x y) Unit (fun _ => undef) (fun _ => Mem w0 Ln M' S) := t_store ht hx hy rfl hl h1 hin hcs hr
def Mid (n : Cx) {ι : Type} (L' : ι → Slots) (R' : ι → World → Prop) (a : Act) (w : World) : Prop := ∃ x, Sl n a (L' x) ∧ R' x w
theorem wpc_cut {x y : Code} (ι : Type) (L' : ι → Slots) (R' : ι → World → Prop) (h1 : WPC P (Exit.then (Mid n L' R') Q) n R L x) (h2 : ∀ i, WPC P Q n (R' i) (L' i) y) : WPC P Q n R L (.seq x y) :=
  fun a w hs hr => wp_seq (Code.wp_mono (fun e a w hq => by
    cases e <;> first | exact hq | (obtain ⟨i, h3, h4⟩ := hq; exact h2 i a w h3 h4)) (h1 a w hs hr))
theorem ex_mid {ι : Type} {L' : ι → Slots} {R' : ι → World → Prop} (i : ι) (hl : subs L (L' i)) (hr : ∀ w, R w → R' i w) : EX (Exit.then (Mid n L' R') Q) .normal n R L :=
  fun _ w hs h => ⟨i, hs.weaken (subs_get hl), hr w h⟩
def RVal (P : Program) (R : World → Prop) (L : Slots) : ResultVar → Value → Prop
  | .tmp t, v => get L t = some v
  | .cell c ty, v => ∃ ad, get L c = some (.pointer (some ad)) ∧ ∀ w, R w → (loadVar ty ad).run P w = .ok v w
theorem rv_tmp {t : Tmp} {v : Value} (h : get L t = some v) : RVal P R L (.tmp t) v := h
theorem rv_agg {c : Tmp} {t : TypeId} {ad : Addr} {cs : List Value} {d : TypeDesc} {z : Value} {sz by_ : Nat} (hu : P.underlying t = some d) (hd : isAggD d = true) (ht : TyI P t z sz by_)
    (hx : get L c = some (.pointer (some ad))) (hc : ∀ w, R w → ∀ j v, cs[j]? = some v → w.cell? (ad.add j) = some v) (hl : cs.length = sz) : RVal P R L (.cell c t) (.agg cs.toArray) := by
  subst hl
  exact ⟨ad, hx, fun w hw => by
    have := run_loadCells_list (P := P) w ad cs (hc w hw)
    simp [loadVar, run_agg hu, hd, run_sz ht, this]⟩
theorem rv_one {c : Tmp} {t : TypeId} {ad : Addr} {v : Value} {d : TypeDesc} (hu : P.underlying t = some d) (hd : isAggD d = false)
    (hx : get L c = some (.pointer (some ad))) (hc : ∀ w, R w → w.cell? ad = some v) : RVal P R L (.cell c t) v :=
  ⟨ad, hx, fun w hw => by simp [loadVar, run_agg hu, hd, load, Sem.run, hc w hw]⟩
theorem retv1 {m : Nat} {fn : Func} {post : Ending → World → Prop} {r : ResultVar} {v : Value} {e : Exit} (he : e = .ret ∨ e = .normal) (hr : fn.results = #[r]) (h1 : RVal P R L r v) (h : ∀ w, R w → post (.returned v) w) :
    EX (bodyPost P fn post) e ⟨m, []⟩ R L := by
  intro a w hs hw
  have hx : (results fn a.tmps).run P w = .ok v w := by
    simp only [results, hr]
    cases r
    · simp only [RVal] at h1; simp [hs.tmp _ _ h1, asAddr]
    · simp only [RVal] at h1; obtain ⟨ad0, hx0, hl0⟩ := h1; simp [hs.tmp _ _ hx0, hl0 w hw, asAddr]
  rcases he with rfl | rfl <;> exact ⟨hs.defers, v, hx, h w hw⟩
theorem retv2 {m : Nat} {fn : Func} {post : Ending → World → Prop} {r s : ResultVar} {v u : Value} {e : Exit} (he : e = .ret ∨ e = .normal) (hr : fn.results = #[r, s]) (h1 : RVal P R L r v) (h2 : RVal P R L s u)
    (h : ∀ w, R w → post (.returned (.tuple #[v, u])) w) : EX (bodyPost P fn post) e ⟨m, []⟩ R L := by
  intro a w hs hw
  have hx : (results fn a.tmps).run P w = .ok (.tuple #[v, u]) w := by
    simp only [results, hr]
    cases r <;> cases s
    · simp only [RVal] at h1; simp only [RVal] at h2; simp [hs.tmp _ _ h1, hs.tmp _ _ h2, asAddr]
    · simp only [RVal] at h1; simp only [RVal] at h2; obtain ⟨ad1, hx1, hl1⟩ := h2; simp [hs.tmp _ _ h1, hs.tmp _ _ hx1, hl1 w hw, asAddr]
    · simp only [RVal] at h1; simp only [RVal] at h2; obtain ⟨ad0, hx0, hl0⟩ := h1; simp [hs.tmp _ _ hx0, hl0 w hw, hs.tmp _ _ h2, asAddr]
    · simp only [RVal] at h1; simp only [RVal] at h2; obtain ⟨ad0, hx0, hl0⟩ := h1; obtain ⟨ad1, hx1, hl1⟩ := h2; simp [hs.tmp _ _ hx0, hl0 w hw, hs.tmp _ _ hx1, hl1 w hw, asAddr]
  rcases he with rfl | rfl <;> exact ⟨hs.defers, _, hx, h w hw⟩
theorem retv3 {m : Nat} {fn : Func} {post : Ending → World → Prop} {r s t : ResultVar} {v u x : Value} {e : Exit} (he : e = .ret ∨ e = .normal) (hr : fn.results = #[r, s, t]) (h1 : RVal P R L r v) (h2 : RVal P R L s u) (h3 : RVal P R L t x)
    (h : ∀ w, R w → post (.returned (.tuple #[v, u, x])) w) : EX (bodyPost P fn post) e ⟨m, []⟩ R L := by
  intro a w hs hw
  have hx : (results fn a.tmps).run P w = .ok (.tuple #[v, u, x]) w := by
    simp only [results, hr]
    cases r <;> cases s <;> cases t
    · simp only [RVal] at h1; simp only [RVal] at h2; simp only [RVal] at h3; simp [hs.tmp _ _ h1, hs.tmp _ _ h2, hs.tmp _ _ h3, asAddr]
    · simp only [RVal] at h1; simp only [RVal] at h2; simp only [RVal] at h3; obtain ⟨ad2, hx2, hl2⟩ := h3; simp [hs.tmp _ _ h1, hs.tmp _ _ h2, hs.tmp _ _ hx2, hl2 w hw, asAddr]
    · simp only [RVal] at h1; simp only [RVal] at h2; simp only [RVal] at h3; obtain ⟨ad1, hx1, hl1⟩ := h2; simp [hs.tmp _ _ h1, hs.tmp _ _ hx1, hl1 w hw, hs.tmp _ _ h3, asAddr]
    · simp only [RVal] at h1; simp only [RVal] at h2; simp only [RVal] at h3; obtain ⟨ad1, hx1, hl1⟩ := h2; obtain ⟨ad2, hx2, hl2⟩ := h3; simp [hs.tmp _ _ h1, hs.tmp _ _ hx1, hl1 w hw, hs.tmp _ _ hx2, hl2 w hw, asAddr]
    · simp only [RVal] at h1; simp only [RVal] at h2; simp only [RVal] at h3; obtain ⟨ad0, hx0, hl0⟩ := h1; simp [hs.tmp _ _ hx0, hl0 w hw, hs.tmp _ _ h2, hs.tmp _ _ h3, asAddr]
    · simp only [RVal] at h1; simp only [RVal] at h2; simp only [RVal] at h3; obtain ⟨ad0, hx0, hl0⟩ := h1; obtain ⟨ad2, hx2, hl2⟩ := h3; simp [hs.tmp _ _ hx0, hl0 w hw, hs.tmp _ _ h2, hs.tmp _ _ hx2, hl2 w hw, asAddr]
    · simp only [RVal] at h1; simp only [RVal] at h2; simp only [RVal] at h3; obtain ⟨ad0, hx0, hl0⟩ := h1; obtain ⟨ad1, hx1, hl1⟩ := h2; simp [hs.tmp _ _ hx0, hl0 w hw, hs.tmp _ _ hx1, hl1 w hw, hs.tmp _ _ h3, asAddr]
    · simp only [RVal] at h1; simp only [RVal] at h2; simp only [RVal] at h3; obtain ⟨ad0, hx0, hl0⟩ := h1; obtain ⟨ad1, hx1, hl1⟩ := h2; obtain ⟨ad2, hx2, hl2⟩ := h3; simp [hs.tmp _ _ hx0, hl0 w hw, hs.tmp _ _ hx1, hl1 w hw, hs.tmp _ _ hx2, hl2 w hw, asAddr]
  rcases he with rfl | rfl <;> exact ⟨hs.defers, _, hx, h w hw⟩
instance nop_pur {fn : Func} {w : World} {v : Value} : NoP (bodyPost P fn (Pur w v)) := nop_post fun c w' h => by cases h.1
instance nop_gives {fn : Func} {w : World} {ι : Type} {V : ι → Value} {N : ι → List Ent} {T : ι → List Fact} : NoP (bodyPost P fn (Gives w V N T)) := nop_post fun c w' ⟨x, h, _⟩ => by cases h
theorem Mem.cells_blk {w : World} {b : Nat} {t : TypeId} {cs : List Value} (h : Mem w0 Ln M S w) (hm : Ent.blk b t cs ∈ M) : ∀ j v, cs[j]? = some v → w.cell? ((⟨b, 0, none⟩ : Addr).add j) = some v := fun j v hv => by
  rw [add_lit, Nat.zero_add]; exact h.cell_blk hm hv
class HasB (M : List Ent) (b : Nat) (t : outParam TypeId) (cs : outParam (List Value)) : Prop where
  out : Ent.blk b t cs ∈ M
instance (priority := high) hasB_here {M : List Ent} {b : Nat} {t : TypeId} {cs : List Value} : HasB (.blk b t cs :: M) b t cs := ⟨List.mem_cons_self ..⟩
instance hasB_there {M : List Ent} {x : Ent} {b : Nat} {t : TypeId} {cs : List Value} [h : HasB M b t cs] : HasB (x :: M) b t cs := ⟨List.mem_cons_of_mem _ h.out⟩
class HasR (M : List Ent) (g : Nat) (m cap : outParam Nat) (e : outParam TypeId) (sz : outParam Nat) (xs : outParam (List Value)) : Prop where
  out : Ent.row (.slice (some ⟨g, 0, none⟩) m cap) m e sz xs ∈ M
instance (priority := high) hasR_here {M : List Ent} {g m cap : Nat} {e : TypeId} {sz : Nat} {xs : List Value} : HasR (.row (.slice (some ⟨g, 0, none⟩) m cap) m e sz xs :: M) g m cap e sz xs := ⟨List.mem_cons_self ..⟩
instance hasR_there {M : List Ent} {x : Ent} {g m cap : Nat} {e : TypeId} {sz : Nat} {xs : List Value} [h : HasR M g m cap e sz xs] : HasR (x :: M) g m cap e sz xs := ⟨List.mem_cons_of_mem _ h.out⟩
class HasV (M : List Ent) (v : Value) (m : outParam Nat) (e : outParam TypeId) (sz : outParam Nat) (xs : outParam (List Value)) : Prop where
  out : Ent.row v m e sz xs ∈ M
instance (priority := high) hasV_here {M : List Ent} {v : Value} {m : Nat} {e : TypeId} {sz : Nat} {xs : List Value} : HasV (.row v m e sz xs :: M) v m e sz xs := ⟨List.mem_cons_self ..⟩
instance hasV_there {M : List Ent} {x : Ent} {v : Value} {m : Nat} {e : TypeId} {sz : Nat} {xs : List Value} [h : HasV M v m e sz xs] : HasV (x :: M) v m e sz xs := ⟨List.mem_cons_of_mem _ h.out⟩
class ReplB (M : List Ent) (b : Nat) (t : outParam TypeId) (cs : outParam (List Value)) (f : outParam (List Value → List Ent)) : Prop where
  out : ∀ cs', Repl M (.blk b t cs) (.blk b t cs') (f cs')
instance (priority := high) replB_here {M : List Ent} {b : Nat} {t : TypeId} {cs : List Value} : ReplB (.blk b t cs :: M) b t cs (fun cs' => .blk b t cs' :: M) := ⟨fun _ => .here⟩
instance replB_there {M : List Ent} {x : Ent} {b : Nat} {t : TypeId} {cs : List Value} {f : List Value → List Ent} [h : ReplB M b t cs f] : ReplB (x :: M) b t cs (fun cs' => x :: f cs') := ⟨fun cs' => .there (h.out cs')⟩
class ReplV (M : List Ent) (v : Value) (m : outParam Nat) (e : outParam TypeId) (sz : outParam Nat) (xs : outParam (List Value)) (f : outParam (Ent → List Ent)) : Prop where
  out : ∀ y, Repl M (.row v m e sz xs) y (f y)
instance (priority := high) replV_here {M : List Ent} {v : Value} {m : Nat} {e : TypeId} {sz : Nat} {xs : List Value} : ReplV (.row v m e sz xs :: M) v m e sz xs (fun y => y :: M) := ⟨fun _ => .here⟩
instance replV_there {M : List Ent} {x : Ent} {v : Value} {m : Nat} {e : TypeId} {sz : Nat} {xs : List Value} {f : Ent → List Ent} [h : ReplV M v m e sz xs f] : ReplV (x :: M) v m e sz xs (fun y => x :: f y) := ⟨fun y => .there (h.out y)⟩
theorem q_ld {t tb : TypeId} {x : Operand} {b off : Nat} {v : Value} {cs : List Value} {d : TypeDesc} (hu : P.underlying t = some d) (hd : isAggD d = false) (hx : ev L x = some (.pointer (some ⟨b, off, none⟩))) [h : HasB M b tb cs]
    (hv : cs[off]? = some v) : QOp P n (Mem w0 Ln M S) L (.load t x) v := q_load1 hu hd hx fun w hm => hm.cell_blk h.out hv
theorem q_ldN {t tb : TypeId} {x : Operand} {b : Nat} {cs : List Value} {d : TypeDesc} {z : Value} {sz by_ : Nat} (hu : P.underlying t = some d) (hd : isAggD d = true) (ht : TyI P t z sz by_)
    (hx : ev L x = some (.pointer (some ⟨b, 0, none⟩))) [h : HasB M b tb cs] (hl : cs.length = sz) : QOp P n (Mem w0 Ln M S) L (.load t x) (.agg cs.toArray) := q_loadN hu hd ht hx (fun w hm => hm.cells_blk h.out) hl
theorem q_ldP {t tb : TypeId} {x : Operand} {b off : Nat} {cs : List Value} {d : TypeDesc} {z : Value} {sz by_ : Nat} (hu : P.underlying t = some d) (hd : isAggD d = true) (ht : TyI P t z sz by_)
    (hx : ev L x = some (.pointer (some ⟨b, off, none⟩))) [h : HasB M b tb cs] (cs' : List Value) (hc : (cs.drop off).take sz = cs') (hl : cs'.length = sz) : QOp P n (Mem w0 Ln M S) L (.load t x) (.agg cs'.toArray) :=
  q_loadN hu hd ht hx (fun w hm j v hj => by
    rw [add_lit]
    refine hm.cell_blk h.out ?_
    rw [← hc, List.getElem?_take] at hj
    split at hj
    · rwa [List.getElem?_drop] at hj
    · cases hj) hl
theorem q_ldR {t e : TypeId} {x : Operand} {g m cap sz j : Nat} {v : Value} {xs : List Value} {d : TypeDesc} (hu : P.underlying t = some d) (hd : isAggD d = false) (hx : ev L x = some (.pointer (some ((⟨g, 0, none⟩ : Addr).add j)))) [h : HasR M g m cap e sz xs]
    (hv : xs[j]? = some v) : QOp P n (Mem w0 Ln M S) L (.load t x) v := q_load1 hu hd hx fun w hm => hm.cell_row h.out hv
theorem t_st1 {t : TypeId} {x y : Operand} {b off : Nat} {tb : TypeId} {cs : List Value} {f : List Value → List Ent} {v : Value} {z : Value} {by_ : Nat} (ht : TyI P t z 1 by_)
    (hx : ev L x = some (.pointer (some ⟨b, off, none⟩))) (hy : ev L y = some v) [hr : ReplB M b tb cs f] (h1 : v.oneCell' = true) (hin : off < cs.length) (cs' : List Value)
    (hcs : cs.set off v = cs') :
    TOp P Q n (Mem w0 Ln M S) L (.store t x y) Unit (fun _ => undef) (fun _ => Mem w0 Ln (f cs') S) := t_store1 ht hx hy (hr.out cs') h1 hin hcs
theorem t_stA {t : TypeId} {x y : Operand} {b : Nat} {tb : TypeId} {cs vs : List Value} {f : List Value → List Ent} {z : Value} {sz by_ : Nat} (ht : TyI P t z sz by_)
    (hx : ev L x = some (.pointer (some ⟨b, 0, none⟩))) (hy : ev L y = some (.agg vs.toArray)) [hr : ReplB M b tb cs f] (hl : vs.length = sz) (h1 : ∀ u ∈ vs, u.oneCell' = true) (hin : cs.length = sz) :
    TOp P Q n (Mem w0 Ln M S) L (.store t x y) Unit (fun _ => undef) (fun _ => Mem w0 Ln (f vs) S) := t_storeA ht hx hy (hr.out vs) hl h1 hin
theorem t_stP {t : TypeId} {x y : Operand} {b off : Nat} {tb : TypeId} {cs vs : List Value} {f : List Value → List Ent} {z : Value} {sz by_ : Nat} (ht : TyI P t z sz by_)
    (hx : ev L x = some (.pointer (some ⟨b, off, none⟩))) (hy : ev L y = some (.agg vs.toArray)) [hr : ReplB M b tb cs f] (hl : vs.length = sz) (h1 : ∀ u ∈ vs, u.oneCell' = true) (hin : off + vs.length ≤ cs.length) (cs' : List Value)
    (hcs : cs.take off ++ vs ++ cs.drop (off + vs.length) = cs') :
    TOp P Q n (Mem w0 Ln M S) L (.store t x y) Unit (fun _ => undef) (fun _ => Mem w0 Ln (f cs') S) := t_storeP ht hx hy (hr.out cs') hl h1 hin hcs
end
end Go.PL
