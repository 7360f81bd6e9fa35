/- Values as trees: their handles, what is read, what is owned. -/
import Derived.Test.YtommkigkkeailaaPLL
import Derived.Test.YtommkigkkeailaaTI
namespace Go.Proofs.Ytommkigkkeailaa
set_option linter.unusedSimpArgs false
set_option linter.unusedVariables false
open Go Go.PL Go.RowKit

/-- A value, as data. -/
inductive Tr where
  | nd (t : UInt8) (bs : List UInt8) (l : List Tr)
/-- A value with its handles. -/
inductive HT where
  | nd (t : UInt8) (bv : Value) (bs : List UInt8) (lv : Value) (l : List HT)
mutual
def HT.tr : HT → Tr
  | .nd t _ bs _ l => .nd t bs (trs l)
def trs : List HT → List Tr
  | [] => []
  | x :: l => x.tr :: trs l
end
theorem HT.ind {P : HT → Prop} (h : ∀ t bv bs lv l, (∀ x ∈ l, P x) → P (.nd t bv bs lv l)) : ∀ t, P t
  | .nd t bv bs lv l => h t bv bs lv l (fun x _ => HT.ind h x)
termination_by t => SizeOf.sizeOf t
decreasing_by
  have := List.sizeOf_lt_of_mem ‹x ∈ l›
  simp only [HT.nd.sizeOf_spec]; omega
theorem Tr.ind {P : Tr → Prop} (h : ∀ t bs l, (∀ x ∈ l, P x) → P (.nd t bs l)) : ∀ t, P t
  | .nd t bs l => h t bs l (fun x _ => Tr.ind h x)
termination_by t => SizeOf.sizeOf t
decreasing_by
  have := List.sizeOf_lt_of_mem ‹x ∈ l›
  simp only [Tr.nd.sizeOf_spec]; omega
theorem trs_map : ∀ l : List HT, trs l = l.map HT.tr
  | [] => rfl
  | x :: l => by rw [trs, trs_map l]; rfl
theorem trs_length (l : List HT) : (trs l).length = l.length := by rw [trs_map, List.length_map]
theorem trs_append (a b : List HT) : trs (a ++ b) = trs a ++ trs b := by simp [trs_map]
abbrev nl : Value := .slice none 0 0
def HT.z : HT := .nd 0 nl [] nl []
def Tr.z : Tr := .nd 0 [] []
def HT.tg : HT → UInt8 | .nd t _ _ _ _ => t
def HT.bv : HT → Value | .nd _ v _ _ _ => v
def HT.bs : HT → List UInt8 | .nd _ _ bs _ _ => bs
def HT.lv : HT → Value | .nd _ _ _ v _ => v
def HT.kids : HT → List HT | .nd _ _ _ _ l => l
def HT.c : HT → List Value | .nd t bv _ lv _ => [.int .u8 (t.toNat : Int), bv, lv]
theorem HT.c_length (t : HT) : t.c.length = 3 := by cases t; rfl
instance lenC_ht {t : HT} : LenC t.c 3 := ⟨t.c_length⟩
abbrev hcs (l : List HT) : List Value := (l.map HT.c).flatten
theorem getD_memH {l : List HT} {i : Nat} (h : i < l.length) : l.getD i HT.z ∈ l := by
  rw [List.getD_eq_getElem?_getD, List.getElem?_eq_getElem h]; exact List.getElem_mem h
theorem trs_get {l : List HT} {i : Nat} (h : i < l.length) : (trs l).getD i Tr.z = (l.getD i HT.z).tr := by
  rw [trs_map, List.getD_eq_getElem?_getD, List.getElem?_map, List.getD_eq_getElem?_getD, List.getElem?_eq_getElem h]; rfl
theorem take_succD {α : Type} (z : α) {l : List α} {i : Nat} (h : i < l.length) : l.take (i + 1) = l.take i ++ [l.getD i z] := by
  rw [List.take_add_one, List.getD_eq_getElem?_getD, List.getElem?_eq_getElem h]; rfl
theorem drop_consD {α : Type} (z : α) {l : List α} {i : Nat} (h : i < l.length) : l.drop i = l.getD i z :: l.drop (i + 1) := by
  rw [List.drop_eq_getElem_cons h, List.getD_eq_getElem?_getD, List.getElem?_eq_getElem h]; rfl
/-- The handles can be read. -/
def HT.sv : HT → Prop | .nd _ bv bs lv l => SV bv bs.length ∧ SV lv l.length
theorem HT.sv.one {t : HT} (h : t.sv) : OneC t.c := by
  obtain ⟨tg, bv, bs, lv, l⟩ := t
  exact OneC.cons rfl (OneC.cons h.1.one (OneC.cons h.2.one oneC_nil))
instance oneC_hz : OneC HT.z.c := ⟨by intro u hu; simp only [HT.z, HT.c, List.mem_cons, List.not_mem_nil, or_false] at hu; rcases hu with rfl | rfl | rfl <;> rfl⟩
mutual
def HSeen (r : Rd) : HT → Prop
  | .nd _ bv bs lv l => Seen r bv bs.length 1 (v8s bs) ∧ Seen r lv l.length 3 (hcs l) ∧ HSeenL r l
def HSeenL (r : Rd) : List HT → Prop
  | [] => True
  | x :: l => HSeen r x ∧ HSeenL r l
end
theorem HSeenL_iff {r : Rd} : ∀ {l : List HT}, HSeenL r l ↔ ∀ x ∈ l, HSeen r x
  | [] => by simp [HSeenL]
  | x :: l => by simp [HSeenL, HSeenL_iff (l := l)]
theorem HSeen.mono {r r' : Rd} (hr : ∀ a v, r a = some v → r' a = some v) : ∀ {t : HT}, HSeen r t → HSeen r' t := by
  intro t
  induction t using HT.ind with
  | _ t bv bs lv l ih =>
    rintro ⟨h1, h2, h3⟩
    exact ⟨h1.mono hr, h2.mono hr, HSeenL_iff.2 fun x hx => ih x hx (HSeenL_iff.1 h3 x hx)⟩
theorem HSeen.sv {r : Rd} {t : HT} (h : HSeen r t) : t.sv := by
  obtain ⟨tg, bv, bs, lv, l⟩ := t
  exact ⟨h.1.sv, h.2.1.sv⟩
theorem HSeen.kid {r : Rd} {tg : UInt8} {bv lv : Value} {bs : List UInt8} {l : List HT} (h : HSeen r (.nd tg bv bs lv l)) {i : Nat} (hi : i < l.length) : HSeen r (l.getD i HT.z) := HSeenL_iff.1 h.2.2 _ (getD_memH hi)
def hseen (t : HT) : Fact := ⟨fun r => HSeen r t, fun _ _ hr h => h.mono hr⟩
theorem HSeen.old {w0 w : World} {M : List Ent} {S : List Fact} {t : HT} (hs : HSeen w0.cell? t) (h : Mem w0 [] M S w) : HSeen w.cell? t := hs.mono fun _ _ hc => h.cell_old hc
mutual
def HT.ents : HT → List Ent
  | .nd _ bv bs lv l => .row bv bs.length 5 1 (v8s bs) :: .row lv l.length 25 3 (hcs l) :: entsL l
def entsL : List HT → List Ent
  | [] => []
  | x :: l => x.ents ++ entsL l
end
theorem entsL_append (a b : List HT) : entsL (a ++ b) = entsL a ++ entsL b := by
  induction a with
  | nil => rfl
  | cons x a ih => simp [entsL, ih]
theorem mem_entsL {l : List HT} {x : HT} (hx : x ∈ l) {e : Ent} (he : e ∈ x.ents) : e ∈ entsL l := by
  induction l with
  | nil => cases hx
  | cons y l ih =>
    rw [entsL, List.mem_append]
    rcases List.mem_cons.1 hx with rfl | hx
    · exact .inl he
    · exact .inr (ih hx)
theorem Mem.hseenM {w0 w : World} {Ln : List Nat} {M : List Ent} {S : List Fact} (h : Mem w0 Ln M S w) : ∀ {t : HT}, (∀ e ∈ t.ents, e ∈ M) → HSeen w.cell? t := by
  intro t
  induction t using HT.ind with
  | _ t bv bs lv l ih =>
    intro hm
    refine ⟨h.seen_row (hm _ (List.mem_cons_self ..)), h.seen_row (hm _ (List.mem_cons_of_mem _ (List.mem_cons_self ..))), HSeenL_iff.2 fun x hx => ih x hx fun e he => hm _ ?_⟩
    exact List.mem_cons_of_mem _ (List.mem_cons_of_mem _ (mem_entsL hx he))
class HasT (M : List Ent) (t : HT) : Prop where
  h : ∀ e ∈ t.ents, e ∈ M
instance (priority := 1200) hasT_here {t : HT} {X : List Ent} : HasT (t.ents ++ X) t := ⟨fun e he => List.mem_append_left _ he⟩
instance (priority := 1100) hasT_all {t : HT} : HasT t.ents t := ⟨fun _ he => he⟩
instance (priority := 800) hasT_app {t : HT} {Y X : List Ent} [h : HasT X t] : HasT (Y ++ X) t := ⟨fun e he => List.mem_append_right _ (h.h e he)⟩
instance (priority := 700) hasT_left {t : HT} {Y X : List Ent} [h : HasT Y t] : HasT (Y ++ X) t := ⟨fun e he => List.mem_append_left _ (h.h e he)⟩
instance (priority := 900) hasT_cons {t : HT} {e : Ent} {X : List Ent} [h : HasT X t] : HasT (e :: X) t := ⟨fun _ hk => List.mem_cons_of_mem _ (h.h _ hk)⟩
theorem Mem.hseen {w0 w : World} {Ln : List Nat} {M : List Ent} {S : List Fact} (h : Mem w0 Ln M S w) {t : HT} [ht : HasT M t] : HSeen w.cell? t := Mem.hseenM h ht.h
theorem Mem.hseenF {w0 w : World} {Ln : List Nat} {M : List Ent} {S : List Fact} (h : Mem w0 Ln M S w) {t : HT} (ht : Go.Proofs.Ytommkigkkeailaa.hseen t ∈ S) : HSeen w.cell? t := h.fact ht
def rowFact : Ent → Fact
  | .row v m _ sz xs => Go.PL.seen v m sz xs
  | _ => ⟨fun _ => True, fun _ _ _ _ => trivial⟩
def isRow : Ent → Prop
  | .row _ _ _ _ _ => True
  | _ => False
theorem ents_rows : ∀ (t : HT), ∀ e ∈ t.ents, isRow e := by
  intro t
  induction t using HT.ind with
  | _ t bv bs lv l ih =>
    intro e he
    rcases List.mem_cons.1 he with rfl | he
    · trivial
    · rcases List.mem_cons.1 he with rfl | he
      · trivial
      · have : ∀ m : List HT, (∀ x ∈ m, x ∈ l) → e ∈ entsL m → isRow e := by
          intro m
          induction m with
          | nil => intro _ h; cases h
          | cons y m ih2 =>
            intro hm h
            rw [entsL, List.mem_append] at h
            rcases h with h | h
            · exact ih y (hm y (List.mem_cons_self ..)) e h
            · exact ih2 (fun x hx => hm x (List.mem_cons_of_mem _ hx)) h
        exact this l (fun _ hx => hx) he
theorem Mem.freezeRows {w0 w : World} : ∀ (X : List Ent) {M : List Ent} {S : List Fact}, (∀ e ∈ X, isRow e) → Mem w0 [] (X ++ M) S w → Mem w0 [] M (X.map rowFact ++ S) w
  | [], M, S, _, h => h
  | e :: X, M, S, hr, h => by
    cases e with
    | row v m e sz xs =>
      have h1 := h.freezeRow (M' := X ++ M) .here
      have h2 := Mem.freezeRows X (fun e he => hr e (List.mem_cons_of_mem _ he)) h1
      refine h2.imp fun r hs t ht => hs t ?_
      rw [List.map_cons, List.cons_append] at ht
      rcases List.mem_cons.1 ht with rfl | ht
      · exact List.mem_append_right _ (List.mem_cons_self ..)
      · rcases List.mem_append.1 ht with ht | ht
        · exact List.mem_append_left _ ht
        · exact List.mem_append_right _ (List.mem_cons_of_mem _ ht)
    | blk b t cs => exact (hr _ (List.mem_cons_self ..)).elim
    | obj b o => exact (hr _ (List.mem_cons_self ..)).elim
theorem hseen_rows {r : Rd} : ∀ (t : HT), (∀ e ∈ t.ents, (rowFact e).f r) → HSeen r t := by
  intro t
  induction t using HT.ind with
  | _ t bv bs lv l ih =>
    intro h
    refine ⟨h _ (List.mem_cons_self ..), h _ (List.mem_cons_of_mem _ (List.mem_cons_self ..)), HSeenL_iff.2 fun x hx => ih x hx fun e he => h _ ?_⟩
    exact List.mem_cons_of_mem _ (List.mem_cons_of_mem _ (mem_entsL hx he))
/-- A value that is owned is given away: it can only be read. -/
theorem Mem.freezeT {w0 w : World} {M : List Ent} {S : List Fact} {t : HT} (h : Mem w0 [] (t.ents ++ M) S w) : Mem w0 [] M (Go.Proofs.Ytommkigkkeailaa.hseen t :: S) w := by
  refine (Mem.freezeRows t.ents (ents_rows t) h).imp fun r hs f hf => ?_
  rcases List.mem_cons.1 hf with rfl | hf
  · exact hseen_rows t fun e he => hs _ (List.mem_append_left _ (List.mem_map_of_mem he))
  · exact hs _ (List.mem_append_right _ hf)
theorem new_freeze {B : World} {w : World} {t : HT} (h : Mem B [] t.ents [] w) : New B.heap.size [] [Go.Proofs.Ytommkigkkeailaa.hseen t] w := (Mem.freezeT (t := t) (M := []) (by rw [List.append_nil]; exact h)).made .nil (Sub.refl _)
/-! More ways to find parts of what is owned, where a tail is not a literal. -/
theorem Sub.appR {α : Type} {l M : List α} : ∀ (X : List α), Sub l M → Sub l (X ++ M)
  | [], h => h
  | _ :: X, h => .drop (Sub.appR X h)
theorem Sub.appB {α : Type} {l M : List α} : ∀ (X : List α), Sub l M → Sub (X ++ l) (X ++ M)
  | [], h => h
  | _ :: X, h => .keep (Sub.appB X h)
instance (priority := 1600) subC_refl {α : Type} {l : List α} : SubC l l := ⟨Sub.refl l⟩
instance (priority := 500) subC_appR {α : Type} {l M X : List α} [s : SubC l M] : SubC l (X ++ M) := ⟨Sub.appR X s.h⟩
instance (priority := 600) subC_appB {α : Type} {l M X : List α} [s : SubC l M] : SubC (X ++ l) (X ++ M) := ⟨Sub.appB X s.h⟩
section
variable {P : Program} {n : Cx} {L : Slots} {Q : Exit → Act → World → Prop} {w0 : World} {Ln : List Nat} {M : List Ent} {S : List Fact}
/-- A call that makes things, which come where they are wanted. -/
theorem t_callE {k : FuncId} {args : Array Operand} {at_ : Array TypeId} {vs : List Value} {ι : Type} {p : ι → Prop} {V : ι → Value} {N : ι → List Ent} (Z : ι → List Ent) (hZ : ∀ x, (N x ++ M).Perm (Z x)) (hb : HasBody P k) (hv : evs L args.toList = some vs)
    (hc : ∀ w, Mem w0 Ln M S w → Calls P k vs.toArray w (GivesP w p V N (fun _ => []))) : TOpP P Q n (Mem w0 Ln M S) L (.call { callee := .value (.func k), args := args, argTypes := at_ }) ι p V (fun x => Mem w0 Ln (Z x) S) :=
  (t_callP hb hv hc).t.rep fun x w h => ⟨x.1, x.2, rfl, h.perm (hZ x.1)⟩
/-- A call to which a part of what is owned is lent, that gives some of it back. -/
theorem t_callQ {k : FuncId} {args : Array Operand} {at_ : Array TypeId} {vs : List Value} {ι : Type} {p : ι → Prop} {V : ι → Value} {N : ι → List Ent} (M1 X : List Ent) (Z : ι → List Ent) (hM : M.Perm (M1 ++ X)) (hZ : ∀ x, (N x ++ X).Perm (Z x)) (hb : HasBody P k) (hv : evs L args.toList = some vs)
    (hc : ∀ w, Mem w0 Ln M S w → Mem w (nums M1) M1 [] w → Calls P k vs.toArray w (GivesA w M1 p V N)) :
    TOpP P Q n (Mem w0 Ln M S) L (.call { callee := .value (.func k), args := args, argTypes := at_ }) ι p V (fun x => Mem w0 Ln (Z x) S) := by
  have h : TOp P Q n (Mem w0 Ln M S) L (.call { callee := .value (.func k), args := args, argTypes := at_ }) { x : ι // p x } (fun x => V x.1) (fun x => Mem w0 Ln (Z x.1) S) :=
    t_callG (cap := #[]) rfl hb hv fun w hm0 => by
      have hm := hm0.perm hM
      simp only [Array.append_empty]
      refine (hc w hm0 (Mem.startL w (fun e he => hm.own e (List.mem_append_left _ he)) (List.pairwise_append.1 hm.apart).1)).mono ?_
      rintro en w' ⟨x, hp, rfl, h2⟩
      exact ⟨⟨x, hp⟩, rfl, (((hm.perm List.perm_append_comm).framedS h2).perm List.perm_append_comm).perm (hZ x)⟩
  exact h.rep fun x w h => ⟨x.1, x.2, rfl, h⟩
/-- A call that hands back what can be read only. -/
theorem t_callPT {k : FuncId} {args : Array Operand} {at_ : Array TypeId} {vs : List Value} {ι : Type} {p : ι → Prop} {V : ι → Value} {T : ι → Fact} (hb : HasBody P k) (hv : evs L args.toList = some vs)
    (hc : ∀ w, Mem w0 Ln M S w → Calls P k vs.toArray w (GivesP w p V (fun _ => []) (fun x => [T x]))) : TOpP P Q n (Mem w0 Ln M S) L (.call { callee := .value (.func k), args := args, argTypes := at_ }) ι p V (fun x => Mem w0 Ln M (T x :: S)) := t_callP hb hv hc
/-- A call that makes nothing, with a result of which something is known. -/
theorem t_callP0 {k : FuncId} {args : Array Operand} {at_ : Array TypeId} {vs : List Value} {ι : Type} {p : ι → Prop} {V : ι → Value} (hb : HasBody P k) (hv : evs L args.toList = some vs)
    (hc : ∀ w, Mem w0 Ln M S w → Calls P k vs.toArray w (GivesP w p V (fun _ => []) (fun _ => []))) : TOpP P Q n (Mem w0 Ln M S) L (.call { callee := .value (.func k), args := args, argTypes := at_ }) ι p V (fun _ => Mem w0 Ln M S) := t_callP hb hv hc
end

end Go.Proofs.Ytommkigkkeailaa
