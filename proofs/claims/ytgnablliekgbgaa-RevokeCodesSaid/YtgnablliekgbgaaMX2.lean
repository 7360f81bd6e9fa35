/- What the statement reaches, in order. -/
import Derived.Test.YtgnablliekgbgaaMXPLL
import Derived.Test.YtgnablliekgbgaaMXTI
import Derived.Lib.BufferRead
import Derived.Lib.ConvBytes
import Derived.Laws.IdiomStrings
import Derived.Test.YtgnablliekgbgaaMXPLH
import Derived.Recover
import Derived.Test.YtgnablliekgbgaaMXPLZ
import Derived.WalkKit
import Derived.ProofKit
import Derived.OpenShut
import Derived.ShutString
import Derived.ChangeOld
import Derived.Below
import Derived.SizedLaws
import Derived.Lib.SmallJoins
import Derived.Carry
import Derived.Test.YtgnablliekgbgaaMX1
set_option linter.unusedSimpArgs false
set_option linter.unusedVariables false
set_option maxRecDepth 100000
namespace Go.Proofs.Ytgnablliekgbgaa
open Go Go.PL Go.RowKit
theorem refRvCheck (l : Rv) (w : World) (hl : l.seen w.cell?) (hnl : l.nm.length ≤ maxLen)  :
    Calls Try.prog 13 [.agg l.c.toArray].toArray w (Pur w (.int .i64 (chkR l))) := by
  haveI := hl.svs.one
  have lss := hl.s.sv.le
  have lcs := hl.c.sv.le
  have lps := hl.p.sv.le
  have sss := hl.s.sv
  have scs := hl.c.sv
  have sps := hl.p.sv
  simp only [maxLen] at lss lcs lps
  refine enter (m := 44) (R := Mem w [] [] []) Try.func13 rfl rfl (Nat.le_of_ble_eq_true rfl) (Mem.start w) ?_
  refine wpc_seq <| wpc_region ?_
  refine wpl_t (t_box rfl l.c rfl) rfl (fun b1 => ?_)
  refine wpl_q (q_pure rfl) rfl <| wpl_nil <| ex_then <| wpc_seq <| wpc_seq <| wpc_region <| wpl_q (q_field Try.underlying30 rfl Try.ti25 rfl rfl _ rfl) rfl <| wpl_q (q_ld Try.underlying25 rfl rfl (show l.c[4]? = some (l.sv) from rfl)) rfl ?_
  refine wpl_q (q_lenW Try.underlying25 rfl zz2) rfl ?_
  refine wpl_q (q_pure rfl) rfl <| wpl_nil <| ex_then ?_
  refine wpc_cond rfl (fun hc8 => ?_) (fun hc8 => ?_)
  ·
   have h5 : 500 < l.ss.length := by have := of_decide_eq_true hc8; omega
   refine wpc_seq <| wpc_region <| wpl_q (q_pure rfl) rfl <| wpl_nil <| ex_then <| wpc_ret ?_
   refine ex_then_ret ?_
   refine ret1 (.inl rfl) rfl rfl ?_
   exact fun w h => ⟨by rw [chk_4 h5], h.below⟩
  ·
   have h5 : ¬ 500 < l.ss.length := by have := of_decide_eq_false hc8; omega
   refine wpc_skip <| ex_then <| wpc_seq <| wpc_seq <| wpc_region <| wpl_q (q_field Try.underlying30 rfl Try.ti9 rfl rfl _ rfl) rfl <| wpl_q (q_ld Try.underlying9 rfl rfl (show l.c[0]? = some (str l.nm) from rfl)) rfl ?_
   refine wpl_t (t_pur Try.hb33 rfl fun w h => refName l.nm w hnl) rfl (fun b11 => ?_)
   refine wpl_q (q_pure rfl) rfl <| wpl_q (q_pure rfl) rfl ?_
   refine wpl_bool2 13 12 rfl rfl (fun hb13 => ?_) (fun hb13 => ?_)
   ·
    have hn : nameF l.nm = false := by simpa using hb13
    refine wpl_off rfl rfl rfl rfl <| wpl_off rfl rfl rfl rfl <| wpl_off rfl rfl rfl rfl <| wpl_off rfl rfl rfl rfl <| wpl_q (q_pure rfl) rfl <| wpl_q (q_pure rfl) rfl <| wpl_off rfl rfl rfl rfl <| wpl_off rfl rfl rfl rfl <| wpl_off rfl rfl rfl rfl <| wpl_off rfl rfl rfl rfl <| wpl_q (q_pure rfl) rfl <| wpl_nil ?_
    refine ex_then ?_
    refine wpc_cond_t rfl ?_
    refine wpc_seq <| wpc_region <| wpl_q (q_pure rfl) rfl <| wpl_nil <| ex_then <| wpc_ret ?_
    refine ex_then_ret ?_
    refine ret1 (.inl rfl) rfl rfl ?_
    exact fun w h => ⟨zz46, h.below⟩
   ·
    have hn : nameF l.nm = true := by simpa using hb13
    refine wpl_on rfl rfl <| wpl_q (q_field Try.underlying30 rfl Try.ti24 rfl rfl _ rfl) rfl <| wpl_on rfl rfl <| wpl_q (q_ldP Try.underlying24 rfl Try.ti24 rfl l.win rfl rfl) rfl <| wpl_on rfl rfl ?_
    refine wpl_t (t_pur Try.hb34 rfl fun w h => refCheck4 l.fr l.tt w) rfl (fun b16 => ?_)
    refine wpl_on rfl rfl <| wpl_q (q_pure rfl) rfl <| wpl_q (q_pure rfl) rfl <| wpl_q (q_pure rfl) rfl ?_
    refine wpl_bool2 19 17 rfl rfl (fun hb19 => ?_) (fun hb19 => ?_)
    ·
     have hw : winF l.fr l.tt = false := by cases h : winF l.fr l.tt with | false => rfl | true => (rw [h] at hb19; cases hb19)
     refine wpl_off rfl rfl rfl rfl <| wpl_off rfl rfl rfl rfl <| wpl_off rfl rfl rfl rfl <| wpl_off rfl rfl rfl rfl <| wpl_q (q_pure rfl) rfl <| wpl_nil <| ex_then ?_
     refine wpc_cond_t rfl ?_
     refine wpc_seq <| wpc_region <| wpl_q (q_pure rfl) rfl <| wpl_nil <| ex_then <| wpc_ret ?_
     refine ex_then_ret ?_
     refine ret1 (.inl rfl) rfl rfl ?_
     exact fun w h => ⟨zz46, h.below⟩
    ·
     have hw : winF l.fr l.tt = true := by cases h : winF l.fr l.tt with | true => rfl | false => (rw [h] at hb19; cases hb19)
     refine wpl_on rfl rfl <| wpl_q (q_field Try.underlying30 rfl Try.ti28 rfl rfl _ rfl) rfl <| wpl_on rfl rfl <| wpl_q (q_ldP Try.underlying28 rfl Try.ti28 rfl l.sig rfl rfl) rfl <| wpl_on rfl rfl ?_
     refine wpl_t (t_pur Try.hb35 rfl fun w h => goodSig l.ix l.cv l.pv l.chs l.ps w scs sps) rfl (fun b22 => ?_)
     refine wpl_on rfl rfl <| wpl_q (q_pure rfl) rfl <| wpl_q (q_pure rfl) rfl <| wpl_nil <| ex_then ?_
     refine wpc_cond rfl (fun hc24 => ?_) (fun hc24 => ?_)
     ·
      have hg : (gsigB l.ix l.chs.length l.ps.length) = false := by rw [Bool.not_eq_true'] at hc24; exact hc24
      refine wpc_seq <| wpc_region <| wpl_q (q_pure rfl) rfl <| wpl_nil <| ex_then <| wpc_ret ?_
      refine ex_then_ret ?_
      refine ret1 (.inl rfl) rfl rfl ?_
      exact fun w h => ⟨zz46, h.below⟩
     ·
      have hg : (gsigB l.ix l.chs.length l.ps.length) = true := by rw [Bool.not_eq_false'] at hc24; exact hc24
      have hA : okA l = true := by unfold okA; rw [hn, hw, hg]; rfl
      refine wpc_skip <| ex_then <| wpc_seq <| wpc_region <| wpl_q (q_pure rfl) rfl <| wpl_nil <| ex_then <| wpc_seq <| wpc_seq <| wpc_region <| wpl_q (q_pure rfl) rfl <| wpl_nil ?_
      refine ex_then <| wpc_block ?_
      refine wpc_loopc (ι := { x : Nat // (x ≤ l.ss.length) ∧ (incF l.ss x) }) [(1, _)] (fun x Lc => (4, .int .i64 ((x.1 : Nat) : Int)) :: (3, .int .u64 ((lastN l.ss x.1).toNat : Int)) :: Lc) (fun x => Mem w [] [.blk b1 30 l.c] []) (fun x => l.ss.length - x.1) ⟨0, ⟨Nat.zero_le _, incF_0 _⟩⟩ zz7 ?_ ?_
      ·
       exact fun w h => h
      ·
       rintro ⟨i, ⟨hi0, hi1⟩⟩; try dsimp only
       have hi0 : i ≤ l.ss.length := hi0; have hi1 : incF l.ss i := hi1
       refine wpc_seq <| wpc_seq <| wpc_region <| wpl_q (q_pure rfl) rfl <| wpl_q (q_field Try.underlying30 rfl Try.ti25 rfl rfl _ rfl) rfl <| wpl_q (q_ld Try.underlying25 rfl rfl (show l.c[4]? = some (l.sv) from rfl)) rfl ?_
       refine wpl_q (q_lenW Try.underlying25 rfl zz2) rfl ?_
       refine wpl_q (q_pure rfl) rfl <| wpl_nil <| ex_then ?_
       refine wpc_cond rfl (fun hc29 => ?_) (fun hc29 => ?_)
       ·
        simp only [decide_eq_true_eq] at hc29
        have hil : i < l.ss.length := by omega
        refine wpc_skip <| ex_then <| wpc_seq <| wpc_block <| wpc_seq <| wpc_seq <| wpc_region <| wpl_q (q_field Try.underlying30 rfl Try.ti25 rfl rfl _ rfl) rfl <| wpl_q (q_ld Try.underlying25 rfl rfl (show l.c[4]? = some (l.sv) from rfl)) rfl <| wpl_q (q_pure rfl) rfl ?_
        refine wpl_q (q_idxW1 Try.underlying25 Try.ti22 rfl rfl zz2 zz0) rfl ?_
        refine wpl_q (q_ldW Try.underlying22 rfl rfl (fun w h => h.seen_old hl.s) (by first | exact v64s_get zz3 | rfl)) rfl ?_
        refine wpl_q (q_pure rfl) rfl <| wpl_q (q_pure rfl) rfl <| wpl_nil <| ex_then ?_
        refine wpc_cond rfl (fun hc38 => ?_) (fun hc38 => ?_)
        ·
         have hbad : ¬ incF l.ss (i + 1) := fun q => by
           have q2 := (incF_S.1 q).2
           have q3 := of_decide_eq_true hc38
           rw [UInt64.lt_iff_toNat_lt] at q2
           first | (rw [UInt64.le_iff_toNat_le] at q3; omega) | omega
         refine wpc_seq <| wpc_region <| wpl_q (q_pure rfl) rfl <| wpl_nil <| ex_then <| wpc_ret ?_
         refine ex_then_ret ?_
         refine ex_block_ret ?_
         refine ex_then_ret ?_
         refine ex_then_ret ?_
         refine ex_block_ret ?_
         refine ex_then_ret ?_
         refine ret1 (.inl rfl) rfl rfl ?_
         exact fun w h => ⟨by rw [chk_8 h5 (okR_I (incF_no hbad zz11))], h.below⟩
        ·
         have hin : incF l.ss (i + 1) := incF_S.2 ⟨hi1, by
           have q3 := of_decide_eq_false hc38
           rw [UInt64.lt_iff_toNat_lt]
           first | (rw [UInt64.le_iff_toNat_le] at q3; omega) | omega⟩
         refine wpc_skip <| ex_then <| wpc_region <| wpl_q (q_field Try.underlying30 rfl Try.ti25 rfl rfl _ rfl) rfl <| wpl_q (q_ld Try.underlying25 rfl rfl (show l.c[4]? = some (l.sv) from rfl)) rfl <| wpl_q (q_pure rfl) rfl ?_
         refine wpl_q (q_idxW1 Try.underlying25 Try.ti22 rfl rfl zz2 zz0) rfl ?_
         refine wpl_q (q_ldW Try.underlying22 rfl rfl (fun w h => h.seen_old hl.s) (by first | exact v64s_get zz3 | rfl)) rfl ?_
         refine wpl_q (q_pure rfl) rfl <| wpl_nil <| ex_block <| ex_then <| wpc_region <| wpl_q (q_pure rfl) rfl ?_
         refine wpl_q (q_addN (b := 1) rfl rfl zz0) rfl ?_
         refine wpl_q (q_pure rfl) rfl <| wpl_nil ?_
         refine ex_again ⟨i + 1, ⟨by show i + 1 ≤ l.ss.length; omega, hin⟩⟩ ?_ ?_ ?_
         ·
          exact zz7
         ·
          exact fun w h => by first | exact h | exact h.sub SubC.h SubC.h | exact h.sub zz5 zz5
         ·
          (show l.ss.length - (i + 1) < l.ss.length - i); omega
       ·
        simp only [decide_eq_false_iff_not] at hc29
        obtain rfl : i = l.ss.length := by omega
        refine wpc_exit ?_
        refine ex_then_exit ?_
        refine ex_then_exit ?_
        refine ex_block_hit ?_
        refine ex_then <| wpc_seq <| wpc_region <| wpl_q (q_pure rfl) rfl <| wpl_nil <| ex_then <| wpc_ret ?_
        refine ret1 (.inl rfl) rfl rfl ?_
        exact fun w h => ⟨by rw [chk_ok h5 (okR_ok hA hi1)], h.below⟩
end Go.Proofs.Ytgnablliekgbgaa
namespace Go.Proofs.Ytgnablliekgbgaa
open Go Go.PL Go.RowKit
theorem big_no {l : Rv} (h : bigR l = false) : l.nm.length ≤ 500 ∧ l.ss.length ≤ 520 ∧ l.chs.length ≤ 60 ∧ l.ps.length ≤ 60 := by
  unfold bigR at h
  simp only [Bool.or_eq_false_iff, decide_eq_false_iff_not] at h
  omega
end Go.Proofs.Ytgnablliekgbgaa
namespace Go.Proofs.Ytgnablliekgbgaa
open Go Go.PL Go.RowKit
inductive Tr where
  | nd (t : UInt8) (bs : List UInt8) (l : List Tr)
inductive HT where
  | nd (t : UInt8) (bv : Value) (bs : List UInt8) (lv : Value) (l : List HT)
mutual
def HT.tr : HT → Tr
  | .nd t _ bs _ l => .nd t bs (trs l)
def trs : List HT → List Tr
  | [] => []
  | x :: l => x.tr :: trs l
end
theorem HT.ind {P : HT → Prop} (h : ∀ t bv bs lv l, (∀ x ∈ l, P x) → P (.nd t bv bs lv l)) : ∀ t, P t
  | .nd t bv bs lv l => h t bv bs lv l (fun x _ => HT.ind h x)
termination_by t => SizeOf.sizeOf t
decreasing_by
  have := List.sizeOf_lt_of_mem ‹x ∈ l›
  simp only [HT.nd.sizeOf_spec]; omega
theorem Tr.ind {P : Tr → Prop} (h : ∀ t bs l, (∀ x ∈ l, P x) → P (.nd t bs l)) : ∀ t, P t
  | .nd t bs l => h t bs l (fun x _ => Tr.ind h x)
termination_by t => SizeOf.sizeOf t
decreasing_by
  have := List.sizeOf_lt_of_mem ‹x ∈ l›
  simp only [Tr.nd.sizeOf_spec]; omega
theorem trs_map : ∀ l : List HT, trs l = l.map HT.tr
  | [] => rfl
  | x :: l => by rw [trs, trs_map l]; rfl
theorem trs_length (l : List HT) : (trs l).length = l.length := by rw [trs_map, List.length_map]
theorem trs_append (a b : List HT) : trs (a ++ b) = trs a ++ trs b := by simp [trs_map]
abbrev nl : Value := .slice none 0 0
def HT.z : HT := .nd 0 nl [] nl []
def Tr.z : Tr := .nd 0 [] []
def HT.tg : HT → UInt8 | .nd t _ _ _ _ => t
def HT.bv : HT → Value | .nd _ v _ _ _ => v
def HT.bs : HT → List UInt8 | .nd _ _ bs _ _ => bs
def HT.lv : HT → Value | .nd _ _ _ v _ => v
def HT.kids : HT → List HT | .nd _ _ _ _ l => l
def HT.c : HT → List Value | .nd t bv _ lv _ => [.int .u8 (t.toNat : Int), bv, lv]
theorem HT.c_length (t : HT) : t.c.length = 3 := by cases t; rfl
instance lenC_ht {t : HT} : LenC t.c 3 := ⟨t.c_length⟩
abbrev hcs (l : List HT) : List Value := (l.map HT.c).flatten
theorem getD_memH {l : List HT} {i : Nat} (h : i < l.length) : l.getD i HT.z ∈ l := by
  rw [List.getD_eq_getElem?_getD, List.getElem?_eq_getElem h]; exact List.getElem_mem h
theorem take_succD {α : Type} (z : α) {l : List α} {i : Nat} (h : i < l.length) : l.take (i + 1) = l.take i ++ [l.getD i z] := by
  rw [List.take_add_one, List.getD_eq_getElem?_getD, List.getElem?_eq_getElem h]; rfl
theorem drop_consD {α : Type} (z : α) {l : List α} {i : Nat} (h : i < l.length) : l.drop i = l.getD i z :: l.drop (i + 1) := by
  rw [List.drop_eq_getElem_cons h, List.getD_eq_getElem?_getD, List.getElem?_eq_getElem h]; rfl
def HT.sv : HT → Prop | .nd _ bv bs lv l => SV bv bs.length ∧ SV lv l.length
theorem HT.sv.one {t : HT} (h : t.sv) : OneC t.c := by
  obtain ⟨tg, bv, bs, lv, l⟩ := t
  exact OneC.cons rfl (OneC.cons h.1.one (OneC.cons h.2.one oneC_nil))
instance oneC_hz : OneC HT.z.c := ⟨by intro u hu; simp only [HT.z, HT.c, List.mem_cons, List.not_mem_nil, or_false] at hu; rcases hu with rfl | rfl | rfl <;> rfl⟩
mutual
def HSeen (r : Rd) : HT → Prop
  | .nd _ bv bs lv l => Seen r bv bs.length 1 (v8s bs) ∧ Seen r lv l.length 3 (hcs l) ∧ HSeenL r l
def HSeenL (r : Rd) : List HT → Prop
  | [] => True
  | x :: l => HSeen r x ∧ HSeenL r l
end
theorem HSeenL_iff {r : Rd} : ∀ {l : List HT}, HSeenL r l ↔ ∀ x ∈ l, HSeen r x
  | [] => by simp [HSeenL]
  | x :: l => by simp [HSeenL, HSeenL_iff (l := l)]
theorem HSeen.mono {r r' : Rd} (hr : ∀ a v, r a = some v → r' a = some v) : ∀ {t : HT}, HSeen r t → HSeen r' t := by
  intro t
  induction t using HT.ind with
  | _ t bv bs lv l ih =>
    rintro ⟨h1, h2, h3⟩
    exact ⟨h1.mono hr, h2.mono hr, HSeenL_iff.2 fun x hx => ih x hx (HSeenL_iff.1 h3 x hx)⟩
theorem HSeen.sv {r : Rd} {t : HT} (h : HSeen r t) : t.sv := by
  obtain ⟨tg, bv, bs, lv, l⟩ := t
  exact ⟨h.1.sv, h.2.1.sv⟩
theorem HSeen.kid {r : Rd} {tg : UInt8} {bv lv : Value} {bs : List UInt8} {l : List HT} (h : HSeen r (.nd tg bv bs lv l)) {i : Nat} (hi : i < l.length) : HSeen r (l.getD i HT.z) := HSeenL_iff.1 h.2.2 _ (getD_memH hi)
def hseen (t : HT) : Fact := ⟨fun r => HSeen r t, fun _ _ hr h => h.mono hr⟩
theorem HSeen.old {w0 w : World} {M : List Ent} {S : List Fact} {t : HT} (hs : HSeen w0.cell? t) (h : Mem w0 [] M S w) : HSeen w.cell? t := hs.mono fun _ _ hc => h.cell_old hc
mutual
def HT.ents : HT → List Ent
  | .nd _ bv bs lv l => .row bv bs.length 5 1 (v8s bs) :: .row lv l.length 72 3 (hcs l) :: entsL l
def entsL : List HT → List Ent
  | [] => []
  | x :: l => x.ents ++ entsL l
end
theorem entsL_append (a b : List HT) : entsL (a ++ b) = entsL a ++ entsL b := by
  induction a with
  | nil => rfl
  | cons x a ih => simp [entsL, ih]
theorem mem_entsL {l : List HT} {x : HT} (hx : x ∈ l) {e : Ent} (he : e ∈ x.ents) : e ∈ entsL l := by
  induction l with
  | nil => cases hx
  | cons y l ih =>
    rw [entsL, List.mem_append]
    rcases List.mem_cons.1 hx with rfl | hx
    · exact .inl he
    · exact .inr (ih hx)
theorem Mem.hseenM {w0 w : World} {Ln : List Nat} {M : List Ent} {S : List Fact} (h : Mem w0 Ln M S w) : ∀ {t : HT}, (∀ e ∈ t.ents, e ∈ M) → HSeen w.cell? t := by
  intro t
  induction t using HT.ind with
  | _ t bv bs lv l ih =>
    intro hm
    refine ⟨h.seen_row (hm _ (List.mem_cons_self ..)), h.seen_row (hm _ (List.mem_cons_of_mem _ (List.mem_cons_self ..))), HSeenL_iff.2 fun x hx => ih x hx fun e he => hm _ ?_⟩
    exact List.mem_cons_of_mem _ (List.mem_cons_of_mem _ (mem_entsL hx he))
class HasT (M : List Ent) (t : HT) : Prop where
  h : ∀ e ∈ t.ents, e ∈ M
instance (priority := 1200) hasT_here {t : HT} {X : List Ent} : HasT (t.ents ++ X) t := ⟨fun e he => List.mem_append_left _ he⟩
instance (priority := 1100) hasT_all {t : HT} : HasT t.ents t := ⟨fun _ he => he⟩
instance (priority := 800) hasT_app {t : HT} {Y X : List Ent} [h : HasT X t] : HasT (Y ++ X) t := ⟨fun e he => List.mem_append_right _ (h.h e he)⟩
instance (priority := 700) hasT_left {t : HT} {Y X : List Ent} [h : HasT Y t] : HasT (Y ++ X) t := ⟨fun e he => List.mem_append_left _ (h.h e he)⟩
instance (priority := 900) hasT_cons {t : HT} {e : Ent} {X : List Ent} [h : HasT X t] : HasT (e :: X) t := ⟨fun _ hk => List.mem_cons_of_mem _ (h.h _ hk)⟩
theorem Mem.hseen {w0 w : World} {Ln : List Nat} {M : List Ent} {S : List Fact} (h : Mem w0 Ln M S w) {t : HT} [ht : HasT M t] : HSeen w.cell? t := Mem.hseenM h ht.h
theorem Mem.hseenF {w0 w : World} {Ln : List Nat} {M : List Ent} {S : List Fact} (h : Mem w0 Ln M S w) {t : HT} (ht : Go.Proofs.Ytgnablliekgbgaa.hseen t ∈ S) : HSeen w.cell? t := h.fact ht
def rowFact : Ent → Fact
  | .row v m _ sz xs => Go.PL.seen v m sz xs
  | _ => ⟨fun _ => True, fun _ _ _ _ => trivial⟩
def isRow : Ent → Prop
  | .row _ _ _ _ _ => True
  | _ => False
theorem ents_rows : ∀ (t : HT), ∀ e ∈ t.ents, isRow e := by
  intro t
  induction t using HT.ind with
  | _ t bv bs lv l ih =>
    intro e he
    rcases List.mem_cons.1 he with rfl | he
    · trivial
    · rcases List.mem_cons.1 he with rfl | he
      · trivial
      · have : ∀ m : List HT, (∀ x ∈ m, x ∈ l) → e ∈ entsL m → isRow e := by
          intro m
          induction m with
          | nil => intro _ h; cases h
          | cons y m ih2 =>
            intro hm h
            rw [entsL, List.mem_append] at h
            rcases h with h | h
            · exact ih y (hm y (List.mem_cons_self ..)) e h
            · exact ih2 (fun x hx => hm x (List.mem_cons_of_mem _ hx)) h
        exact this l (fun _ hx => hx) he
theorem Mem.freezeRows {w0 w : World} : ∀ (X : List Ent) {M : List Ent} {S : List Fact}, (∀ e ∈ X, isRow e) → Mem w0 [] (X ++ M) S w → Mem w0 [] M (X.map rowFact ++ S) w
  | [], M, S, _, h => h
  | e :: X, M, S, hr, h => by
    cases e with
    | row v m e sz xs =>
      have h1 := h.freezeRow (M' := X ++ M) .here
      have h2 := Mem.freezeRows X (fun e he => hr e (List.mem_cons_of_mem _ he)) h1
      refine h2.imp fun r hs t ht => hs t ?_
      rw [List.map_cons, List.cons_append] at ht
      rcases List.mem_cons.1 ht with rfl | ht
      · exact List.mem_append_right _ (List.mem_cons_self ..)
      · rcases List.mem_append.1 ht with ht | ht
        · exact List.mem_append_left _ ht
        · exact List.mem_append_right _ (List.mem_cons_of_mem _ ht)
    | blk b t cs => exact (hr _ (List.mem_cons_self ..)).elim
    | obj b o => exact (hr _ (List.mem_cons_self ..)).elim
theorem hseen_rows {r : Rd} : ∀ (t : HT), (∀ e ∈ t.ents, (rowFact e).f r) → HSeen r t := by
  intro t
  induction t using HT.ind with
  | _ t bv bs lv l ih =>
    intro h
    refine ⟨h _ (List.mem_cons_self ..), h _ (List.mem_cons_of_mem _ (List.mem_cons_self ..)), HSeenL_iff.2 fun x hx => ih x hx fun e he => h _ ?_⟩
    exact List.mem_cons_of_mem _ (List.mem_cons_of_mem _ (mem_entsL hx he))
theorem Mem.freezeT {w0 w : World} {M : List Ent} {S : List Fact} {t : HT} (h : Mem w0 [] (t.ents ++ M) S w) : Mem w0 [] M (Go.Proofs.Ytgnablliekgbgaa.hseen t :: S) w := by
  refine (Mem.freezeRows t.ents (ents_rows t) h).imp fun r hs f hf => ?_
  rcases List.mem_cons.1 hf with rfl | hf
  · exact hseen_rows t fun e he => hs _ (List.mem_append_left _ (List.mem_map_of_mem he))
  · exact hs _ (List.mem_append_right _ hf)
theorem new_freeze {B : World} {w : World} {t : HT} (h : Mem B [] t.ents [] w) : New B.heap.size [] [Go.Proofs.Ytgnablliekgbgaa.hseen t] w := (Mem.freezeT (t := t) (M := []) (by rw [List.append_nil]; exact h)).made .nil (Sub.refl _)
theorem Sub.appR {α : Type} {l M : List α} : ∀ (X : List α), Sub l M → Sub l (X ++ M)
  | [], h => h
  | _ :: X, h => .drop (Sub.appR X h)
instance (priority := 1600) subC_refl {α : Type} {l : List α} : SubC l l := ⟨Sub.refl l⟩
instance (priority := 500) subC_appR {α : Type} {l M X : List α} [s : SubC l M] : SubC l (X ++ M) := ⟨Sub.appR X s.h⟩
section
variable {P : Program} {n : Cx} {L : Slots} {Q : Exit → Act → World → Prop} {w0 : World} {Ln : List Nat} {M : List Ent} {S : List Fact}
theorem t_callE {k : FuncId} {args : Array Operand} {at_ : Array TypeId} {vs : List Value} {ι : Type} {p : ι → Prop} {V : ι → Value} {N : ι → List Ent} (Z : ι → List Ent) (hZ : ∀ x, (N x ++ M).Perm (Z x)) (hb : HasBody P k) (hv : evs L args.toList = some vs)
    (hc : ∀ w, Mem w0 Ln M S w → Calls P k vs.toArray w (GivesP w p V N (fun _ => []))) : TOpP P Q n (Mem w0 Ln M S) L (.call { callee := .value (.func k), args := args, argTypes := at_ }) ι p V (fun x => Mem w0 Ln (Z x) S) :=
  (t_callP hb hv hc).t.rep fun x w h => ⟨x.1, x.2, rfl, h.perm (hZ x.1)⟩
theorem t_callPT {k : FuncId} {args : Array Operand} {at_ : Array TypeId} {vs : List Value} {ι : Type} {p : ι → Prop} {V : ι → Value} {T : ι → Fact} (hb : HasBody P k) (hv : evs L args.toList = some vs)
    (hc : ∀ w, Mem w0 Ln M S w → Calls P k vs.toArray w (GivesP w p V (fun _ => []) (fun x => [T x]))) : TOpP P Q n (Mem w0 Ln M S) L (.call { callee := .value (.func k), args := args, argTypes := at_ }) ι p V (fun x => Mem w0 Ln M (T x :: S)) := t_callP hb hv hc
end
end Go.Proofs.Ytgnablliekgbgaa
namespace Go.Proofs.Ytgnablliekgbgaa
open Go Go.PL Go.RowKit
def lenF (n : Nat) : Nat := if n = 0 then 0 else n.log2 + 1
theorem lenF_step {n : Nat} (h : n ≠ 0) : lenF n = lenF (n / 2) + 1 := by
  unfold lenF
  rw [if_neg h, Nat.log2_def]
  by_cases h2 : 2 ≤ n
  · rw [if_pos h2, if_neg zz11]
  · rw [if_neg h2, if_pos zz11]
theorem lenF_shift : ∀ (s n : Nat), 2 ^ s ≤ n → lenF n = s + lenF (n / 2 ^ s)
  | 0, n, _ => by simp
  | s + 1, n, h => by
    have h1 : 2 ^ s ≤ n / 2 := by rw [Nat.pow_succ] at h; omega
    have := Nat.two_pow_pos s
    rw [lenF_step zz11, lenF_shift s (n / 2) h1, Nat.div_div_eq_div_mul, Nat.pow_succ, Nat.mul_comm 2]; omega
theorem lenF_le : ∀ {m n : Nat}, n < 2 ^ m → lenF n ≤ m
  | 0, n, h => by
    obtain rfl : n = 0 := by simpa using h
    exact Nat.le_refl _
  | m + 1, n, h => by
    by_cases h0 : n = 0
    · subst h0; exact Nat.zero_le _
    · rw [lenF_step h0]
      have := lenF_le (m := m) (n := n / 2) (by rw [Nat.pow_succ] at h; omega)
      omega
theorem lenF_lt : ∀ {m n : Nat}, lenF n ≤ m → n < 2 ^ m
  | 0, n, h => by
    by_cases h0 : n = 0
    · subst h0; decide
    · rw [lenF_step h0] at h; omega
  | m + 1, n, h => by
    by_cases h0 : n = 0
    · subst h0; exact Nat.two_pow_pos _
    · rw [lenF_step h0] at h
      have := lenF_lt (m := m) (n := n / 2) zz11
      rw [Nat.pow_succ]; omega
def tab8 : List UInt8 := (List.range 256).map fun i => UInt8.ofNat (lenF i)
theorem tab8_length : tab8.length = 256 := by rw [tab8, List.length_map, List.length_range]
theorem tab8_get {b : Nat} (h : b < 256) : (tab8.getD b 0).toNat = lenF b := by
  rw [tab8, List.getD_eq_getElem?_getD, List.getElem?_map, List.getElem?_range h]
  show (UInt8.ofNat (lenF b)).toNat = _
  rw [UInt8.toNat_ofNat']
  exact Nat.mod_eq_of_lt (by have := lenF_le (m := 8) (n := b) h; omega)
theorem sr64_nat (x : UInt64) (k : Nat) (hk : k ≤ 64) : (sr64 x k).toNat = x.toNat / 2 ^ k := by
  show (UInt64.ofNat (x.toNat / 2 ^ min k 64)).toNat = _
  rw [Nat.min_eq_left hk, UInt64.toNat_ofNat']
  exact Nat.mod_eq_of_lt (Nat.lt_of_le_of_lt (Nat.div_le_self _ _) x.toNat_lt)
theorem len_fin {x y : UInt64} (s : Nat) (hy : y.toNat = x.toNat / 2 ^ s) (h1 : y.toNat < 256) (h2 : s = 0 ∨ 2 ^ s ≤ x.toNat) : s + (tab8.getD (of8 (y.toNat : Int)).toNat 0).toNat = lenF x.toNat := by
  have e : (of8 (y.toNat : Int)).toNat = y.toNat := by have := of8_toNat (y.toNat : Int); omega
  rw [e, tab8_get h1, hy]
  rcases h2 with rfl | h2
  · simp
  · exact (lenF_shift s _ h2).symm
def wideF (n : Nat) : Nat := if n < 128 then 1 else 1 + (lenF n + 7) / 8
theorem wideF_eq {n : Nat} (h : n < 16777216) : wideF n = if n < 128 then 1 else if n < 256 then 2 else if n < 65536 then 3 else 4 := by
  unfold wideF
  split
  · rfl
  · split
    · have h1 := lenF_le (m := 8) (n := n) zz11
      have h2 : ¬ lenF n ≤ 0 := fun hh => by have := lenF_lt hh; omega
      omega
    · split
      · have h1 := lenF_le (m := 16) (n := n) zz11
        have h2 : ¬ lenF n ≤ 8 := fun hh => by have := lenF_lt hh; omega
        omega
      · have h1 := lenF_le (m := 24) (n := n) zz11
        have h2 : ¬ lenF n ≤ 16 := fun hh => by have := lenF_lt hh; omega
        omega
theorem wideF_le (n : Nat) (h : n < 16777216) : wideF n ≤ 4 := by
  rw [wideF_eq h]; split
  · decide
  · split
    · decide
    · split <;> decide
def lenB (n : Nat) : List UInt8 := if n < 128 then [of8 (n : Int)] else if n < 256 then [129, of8 (n : Int)] else if n < 65536 then [130, of8 ((n / 256 : Nat) : Int), of8 ((n % 256 : Nat) : Int)] else [131, of8 ((n / 65536 : Nat) : Int), of8 ((n / 256 % 256 : Nat) : Int), of8 ((n % 256 : Nat) : Int)]
theorem lenB_length {n : Nat} (h : n < 16777216) : (lenB n).length = wideF n := by
  rw [wideF_eq h]; unfold lenB
  split
  · rfl
  · split
    · rfl
    · split <;> rfl
theorem len64 (x : UInt64) (w : World)   :
    Calls Try.prog 71 [.int .u64 x.toNat].toArray w (Pur w (.int .i64 ((lenF x.toNat : Nat) : Int))) := by
  have hx := x.toNat_lt
  refine enter (m := 25) (R := Mem w [] [] []) Try.func71 rfl rfl (Nat.le_of_ble_eq_true rfl) (Mem.start w) ?_
  refine wpc_seq <| wpc_region <| wpl_q (q_pure rfl) rfl <| wpl_nil <| ex_then <| wpc_seq <| wpc_seq <| wpc_region <| wpl_q (q_pure rfl) rfl <| wpl_q (q_pure rfl) rfl <| wpl_nil <| ex_then ?_
  refine wpc_cond rfl (fun hc4 => ?_) (fun hc4 => ?_)
  ·
   try simp only [decide_eq_true_eq, decide_eq_false_iff_not, ge_iff_le] at hc4
   refine wpc_seq <| wpc_region <| wpl_q (q_pure rfl) rfl ?_
   refine wpl_q (q64_shr rfl rfl zz29 32 rfl) rfl ?_
   refine wpl_q (q_pure rfl) rfl <| wpl_nil <| ex_then <| wpc_region <| wpl_q (q_pure rfl) rfl <| wpl_nil <| ex_then <| wpc_seq <| wpc_seq <| wpc_region <| wpl_q (q_pure rfl) rfl <| wpl_q (q_pure rfl) rfl ?_
   refine wpl_nil <| ex_then ?_
   refine wpc_cond rfl (fun hc8 => ?_) (fun hc8 => ?_)
   ·
    try simp only [decide_eq_true_eq, decide_eq_false_iff_not, ge_iff_le] at hc8
    refine wpc_seq <| wpc_region <| wpl_q (q_pure rfl) rfl ?_
    refine wpl_q (q64_shr rfl rfl zz29 16 rfl) rfl ?_
    refine wpl_q (q_pure rfl) rfl <| wpl_nil <| ex_then <| wpc_region <| wpl_q (q_pure rfl) rfl ?_
    refine wpl_q (q_addN (b := 16) rfl rfl zz0) rfl ?_
    refine wpl_q (q_pure rfl) rfl <| wpl_nil <| ex_then <| wpc_seq <| wpc_seq <| wpc_region <| wpl_q (q_pure rfl) rfl <| wpl_q (q_pure rfl) rfl <| wpl_nil <| ex_then ?_
    refine wpc_cond rfl (fun hc14 => ?_) (fun hc14 => ?_)
    ·
     try simp only [decide_eq_true_eq, decide_eq_false_iff_not, ge_iff_le] at hc14
     refine wpc_seq <| wpc_region <| wpl_q (q_pure rfl) rfl ?_
     refine wpl_q (q64_shr rfl rfl zz29 8 rfl) rfl ?_
     refine wpl_q (q_pure rfl) rfl <| wpl_nil <| ex_then <| wpc_region <| wpl_q (q_pure rfl) rfl ?_
     refine wpl_q (q_addN (b := 8) rfl rfl zz0) rfl ?_
     refine wpl_q (q_pure rfl) rfl <| wpl_nil <| ex_then <| wpc_seq <| wpc_region <| wpl_q (q_pure rfl) rfl <| wpl_q (q_pure rfl) rfl <| wpl_q (q8_conv Try.underlying22 Try.underlying5 rfl) rfl ?_
     refine wpl_q (q_strIdx (xs := tab8) Try.underlying9 zz6 rfl zz38) rfl ?_
     refine wpl_q (q8_int Try.underlying5 Try.underlying3 rfl) rfl ?_
     refine wpl_q (q_addN rfl rfl (Nat.le_trans (Nat.add_le_add_left (Nat.le_of_lt (UInt8.toNat_lt _)) _) zz18)) rfl ?_
     refine wpl_q (q_pure rfl) rfl <| wpl_nil <| ex_then <| wpc_ret ?_
     refine ret1 (.inl rfl) rfl rfl ?_
     exact fun w h => ⟨by
       have e0 := sr64_nat x 32 zz18
       have e1 := sr64_nat (sr64 x 32) 16 zz18
       have e2 := sr64_nat (sr64 (sr64 x 32) 16) 8 zz18
       have := len_fin (x := x) (y := (sr64 (sr64 (sr64 x 32) 16) 8)) 56 (by rw [e2, e1, e0]; first | done | omega) zz11 zz11
       rw [← this], h.below⟩
    ·
     try simp only [decide_eq_true_eq, decide_eq_false_iff_not, ge_iff_le] at hc14
     refine wpc_skip <| ex_then <| wpc_seq <| wpc_region <| wpl_q (q_pure rfl) rfl <| wpl_q (q_pure rfl) rfl <| wpl_q (q8_conv Try.underlying22 Try.underlying5 rfl) rfl ?_
     refine wpl_q (q_strIdx (xs := tab8) Try.underlying9 zz6 rfl zz38) rfl ?_
     refine wpl_q (q8_int Try.underlying5 Try.underlying3 rfl) rfl ?_
     refine wpl_q (q_addN rfl rfl (Nat.le_trans (Nat.add_le_add_left (Nat.le_of_lt (UInt8.toNat_lt _)) _) zz18)) rfl ?_
     refine wpl_q (q_pure rfl) rfl <| wpl_nil <| ex_then <| wpc_ret ?_
     refine ret1 (.inl rfl) rfl rfl ?_
     exact fun w h => ⟨by
       have e0 := sr64_nat x 32 zz18
       have e1 := sr64_nat (sr64 x 32) 16 zz18
       have := len_fin (x := x) (y := (sr64 (sr64 x 32) 16)) 48 (by rw [e1, e0]; first | done | omega) zz11 zz11
       rw [← this], h.below⟩
   ·
    try simp only [decide_eq_true_eq, decide_eq_false_iff_not, ge_iff_le] at hc8
    refine wpc_skip <| ex_then <| wpc_seq <| wpc_seq <| wpc_region <| wpl_q (q_pure rfl) rfl <| wpl_q (q_pure rfl) rfl <| wpl_nil <| ex_then ?_
    refine wpc_cond rfl (fun hc14 => ?_) (fun hc14 => ?_)
    ·
     try simp only [decide_eq_true_eq, decide_eq_false_iff_not, ge_iff_le] at hc14
     refine wpc_seq <| wpc_region <| wpl_q (q_pure rfl) rfl ?_
     refine wpl_q (q64_shr rfl rfl zz29 8 rfl) rfl ?_
     refine wpl_q (q_pure rfl) rfl <| wpl_nil <| ex_then <| wpc_region <| wpl_q (q_pure rfl) rfl ?_
     refine wpl_q (q_addN (b := 8) rfl rfl zz0) rfl ?_
     refine wpl_q (q_pure rfl) rfl <| wpl_nil <| ex_then <| wpc_seq <| wpc_region <| wpl_q (q_pure rfl) rfl <| wpl_q (q_pure rfl) rfl <| wpl_q (q8_conv Try.underlying22 Try.underlying5 rfl) rfl ?_
     refine wpl_q (q_strIdx (xs := tab8) Try.underlying9 zz6 rfl zz38) rfl ?_
     refine wpl_q (q8_int Try.underlying5 Try.underlying3 rfl) rfl ?_
     refine wpl_q (q_addN rfl rfl (Nat.le_trans (Nat.add_le_add_left (Nat.le_of_lt (UInt8.toNat_lt _)) _) zz18)) rfl ?_
     refine wpl_q (q_pure rfl) rfl <| wpl_nil <| ex_then <| wpc_ret ?_
     refine ret1 (.inl rfl) rfl rfl ?_
     exact fun w h => ⟨by
       have e0 := sr64_nat x 32 zz18
       have e1 := sr64_nat (sr64 x 32) 8 zz18
       have := len_fin (x := x) (y := (sr64 (sr64 x 32) 8)) 40 (by rw [e1, e0]; first | done | omega) zz11 zz11
       rw [← this], h.below⟩
    ·
     try simp only [decide_eq_true_eq, decide_eq_false_iff_not, ge_iff_le] at hc14
     refine wpc_skip <| ex_then <| wpc_seq <| wpc_region <| wpl_q (q_pure rfl) rfl <| wpl_q (q_pure rfl) rfl <| wpl_q (q8_conv Try.underlying22 Try.underlying5 rfl) rfl ?_
     refine wpl_q (q_strIdx (xs := tab8) Try.underlying9 zz6 rfl zz38) rfl ?_
     refine wpl_q (q8_int Try.underlying5 Try.underlying3 rfl) rfl ?_
     refine wpl_q (q_addN rfl rfl (Nat.le_trans (Nat.add_le_add_left (Nat.le_of_lt (UInt8.toNat_lt _)) _) zz18)) rfl ?_
     refine wpl_q (q_pure rfl) rfl <| wpl_nil <| ex_then <| wpc_ret ?_
     refine ret1 (.inl rfl) rfl rfl ?_
     exact fun w h => ⟨by
       have e0 := sr64_nat x 32 zz18
       have := len_fin (x := x) (y := (sr64 x 32)) 32 (by rw [e0]; first | done | omega) zz11 zz11
       rw [← this], h.below⟩
  ·
   try simp only [decide_eq_true_eq, decide_eq_false_iff_not, ge_iff_le] at hc4
   refine wpc_skip <| ex_then <| wpc_seq <| wpc_seq <| wpc_region <| wpl_q (q_pure rfl) rfl <| wpl_q (q_pure rfl) rfl <| wpl_nil <| ex_then ?_
   refine wpc_cond rfl (fun hc8 => ?_) (fun hc8 => ?_)
   ·
    try simp only [decide_eq_true_eq, decide_eq_false_iff_not, ge_iff_le] at hc8
    refine wpc_seq <| wpc_region <| wpl_q (q_pure rfl) rfl ?_
    refine wpl_q (q64_shr rfl rfl zz29 16 rfl) rfl ?_
    refine wpl_q (q_pure rfl) rfl <| wpl_nil <| ex_then <| wpc_region <| wpl_q (q_pure rfl) rfl ?_
    refine wpl_q (q_addN (b := 16) rfl rfl zz0) rfl ?_
    refine wpl_q (q_pure rfl) rfl <| wpl_nil <| ex_then <| wpc_seq <| wpc_seq <| wpc_region <| wpl_q (q_pure rfl) rfl <| wpl_q (q_pure rfl) rfl <| wpl_nil <| ex_then ?_
    refine wpc_cond rfl (fun hc14 => ?_) (fun hc14 => ?_)
    ·
     try simp only [decide_eq_true_eq, decide_eq_false_iff_not, ge_iff_le] at hc14
     refine wpc_seq <| wpc_region <| wpl_q (q_pure rfl) rfl ?_
     refine wpl_q (q64_shr rfl rfl zz29 8 rfl) rfl ?_
     refine wpl_q (q_pure rfl) rfl <| wpl_nil <| ex_then <| wpc_region <| wpl_q (q_pure rfl) rfl ?_
     refine wpl_q (q_addN (b := 8) rfl rfl zz0) rfl ?_
     refine wpl_q (q_pure rfl) rfl <| wpl_nil <| ex_then <| wpc_seq <| wpc_region <| wpl_q (q_pure rfl) rfl <| wpl_q (q_pure rfl) rfl <| wpl_q (q8_conv Try.underlying22 Try.underlying5 rfl) rfl ?_
     refine wpl_q (q_strIdx (xs := tab8) Try.underlying9 zz6 rfl zz38) rfl ?_
     refine wpl_q (q8_int Try.underlying5 Try.underlying3 rfl) rfl ?_
     refine wpl_q (q_addN rfl rfl (Nat.le_trans (Nat.add_le_add_left (Nat.le_of_lt (UInt8.toNat_lt _)) _) zz18)) rfl ?_
     refine wpl_q (q_pure rfl) rfl <| wpl_nil <| ex_then <| wpc_ret ?_
     refine ret1 (.inl rfl) rfl rfl ?_
     exact fun w h => ⟨by
       have e0 := sr64_nat x 16 zz18
       have e1 := sr64_nat (sr64 x 16) 8 zz18
       have := len_fin (x := x) (y := (sr64 (sr64 x 16) 8)) 24 (by rw [e1, e0]; first | done | omega) zz11 zz11
       rw [← this], h.below⟩
    ·
     try simp only [decide_eq_true_eq, decide_eq_false_iff_not, ge_iff_le] at hc14
     refine wpc_skip <| ex_then <| wpc_seq <| wpc_region <| wpl_q (q_pure rfl) rfl <| wpl_q (q_pure rfl) rfl <| wpl_q (q8_conv Try.underlying22 Try.underlying5 rfl) rfl ?_
     refine wpl_q (q_strIdx (xs := tab8) Try.underlying9 zz6 rfl zz38) rfl ?_
     refine wpl_q (q8_int Try.underlying5 Try.underlying3 rfl) rfl ?_
     refine wpl_q (q_addN rfl rfl (Nat.le_trans (Nat.add_le_add_left (Nat.le_of_lt (UInt8.toNat_lt _)) _) zz18)) rfl ?_
     refine wpl_q (q_pure rfl) rfl <| wpl_nil <| ex_then <| wpc_ret ?_
     refine ret1 (.inl rfl) rfl rfl ?_
     exact fun w h => ⟨by
       have e0 := sr64_nat x 16 zz18
       have := len_fin (x := x) (y := (sr64 x 16)) 16 (by rw [e0]; first | done | omega) zz11 zz11
       rw [← this], h.below⟩
   ·
    try simp only [decide_eq_true_eq, decide_eq_false_iff_not, ge_iff_le] at hc8
    refine wpc_skip <| ex_then <| wpc_seq <| wpc_seq <| wpc_region <| wpl_q (q_pure rfl) rfl <| wpl_q (q_pure rfl) rfl <| wpl_nil <| ex_then ?_
    refine wpc_cond rfl (fun hc14 => ?_) (fun hc14 => ?_)
    ·
     try simp only [decide_eq_true_eq, decide_eq_false_iff_not, ge_iff_le] at hc14
     refine wpc_seq <| wpc_region <| wpl_q (q_pure rfl) rfl ?_
     refine wpl_q (q64_shr rfl rfl zz29 8 rfl) rfl ?_
     refine wpl_q (q_pure rfl) rfl <| wpl_nil <| ex_then <| wpc_region <| wpl_q (q_pure rfl) rfl ?_
     refine wpl_q (q_addN (b := 8) rfl rfl zz0) rfl ?_
     refine wpl_q (q_pure rfl) rfl <| wpl_nil <| ex_then <| wpc_seq <| wpc_region <| wpl_q (q_pure rfl) rfl <| wpl_q (q_pure rfl) rfl <| wpl_q (q8_conv Try.underlying22 Try.underlying5 rfl) rfl ?_
     refine wpl_q (q_strIdx (xs := tab8) Try.underlying9 zz6 rfl zz38) rfl ?_
     refine wpl_q (q8_int Try.underlying5 Try.underlying3 rfl) rfl ?_
     refine wpl_q (q_addN rfl rfl (Nat.le_trans (Nat.add_le_add_left (Nat.le_of_lt (UInt8.toNat_lt _)) _) zz18)) rfl ?_
     refine wpl_q (q_pure rfl) rfl <| wpl_nil <| ex_then <| wpc_ret ?_
     refine ret1 (.inl rfl) rfl rfl ?_
     exact fun w h => ⟨by
       have e0 := sr64_nat x 8 zz18
       have := len_fin (x := x) (y := (sr64 x 8)) 8 (by rw [e0]; first | done | omega) zz11 zz11
       rw [← this], h.below⟩
    ·
     try simp only [decide_eq_true_eq, decide_eq_false_iff_not, ge_iff_le] at hc14
     refine wpc_skip <| ex_then <| wpc_seq <| wpc_region <| wpl_q (q_pure rfl) rfl <| wpl_q (q_pure rfl) rfl <| wpl_q (q8_conv Try.underlying22 Try.underlying5 rfl) rfl ?_
     refine wpl_q (q_strIdx (xs := tab8) Try.underlying9 zz6 rfl zz38) rfl ?_
     refine wpl_q (q8_int Try.underlying5 Try.underlying3 rfl) rfl ?_
     refine wpl_q (q_addN rfl rfl (Nat.le_trans (Nat.add_le_add_left (Nat.le_of_lt (UInt8.toNat_lt _)) _) zz18)) rfl ?_
     refine wpl_q (q_pure rfl) rfl <| wpl_nil <| ex_then <| wpc_ret ?_
     refine ret1 (.inl rfl) rfl rfl ?_
     exact fun w h => ⟨by
       skip
       have := len_fin (x := x) (y := x) 0 zz44 zz11 zz11
       rw [← this], h.below⟩
theorem len_ (x : UInt64) (w : World)   :
    Calls Try.prog 114 [.int .u64 x.toNat].toArray w (Pur w (.int .i64 ((lenF x.toNat : Nat) : Int))) := by
  refine enter (m := 8) (R := Mem w [] [] []) Try.func114 rfl rfl (Nat.le_of_ble_eq_true rfl) (Mem.start w) ?_
  refine wpc_seq <| wpc_region <| wpl_q (q_pure rfl) rfl <| wpl_nil <| ex_then <| wpc_seq ?_
  refine wpc_cond_f rfl ?_
  refine wpc_skip <| ex_then <| wpc_seq <| wpc_region <| wpl_q (q_pure rfl) rfl ?_
  refine wpl_t (t_pur Try.hb71 rfl fun w h => len64 x w) rfl (fun b7 => ?_)
  refine wpl_q (q_pure rfl) rfl <| wpl_nil <| ex_then <| wpc_ret ?_
  refine ret1 (.inl rfl) rfl rfl ?_
  exact fun w h => ⟨rfl, h.below⟩
theorem wide (n : Nat) (w : World)  (hn : n < 16777216) :
    Calls Try.prog 99 [.int .i64 ((n : Nat) : Int)].toArray w (Pur w (.int .i64 ((wideF n : Nat) : Int))) := by
  refine enter (m := 11) (R := Mem w [] [] []) Try.func99 rfl rfl (Nat.le_of_ble_eq_true rfl) (Mem.start w) ?_
  refine wpc_seq <| wpc_region <| wpl_q (q_pure rfl) rfl <| wpl_nil <| ex_then <| wpc_seq <| wpc_seq <| wpc_region <| wpl_q (q_pure rfl) rfl <| wpl_q (q_pure rfl) rfl <| wpl_nil <| ex_then ?_
  refine wpc_cond rfl (fun hc4 => ?_) (fun hc4 => ?_)
  ·
   simp only [decide_eq_true_eq] at hc4
   refine wpc_seq <| wpc_region <| wpl_q (q_pure rfl) rfl <| wpl_nil <| ex_then <| wpc_ret ?_
   refine ex_then_ret ?_
   refine ret1 (.inl rfl) rfl rfl ?_
   exact fun w h => ⟨by rw [wideF, if_pos zz11]; rfl, h.below⟩
  ·
   simp only [decide_eq_false_iff_not] at hc4
   refine wpc_skip <| ex_then <| wpc_seq <| wpc_region <| wpl_q (q_pure rfl) rfl <| wpl_q (q64_conv Try.underlying3 Try.underlying96 rfl) rfl ?_
   refine wpl_t (t_pur (v := .int .i64 ((lenF n : Nat) : Int)) Try.hb114 rfl fun w h => by have q := len_ (of64 ((n : Nat) : Int)) w; rw [of64_nat n zz11] at q; rw [of64_nat n zz11]; exact q) rfl (fun b7 => ?_)
   have hle := lenF_le (m := 24) (n := n) zz11
   refine wpl_q (q_addN (b := 7) rfl rfl zz0) rfl ?_
   refine wpl_q (q_quoN (b := 8) rfl rfl zz29 zz0) rfl ?_
   refine wpl_q (q_addN (a := 1) rfl rfl zz0) rfl ?_
   refine wpl_q (q_pure rfl) rfl <| wpl_nil <| ex_then <| wpc_ret ?_
   refine ret1 (.inl rfl) rfl rfl ?_
   exact fun w h => ⟨by rw [wideF, if_neg zz11], h.below⟩
theorem refLength (n : Nat) (w : World)  (hn : n < 16777216) :
    Calls Try.prog 77 [.int .i64 ((n : Nat) : Int)].toArray w (GivesP w (fun v : Value => SV v (lenB n).length) (fun v => v) (fun v => [.row v (lenB n).length 5 1 (v8s (lenB n))]) (fun _ => [])) := by
  refine enter (m := 33) (R := Mem w [] [] []) Try.func77 rfl rfl (Nat.le_of_ble_eq_true rfl) (Mem.start w) ?_
  refine wpc_seq <| wpc_region <| wpl_q (q_pure rfl) rfl <| wpl_nil <| ex_then <| wpc_seq <| wpc_seq <| wpc_region <| wpl_q (q_pure rfl) rfl <| wpl_q (q_pure rfl) rfl <| wpl_nil <| ex_then ?_
  refine wpc_cond rfl (fun hc4 => ?_) (fun hc4 => ?_)
  ·
   simp only [decide_eq_true_eq] at hc4
   refine wpc_seq <| wpc_region <| wpl_q (q_pure rfl) rfl <| wpl_q (q8_conv Try.underlying3 Try.underlying5 rfl) rfl ?_
   refine wpl_tp (t_bsV (v8s [_]) Try.underlying43 Try.ti5 rfl rfl zz18 zz18 rfl (v8s_one _)) rfl (fun b7 p7 => ?_)
   refine wpl_q (q_pure rfl) rfl <| wpl_nil <| ex_then <| wpc_ret ?_
   refine ex_then_ret ?_
   refine ret1 (.inl rfl) rfl rfl ?_
   exact fun w h => ⟨b7, by rw [lenB, if_pos zz11]; exact p7, rfl, h.below, by rw [lenB, if_pos zz11]; exact h.made SubC.h .nil⟩
  ·
   simp only [decide_eq_false_iff_not] at hc4
   refine wpc_skip <| ex_then <| wpc_seq <| wpc_seq <| wpc_region <| wpl_q (q_pure rfl) rfl <| wpl_q (q_pure rfl) rfl <| wpl_nil <| ex_then ?_
   refine wpc_cond rfl (fun hc9 => ?_) (fun hc9 => ?_)
   ·
    simp only [decide_eq_true_eq] at hc9
    refine wpc_seq <| wpc_region <| wpl_q (q_pure rfl) rfl <| wpl_q (q8_conv Try.underlying3 Try.underlying5 rfl) rfl ?_
    refine wpl_tp (t_bsV (v8s [(129 : UInt8), _]) Try.underlying43 Try.ti5 rfl rfl zz18 zz18 rfl (v8s_one _)) rfl (fun b12 p12 => ?_)
    refine wpl_q (q_pure rfl) rfl <| wpl_nil <| ex_then <| wpc_ret ?_
    refine ex_then_ret ?_
    refine ret1 (.inl rfl) rfl rfl ?_
    exact fun w h => ⟨b12, by rw [lenB, if_neg zz11, if_pos zz11]; exact p12, rfl, h.below, by rw [lenB, if_neg zz11, if_pos zz11]; exact h.made SubC.h .nil⟩
   ·
    simp only [decide_eq_false_iff_not] at hc9
    refine wpc_skip <| ex_then <| wpc_seq <| wpc_seq <| wpc_region <| wpl_q (q_pure rfl) rfl <| wpl_q (q_pure rfl) rfl <| wpl_nil <| ex_then ?_
    refine wpc_cond rfl (fun hc14 => ?_) (fun hc14 => ?_)
    ·
     simp only [decide_eq_true_eq] at hc14
     refine wpc_seq <| wpc_region <| wpl_q (q_pure rfl) rfl ?_
     refine wpl_q (q_quoN (b := 256) rfl rfl zz29 zz0) rfl ?_
     refine wpl_q (q8_conv Try.underlying3 Try.underlying5 rfl) rfl <| wpl_q (q_pure rfl) rfl ?_
     refine wpl_q (q_remN (b := 256) rfl rfl zz29) rfl ?_
     refine wpl_q (q8_conv Try.underlying3 Try.underlying5 rfl) rfl ?_
     refine wpl_tp (t_bsV (v8s [(130 : UInt8), _, _]) Try.underlying43 Try.ti5 rfl rfl zz18 zz18 rfl (v8s_one _)) rfl (fun b21 p21 => ?_)
     refine wpl_q (q_pure rfl) rfl <| wpl_nil <| ex_then <| wpc_ret ?_
     refine ex_then_ret ?_
     refine ret1 (.inl rfl) rfl rfl ?_
     exact fun w h => ⟨b21, by rw [lenB, if_neg zz11, if_neg zz11, if_pos zz11]; exact p21, rfl, h.below, by rw [lenB, if_neg zz11, if_neg zz11, if_pos zz11]; exact h.made SubC.h .nil⟩
    ·
     simp only [decide_eq_false_iff_not] at hc14
     refine wpc_skip <| ex_then <| wpc_seq <| wpc_region <| wpl_q (q_pure rfl) rfl ?_
     refine wpl_q (q_quoN (b := 65536) rfl rfl zz29 zz0) rfl ?_
     refine wpl_q (q8_conv Try.underlying3 Try.underlying5 rfl) rfl <| wpl_q (q_pure rfl) rfl ?_
     refine wpl_q (q_quoN (b := 256) rfl rfl zz29 zz0) rfl ?_
     refine wpl_q (q_remN (b := 256) rfl rfl zz29) rfl ?_
     refine wpl_q (q8_conv Try.underlying3 Try.underlying5 rfl) rfl <| wpl_q (q_pure rfl) rfl ?_
     refine wpl_q (q_remN (b := 256) rfl rfl zz29) rfl ?_
     refine wpl_q (q8_conv Try.underlying3 Try.underlying5 rfl) rfl ?_
     refine wpl_tp (t_bsV (v8s [(131 : UInt8), _, _, _]) Try.underlying43 Try.ti5 rfl rfl zz18 zz18 rfl (v8s_one _)) rfl (fun b32 p32 => ?_)
     refine wpl_q (q_pure rfl) rfl <| wpl_nil <| ex_then <| wpc_ret ?_
     refine ret1 (.inl rfl) rfl rfl ?_
     exact fun w h => ⟨b32, by rw [lenB, if_neg zz11, if_neg zz11, if_neg zz11]; exact p32, rfl, h.below, by rw [lenB, if_neg zz11, if_neg zz11, if_neg zz11]; exact h.made SubC.h .nil⟩
end Go.Proofs.Ytgnablliekgbgaa
namespace Go.Proofs.Ytgnablliekgbgaa
open Go Go.PL Go.RowKit
mutual
def Tr.cnt : Tr → Nat
  | .nd _ _ l => 1 + cntL l
def cntL : List Tr → Nat
  | [] => 0
  | x :: l => x.cnt + cntL l
end
mutual
def Tr.dep : Tr → Nat
  | .nd _ _ l => depL l + 1
def depL : List Tr → Nat
  | [] => 0
  | x :: l => max x.dep (depL l)
end
mutual
def Tr.byt : Tr → Nat
  | .nd _ bs l => bs.length + bytL l
def bytL : List Tr → Nat
  | [] => 0
  | x :: l => x.byt + bytL l
end
mutual
def Tr.siz : Tr → Nat
  | .nd _ bs l => 1 + wideF (bs.length + sizL l) + (bs.length + sizL l)
def sizL : List Tr → Nat
  | [] => 0
  | x :: l => x.siz + sizL l
end
def badT (t : UInt8) (b n : Nat) : Bool := decide (t = 0) || (decide (t < 128) && decide (0 < n)) || (decide (128 ≤ t) && decide (0 < b))
mutual
def Tr.shp : Tr → Bool
  | .nd t bs l => !badT t bs.length l.length && shpL l
def shpL : List Tr → Bool
  | [] => true
  | x :: l => x.shp && shpL l
end
theorem cntL_app : ∀ (a b : List Tr), cntL (a ++ b) = cntL a + cntL b
  | [], b => by simp [cntL]
  | x :: a, b => by rw [List.cons_append, cntL, cntL, cntL_app a b]; omega
theorem bytL_app : ∀ (a b : List Tr), bytL (a ++ b) = bytL a + bytL b
  | [], b => by simp [bytL]
  | x :: a, b => by rw [List.cons_append, bytL, bytL, bytL_app a b]; omega
theorem sizL_app : ∀ (a b : List Tr), sizL (a ++ b) = sizL a + sizL b
  | [], b => by simp [sizL]
  | x :: a, b => by rw [List.cons_append, sizL, sizL, sizL_app a b]; omega
theorem depL_app : ∀ (a b : List Tr), depL (a ++ b) = max (depL a) (depL b)
  | [], b => by simp [depL]
  | x :: a, b => by rw [List.cons_append, depL, depL, depL_app a b]; omega
theorem shpL_app : ∀ (a b : List Tr), shpL (a ++ b) = (shpL a && shpL b)
  | [], b => by simp [shpL]
  | x :: a, b => by rw [List.cons_append, shpL, shpL, shpL_app a b, Bool.and_assoc]
section
variable {l : List HT} {i : Nat} (h : i < l.length)
include h
theorem trs_takeS : trs (l.take (i + 1)) = trs (l.take i) ++ [(l.getD i HT.z).tr] := by rw [take_succD HT.z h, trs_append]; rfl
theorem trs_split : trs l = trs (l.take i) ++ (l.getD i HT.z).tr :: trs (l.drop (i + 1)) := by
  conv => lhs; rw [← List.take_append_drop i l, drop_consD HT.z h, trs_append]
  rfl
theorem cntL_take : cntL (trs (l.take (i + 1))) = cntL (trs (l.take i)) + (l.getD i HT.z).tr.cnt := by rw [trs_takeS h, cntL_app]; rfl
theorem sizL_take : sizL (trs (l.take (i + 1))) = sizL (trs (l.take i)) + (l.getD i HT.z).tr.siz := by rw [trs_takeS h, sizL_app]; rfl
theorem depL_take : depL (trs (l.take (i + 1))) = max (depL (trs (l.take i))) (l.getD i HT.z).tr.dep := by rw [trs_takeS h, depL_app]; simp [depL]
theorem shpL_take : shpL (trs (l.take (i + 1))) = (shpL (trs (l.take i)) && (l.getD i HT.z).tr.shp) := by rw [trs_takeS h, shpL_app]; simp [shpL]
theorem cntL_kid : cntL (trs (l.take i)) + (l.getD i HT.z).tr.cnt ≤ cntL (trs l) := by rw [trs_split h, cntL_app, cntL]; omega
theorem bytL_kid : bytL (trs (l.take i)) + (l.getD i HT.z).tr.byt ≤ bytL (trs l) := by rw [trs_split h, bytL_app, bytL]; omega
theorem sizL_kid : sizL (trs (l.take i)) + (l.getD i HT.z).tr.siz ≤ sizL (trs l) := by rw [trs_split h, sizL_app, sizL]; omega
theorem depL_kid : (l.getD i HT.z).tr.dep ≤ depL (trs l) := by rw [trs_split h, depL_app, depL]; omega
end
theorem cnt_pos (t : Tr) : 1 ≤ t.cnt := by cases t; rw [Tr.cnt]; omega
theorem cntL_len : ∀ l : List Tr, l.length ≤ cntL l
  | [] => Nat.le_refl _
  | x :: l => by have := cntL_len l; have := cnt_pos x; rw [cntL, List.length_cons]; omega
def Sm (t : Tr) : Prop := t.byt + 5 * t.cnt ≤ 1000000
theorem Sm.kid {tg : UInt8} {bv lv : Value} {bs : List UInt8} {l : List HT} (h : Sm (HT.nd tg bv bs lv l).tr) {i : Nat} (hi : i < l.length) : Sm (l.getD i HT.z).tr := by
  have h1 := cntL_kid hi
  have h2 := bytL_kid hi
  have h : bs.length + bytL (trs l) + 5 * (1 + cntL (trs l)) ≤ 1000000 := h
  unfold Sm; omega
theorem siz_le : ∀ t : Tr, Sm t → t.siz ≤ t.byt + 5 * t.cnt := by
  intro t
  induction t using Tr.ind with
  | _ tg bs l ih =>
    intro h
    have h : bs.length + bytL l + 5 * (1 + cntL l) ≤ 1000000 := h
    have key : ∀ m : List Tr, (∀ x ∈ m, x ∈ l) → bytL m + 5 * cntL m ≤ 1000000 → sizL m ≤ bytL m + 5 * cntL m := by
      intro m
      induction m with
      | nil => intro _ _; exact Nat.le_refl _
      | cons x m ihm =>
        intro hm hb
        rw [bytL, cntL] at hb
        have h1 := ih x (hm x (List.mem_cons_self ..)) (by unfold Sm; omega)
        have h2 := ihm (fun y hy => hm y (List.mem_cons_of_mem _ hy)) zz11
        rw [sizL, bytL, cntL]; omega
    have h1 := key l (fun _ hx => hx) zz11
    have h2 := wideF_le (bs.length + sizL l) zz11
    rw [Tr.siz, Tr.byt, Tr.cnt]; omega
theorem content_le {t : UInt8} {bs : List UInt8} {l : List Tr} (h : Sm (.nd t bs l)) : bs.length + sizL l ≤ 1000000 := by
  have h1 := siz_le _ h
  have h2 : bs.length + bytL l + 5 * (1 + cntL l) ≤ 1000000 := h
  rw [Tr.siz, Tr.byt, Tr.cnt] at h1; omega
theorem size_step (t : HT) (w : World) (ht : HSeen w.cell? t) (hsm : Sm t.tr) (ih : ∀ x ∈ t.kids, ∀ (w : World), HSeen w.cell? x → Sm x.tr → Calls Try.prog 98 [.agg x.c.toArray].toArray w (Pur w (.int .i64 ((x.tr.siz : Nat) : Int)))) :
    Calls Try.prog 98 [.agg t.c.toArray].toArray w (Pur w (.int .i64 ((t.tr.siz : Nat) : Int))) := by
  obtain ⟨tg, bv, bs, lv, l⟩ := t
  have hb := ht.1
  have hk := ht.2.1
  have svb := hb.sv
  have svl := hk.sv
  have lb := svb.le
  have ll := svl.le
  simp only [maxLen] at lb ll
  refine enter (m := 26) (R := Mem w [] [] []) Try.func98 rfl rfl (Nat.le_of_ble_eq_true rfl) (Mem.start w) ?_
  refine wpc_seq <| wpc_region ?_
  refine wpl_t (t_box rfl [.int .u8 (tg.toNat : Int), bv, lv] rfl) rfl (fun b1 => ?_)
  refine wpl_q (q_pure rfl) rfl <| wpl_nil <| ex_then <| wpc_seq <| wpc_region <| wpl_q (q_field Try.underlying72 rfl Try.ti43 rfl rfl _ rfl) rfl <| wpl_q (q_ld Try.underlying43 rfl rfl rfl) rfl ?_
  refine wpl_q (q_lenW Try.underlying43 rfl zz2) rfl ?_
  refine wpl_q (q_pure rfl) rfl <| wpl_nil <| ex_then <| wpc_seq <| wpc_seq <| wpc_region <| wpl_q (q_field Try.underlying72 rfl Try.ti70 rfl rfl _ rfl) rfl <| wpl_q (q_ld Try.underlying70 rfl rfl rfl) rfl ?_
  refine wpl_q (q_lenW Try.underlying70 rfl zz2) rfl ?_
  refine wpl_q (q_pure rfl) rfl <| wpl_nil <| ex_then <| wpc_block ?_
  refine wpc_loopc (ι := { x : Nat // (x ≤ l.length) }) [(10, _), (11, _)] (fun x Lc => (12, .int .i64 ((x.1 : Nat) : Int)) :: (3, .int .i64 ((bs.length + sizL (trs (l.take x.1)) : Nat) : Int)) :: Lc) (fun x => Mem w [] [] []) (fun x => l.length - x.1) ⟨0, (Nat.zero_le _)⟩ zz7 ?_ ?_
  ·
   exact fun w h => h.sub .nil .nil
  ·
   rintro ⟨i, hi0⟩; try dsimp only
   have hi0 : i ≤ l.length := hi0
   refine wpc_seq <| wpc_region <| wpl_q (q_pure rfl) rfl <| wpl_nil <| ex_then <| wpc_seq ?_
   refine wpc_cond rfl (fun hc13 => ?_) (fun hc13 => ?_)
   ·
    simp only [decide_eq_true_eq] at hc13
    have hil : i < l.length := by omega
    haveI := (ht.kid hil).sv.one
    have hs1 := sizL_take hil
    have hs2 := sizL_kid hil
    have hs3 := content_le hsm
    refine wpc_skip <| ex_then <| wpc_seq <| wpc_block <| wpc_seq <| wpc_region ?_
    refine wpl_q (q_idxW Try.underlying70 Try.ti72 rfl rfl zz2 zz0) rfl ?_
    refine wpl_q (q_ldWN Try.underlying72 rfl Try.ti72 rfl (fun w h => h.seen_old hk) (l.getD i HT.z).c (cat_part HT.c_length HT.z hil) (HT.c_length _)) rfl ?_
    refine wpl_t (t_alloc Try.ti72 HT.z.c rfl) rfl (fun b5 => ?_)
    refine wpl_t0 (t_stA Try.ti72 rfl rfl LenC.h OneC.h LenC.h) (fun _ => ?_)
    refine wpl_nil <| ex_then <| wpc_region <| wpl_q (q_pure rfl) rfl <| wpl_q (q_ldN Try.underlying72 rfl Try.ti72 rfl LenC.h) rfl ?_
    refine wpl_t (t_pur Try.hb98 rfl fun w h => ih (l.getD i HT.z) (getD_memH hil) w ((ht.kid hil).old h) (hsm.kid hil)) rfl (fun b18 => ?_)
    refine wpl_q (q_addN rfl rfl zz0) rfl ?_
    refine wpl_re 19 rfl (congrArg (fun n : Nat => Value.int .i64 (n : Int)) (show bs.length + sizL (trs (l.take i)) + (l.getD i HT.z).tr.siz = bs.length + sizL (trs (l.take (i + 1))) from zz11)) ?_
    refine wpl_q (q_pure rfl) rfl <| wpl_nil <| ex_block <| ex_then <| wpc_region ?_
    refine wpl_q (q_addN (b := 1) rfl rfl zz0) rfl ?_
    refine wpl_q (q_pure rfl) rfl <| wpl_nil ?_
    refine ex_again ⟨i + 1, zz11⟩ ?_ ?_ ?_
    ·
     exact zz7
    ·
     exact fun w h => h.sub .nil .nil
    ·
     (show l.length - (i + 1) < l.length - i); omega
   ·
    simp only [decide_eq_false_iff_not] at hc13
    obtain rfl : i = l.length := by omega
    rw [List.take_length]
    have hs3 := content_le hsm
    have hw := wideF_le (bs.length + sizL (trs l)) zz11
    refine wpc_exit ?_
    refine ex_then_exit ?_
    refine ex_then_exit ?_
    refine ex_block_hit ?_
    refine ex_then <| wpc_seq <| wpc_region <| wpl_q (q_pure rfl) rfl ?_
    refine wpl_t (t_pur Try.hb99 rfl fun w h => wide _ w zz11) rfl (fun b22 => ?_)
    refine wpl_q (q_addN (a := 1) rfl rfl zz0) rfl ?_
    refine wpl_q (q_pure rfl) rfl ?_
    refine wpl_q (q_addN rfl rfl zz0) rfl ?_
    refine wpl_q (q_pure rfl) rfl <| wpl_nil <| ex_then <| wpc_ret ?_
    refine ret1 (.inl rfl) rfl rfl ?_
    exact fun w h => ⟨rfl, h.below⟩
theorem size : ∀ (t : HT) (w : World), HSeen w.cell? t → Sm t.tr → Calls Try.prog 98 [.agg t.c.toArray].toArray w (Pur w (.int .i64 ((t.tr.siz : Nat) : Int))) := by
  intro t
  induction t using HT.ind with
  | _ tg bv bs lv l ih => intro w h hs; exact size_step _ w h hs (fun x hx w hx' hs' => ih x hx w hx' hs')
end Go.Proofs.Ytgnablliekgbgaa
namespace Go.Proofs.Ytgnablliekgbgaa
open Go Go.PL Go.RowKit
section
variable {P : Program} {n : Cx} {R : World → Prop} {L : Slots}
theorem q_maxN {x y : Operand} {at_ : Array TypeId} {a b : Nat} (hx : ev L x = some (.int .i64 ((a : Nat) : Int))) (hy : ev L y = some (.int .i64 ((b : Nat) : Int))) :
    QOp P n R L (.call { callee := .builtin .max, args := #[x, y], argTypes := at_ }) (.int .i64 ((max a b : Nat) : Int)) := by
  intro d ty pos af g ac w hs _
  simp only [execOp, resolve, invoke, builtin, List.map_toArray, List.map_cons, List.map_nil, hs.eval hx, hs.eval hy]
  simp [run_max_int2]
  split <;> omega
end
theorem badT_iff {t : UInt8} {b n : Nat} : badT t b n = true ↔ t.toNat = 0 ∨ (t.toNat < 128 ∧ 0 < n) ∨ (128 ≤ t.toNat ∧ 0 < b) := by
  have h1 : t = 0 ↔ t.toNat = 0 := ⟨fun h => by rw [h]; rfl, fun h => UInt8.toNat_inj.1 h⟩
  have h2 : t < 128 ↔ t.toNat < 128 := UInt8.lt_iff_toNat_lt
  have h3 : 128 ≤ t ↔ 128 ≤ t.toNat := UInt8.le_iff_toNat_le
  simp only [badT, Bool.or_eq_true, Bool.and_eq_true, decide_eq_true_eq, or_assoc, h1, h2, h3]
theorem shp_bad {t : UInt8} {bs : List UInt8} {l : List Tr} (h : t.toNat = 0 ∨ (t.toNat < 128 ∧ 0 < l.length) ∨ (128 ≤ t.toNat ∧ 0 < bs.length)) : Tr.shp (.nd t bs l) = false := by
  rw [Tr.shp, badT_iff.2 h]; rfl
theorem shp_good {t : UInt8} {bs : List UInt8} {l : List Tr} (h : ¬ (t.toNat = 0 ∨ (t.toNat < 128 ∧ 0 < l.length) ∨ (128 ≤ t.toNat ∧ 0 < bs.length))) : Tr.shp (.nd t bs l) = shpL l := by
  rw [Tr.shp, Bool.eq_false_iff.2 (fun hh => h (badT_iff.1 hh))]; rfl
theorem shpL_bad {l : List HT} {i : Nat} (h : i < l.length) (h2 : (l.getD i HT.z).tr.shp = false) : shpL (trs l) = false := by
  rw [trs_split h, shpL_app, shpL, h2]; simp
theorem tg0 {t : UInt8} : (t == 0) = true → t.toNat = 0 := fun h => by rw [beq_iff_eq] at h; rw [h]; rfl
theorem tg1 {t : UInt8} : (t == 0) = false → ¬ t.toNat = 0 := fun h hh => by
  have : t = 0 := UInt8.toNat_inj.1 hh
  rw [this] at h; exact absurd h zz18
theorem refSize_step (t : HT) (w : World) (ht : HSeen w.cell? t) (hsm : Sm t.tr) (ih : ∀ x ∈ t.kids, ∀ (w : World), HSeen w.cell? x → Sm x.tr → Calls Try.prog 112 [.agg x.c.toArray].toArray w (Pur w (.int .i64 ((x.tr.siz : Nat) : Int)))) :
    Calls Try.prog 112 [.agg t.c.toArray].toArray w (Pur w (.int .i64 ((t.tr.siz : Nat) : Int))) := by
  obtain ⟨tg, bv, bs, lv, l⟩ := t
  have hb := ht.1
  have hk := ht.2.1
  have svb := hb.sv
  have svl := hk.sv
  have lb := svb.le
  have ll := svl.le
  simp only [maxLen] at lb ll
  refine enter (m := 29) (R := Mem w [] [] []) Try.func112 rfl rfl (Nat.le_of_ble_eq_true rfl) (Mem.start w) ?_
  refine wpc_seq <| wpc_region ?_
  refine wpl_t (t_box rfl [.int .u8 (tg.toNat : Int), bv, lv] rfl) rfl (fun b1 => ?_)
  refine wpl_q (q_pure rfl) rfl <| wpl_nil <| ex_then <| wpc_seq <| wpc_region <| wpl_q (q_field Try.underlying72 rfl Try.ti43 rfl rfl _ rfl) rfl <| wpl_q (q_ld Try.underlying43 rfl rfl rfl) rfl ?_
  refine wpl_q (q_lenW Try.underlying43 rfl zz2) rfl ?_
  refine wpl_q (q_pure rfl) rfl <| wpl_nil <| ex_then <| wpc_seq <| wpc_seq <| wpc_region <| wpl_q (q_pure rfl) rfl <| wpl_nil <| ex_then <| wpc_block ?_
  refine wpc_loopc (ι := { x : Nat // (x ≤ l.length) }) [(1, _)] (fun x Lc => (4, .int .i64 ((x.1 : Nat) : Int)) :: (3, .int .i64 ((bs.length + sizL (trs (l.take x.1)) : Nat) : Int)) :: Lc) (fun x => Mem w [] [.blk b1 72 [.int .u8 (tg.toNat : Int), bv, lv]] []) (fun x => l.length - x.1) ⟨0, (Nat.zero_le _)⟩ zz7 ?_ ?_
  ·
   exact fun w h => h
  ·
   rintro ⟨i, hi0⟩; try dsimp only
   have hi0 : i ≤ l.length := hi0
   refine wpc_seq <| wpc_seq <| wpc_region <| wpl_q (q_pure rfl) rfl <| wpl_q (q_field Try.underlying72 rfl Try.ti70 rfl rfl _ rfl) rfl <| wpl_q (q_ld Try.underlying70 rfl rfl rfl) rfl ?_
   refine wpl_q (q_lenW Try.underlying70 rfl zz2) rfl ?_
   refine wpl_q (q_pure rfl) rfl <| wpl_nil <| ex_then ?_
   refine wpc_cond rfl (fun hc12 => ?_) (fun hc12 => ?_)
   ·
    simp only [decide_eq_true_eq] at hc12
    have hil : i < l.length := by omega
    haveI := (ht.kid hil).sv.one
    have hs1 := sizL_take hil
    have hs2 := sizL_kid hil
    have hs3 := content_le hsm
    refine wpc_skip <| ex_then <| wpc_seq <| wpc_block <| wpc_region <| wpl_q (q_pure rfl) rfl <| wpl_q (q_field Try.underlying72 rfl Try.ti70 rfl rfl _ rfl) rfl <| wpl_q (q_ld Try.underlying70 rfl rfl rfl) rfl <| wpl_q (q_pure rfl) rfl ?_
    refine wpl_q (q_idxW Try.underlying70 Try.ti72 rfl rfl zz2 zz0) rfl ?_
    refine wpl_q (q_ldWN Try.underlying72 rfl Try.ti72 rfl (fun w h => h.seen_old hk) (l.getD i HT.z).c (cat_part HT.c_length HT.z hil) (HT.c_length _)) rfl ?_
    refine wpl_t (t_pur Try.hb112 rfl fun w h => ih (l.getD i HT.z) (getD_memH hil) w ((ht.kid hil).old h) (hsm.kid hil)) rfl (fun b21 => ?_)
    refine wpl_q (q_addN rfl rfl zz0) rfl ?_
    refine wpl_re 22 rfl (congrArg (fun n : Nat => Value.int .i64 (n : Int)) (show bs.length + sizL (trs (l.take i)) + (l.getD i HT.z).tr.siz = bs.length + sizL (trs (l.take (i + 1))) from zz11)) ?_
    refine wpl_q (q_pure rfl) rfl <| wpl_nil <| ex_block <| ex_then <| wpc_region <| wpl_q (q_pure rfl) rfl ?_
    refine wpl_q (q_addN (b := 1) rfl rfl zz0) rfl ?_
    refine wpl_q (q_pure rfl) rfl <| wpl_nil ?_
    refine ex_again ⟨i + 1, zz11⟩ ?_ ?_ ?_
    ·
     exact zz7
    ·
     exact fun w h => h
    ·
     (show l.length - (i + 1) < l.length - i); omega
   ·
    simp only [decide_eq_false_iff_not] at hc12
    obtain rfl : i = l.length := by omega
    rw [List.take_length]
    have hs3 := content_le hsm
    have hw := wideF_le (bs.length + sizL (trs l)) zz11
    have hw2 := lenB_length (n := bs.length + sizL (trs l)) zz11
    refine wpc_exit ?_
    refine ex_then_exit ?_
    refine ex_then_exit ?_
    refine ex_block_hit ?_
    refine ex_then <| wpc_seq <| wpc_region <| wpl_q (q_pure rfl) rfl ?_
    refine wpl_tp (t_callP1 Try.hb77 rfl fun w h => refLength _ w zz11) rfl (fun b24 p24 => ?_)
    refine wpl_q (q_lenW Try.underlying43 rfl zz2) rfl ?_
    refine wpl_q (q_addN (a := 1) rfl rfl zz0) rfl ?_
    refine wpl_q (q_pure rfl) rfl ?_
    refine wpl_q (q_addN rfl rfl zz0) rfl ?_
    refine wpl_q (q_pure rfl) rfl <| wpl_nil <| ex_then <| wpc_ret ?_
    refine ret1 (.inl rfl) rfl rfl ?_
    exact fun w h => ⟨by rw [hw2]; rfl, h.below⟩
theorem refSize : ∀ (t : HT) (w : World), HSeen w.cell? t → Sm t.tr → Calls Try.prog 112 [.agg t.c.toArray].toArray w (Pur w (.int .i64 ((t.tr.siz : Nat) : Int))) := by
  intro t
  induction t using HT.ind with
  | _ tg bv bs lv l ih => intro w h hs; exact refSize_step _ w h hs (fun x hx w hx' hs' => ih x hx w hx' hs')
theorem refCount_step (t : HT) (w : World) (ht : HSeen w.cell? t) (hsm : t.tr.cnt ≤ 1000000) (ih : ∀ x ∈ t.kids, ∀ (w : World), HSeen w.cell? x → x.tr.cnt ≤ 1000000 → Calls Try.prog 109 [.agg x.c.toArray].toArray w (Pur w (.int .i64 ((x.tr.cnt : Nat) : Int)))) :
    Calls Try.prog 109 [.agg t.c.toArray].toArray w (Pur w (.int .i64 ((t.tr.cnt : Nat) : Int))) := by
  obtain ⟨tg, bv, bs, lv, l⟩ := t
  have hb := ht.1
  have hk := ht.2.1
  have svb := hb.sv
  have svl := hk.sv
  have lb := svb.le
  have ll := svl.le
  simp only [maxLen] at lb ll
  refine enter (m := 21) (R := Mem w [] [] []) Try.func109 rfl rfl (Nat.le_of_ble_eq_true rfl) (Mem.start w) ?_
  refine wpc_seq <| wpc_region ?_
  refine wpl_t (t_box rfl [.int .u8 (tg.toNat : Int), bv, lv] rfl) rfl (fun b1 => ?_)
  refine wpl_q (q_pure rfl) rfl <| wpl_nil <| ex_then <| wpc_seq <| wpc_region <| wpl_q (q_pure rfl) rfl <| wpl_nil <| ex_then <| wpc_seq <| wpc_seq <| wpc_region <| wpl_q (q_pure rfl) rfl ?_
  refine wpl_nil <| ex_then <| wpc_block ?_
  refine wpc_loopc (ι := { x : Nat // (x ≤ l.length) }) [(1, _)] (fun x Lc => (4, .int .i64 ((x.1 : Nat) : Int)) :: (3, .int .i64 ((1 + cntL (trs (l.take x.1)) : Nat) : Int)) :: Lc) (fun x => Mem w [] [.blk b1 72 [.int .u8 (tg.toNat : Int), bv, lv]] []) (fun x => l.length - x.1) ⟨0, (Nat.zero_le _)⟩ zz7 ?_ ?_
  ·
   exact fun w h => h
  ·
   rintro ⟨i, hi0⟩; try dsimp only
   have hi0 : i ≤ l.length := hi0
   refine wpc_seq <| wpc_seq <| wpc_region <| wpl_q (q_pure rfl) rfl <| wpl_q (q_field Try.underlying72 rfl Try.ti70 rfl rfl _ rfl) rfl <| wpl_q (q_ld Try.underlying70 rfl rfl rfl) rfl ?_
   refine wpl_q (q_lenW Try.underlying70 rfl zz2) rfl ?_
   refine wpl_q (q_pure rfl) rfl <| wpl_nil <| ex_then ?_
   refine wpc_cond rfl (fun hc9 => ?_) (fun hc9 => ?_)
   ·
    simp only [decide_eq_true_eq] at hc9
    have hil : i < l.length := by omega
    haveI := (ht.kid hil).sv.one
    have hs1 := cntL_take hil
    have hs2 := cntL_kid hil
    have hs3 : 1 + cntL (trs l) ≤ 1000000 := hsm
    refine wpc_skip <| ex_then <| wpc_seq <| wpc_block <| wpc_region <| wpl_q (q_pure rfl) rfl <| wpl_q (q_field Try.underlying72 rfl Try.ti70 rfl rfl _ rfl) rfl <| wpl_q (q_ld Try.underlying70 rfl rfl rfl) rfl <| wpl_q (q_pure rfl) rfl ?_
    refine wpl_q (q_idxW Try.underlying70 Try.ti72 rfl rfl zz2 zz0) rfl ?_
    refine wpl_q (q_ldWN Try.underlying72 rfl Try.ti72 rfl (fun w h => h.seen_old hk) (l.getD i HT.z).c (cat_part HT.c_length HT.z hil) (HT.c_length _)) rfl ?_
    refine wpl_t (t_pur Try.hb109 rfl fun w h => ih (l.getD i HT.z) (getD_memH hil) w ((ht.kid hil).old h) (show (l.getD i HT.z).tr.cnt ≤ 1000000 from zz11)) rfl (fun b18 => ?_)
    refine wpl_q (q_addN rfl rfl zz0) rfl ?_
    refine wpl_re 19 rfl (congrArg (fun n : Nat => Value.int .i64 (n : Int)) (show 1 + cntL (trs (l.take i)) + (l.getD i HT.z).tr.cnt = 1 + cntL (trs (l.take (i + 1))) from zz11)) ?_
    refine wpl_q (q_pure rfl) rfl <| wpl_nil <| ex_block <| ex_then <| wpc_region <| wpl_q (q_pure rfl) rfl ?_
    refine wpl_q (q_addN (b := 1) rfl rfl zz0) rfl ?_
    refine wpl_q (q_pure rfl) rfl <| wpl_nil ?_
    refine ex_again ⟨i + 1, zz11⟩ ?_ ?_ ?_
    ·
     exact zz7
    ·
     exact fun w h => h
    ·
     (show l.length - (i + 1) < l.length - i); omega
   ·
    simp only [decide_eq_false_iff_not] at hc9
    obtain rfl : i = l.length := by omega
    rw [List.take_length]
    refine wpc_exit ?_
    refine ex_then_exit ?_
    refine ex_then_exit ?_
    refine ex_block_hit ?_
    refine ex_then <| wpc_seq <| wpc_region <| wpl_q (q_pure rfl) rfl <| wpl_q (q_pure rfl) rfl <| wpl_nil <| ex_then <| wpc_ret ?_
    refine ret1 (.inl rfl) rfl rfl ?_
    exact fun w h => ⟨rfl, h.below⟩
theorem refCount : ∀ (t : HT) (w : World), HSeen w.cell? t → t.tr.cnt ≤ 1000000 → Calls Try.prog 109 [.agg t.c.toArray].toArray w (Pur w (.int .i64 ((t.tr.cnt : Nat) : Int))) := by
  intro t
  induction t using HT.ind with
  | _ tg bv bs lv l ih => intro w h hs; exact refCount_step _ w h hs (fun x hx w hx' hs' => ih x hx w hx' hs')
theorem refDepth_step (t : HT) (w : World) (ht : HSeen w.cell? t) (hsm : t.tr.dep ≤ 1000000) (ih : ∀ x ∈ t.kids, ∀ (w : World), HSeen w.cell? x → x.tr.dep ≤ 1000000 → Calls Try.prog 110 [.agg x.c.toArray].toArray w (Pur w (.int .i64 ((x.tr.dep : Nat) : Int)))) :
    Calls Try.prog 110 [.agg t.c.toArray].toArray w (Pur w (.int .i64 ((t.tr.dep : Nat) : Int))) := by
  obtain ⟨tg, bv, bs, lv, l⟩ := t
  have hb := ht.1
  have hk := ht.2.1
  have svb := hb.sv
  have svl := hk.sv
  have lb := svb.le
  have ll := svl.le
  simp only [maxLen] at lb ll
  refine enter (m := 22) (R := Mem w [] [] []) Try.func110 rfl rfl (Nat.le_of_ble_eq_true rfl) (Mem.start w) ?_
  refine wpc_seq <| wpc_region ?_
  refine wpl_t (t_box rfl [.int .u8 (tg.toNat : Int), bv, lv] rfl) rfl (fun b1 => ?_)
  refine wpl_q (q_pure rfl) rfl <| wpl_nil <| ex_then <| wpc_seq <| wpc_region <| wpl_q (q_pure rfl) rfl <| wpl_nil <| ex_then <| wpc_seq <| wpc_seq <| wpc_region <| wpl_q (q_pure rfl) rfl ?_
  refine wpl_nil <| ex_then <| wpc_block ?_
  refine wpc_loopc (ι := { x : Nat // (x ≤ l.length) }) [(1, _)] (fun x Lc => (4, .int .i64 ((x.1 : Nat) : Int)) :: (3, .int .i64 ((depL (trs (l.take x.1)) : Nat) : Int)) :: Lc) (fun x => Mem w [] [.blk b1 72 [.int .u8 (tg.toNat : Int), bv, lv]] []) (fun x => l.length - x.1) ⟨0, (Nat.zero_le _)⟩ zz7 ?_ ?_
  ·
   exact fun w h => h
  ·
   rintro ⟨i, hi0⟩; try dsimp only
   have hi0 : i ≤ l.length := hi0
   refine wpc_seq <| wpc_seq <| wpc_region <| wpl_q (q_pure rfl) rfl <| wpl_q (q_field Try.underlying72 rfl Try.ti70 rfl rfl _ rfl) rfl <| wpl_q (q_ld Try.underlying70 rfl rfl rfl) rfl ?_
   refine wpl_q (q_lenW Try.underlying70 rfl zz2) rfl ?_
   refine wpl_q (q_pure rfl) rfl <| wpl_nil <| ex_then ?_
   refine wpc_cond rfl (fun hc9 => ?_) (fun hc9 => ?_)
   ·
    simp only [decide_eq_true_eq] at hc9
    have hil : i < l.length := by omega
    haveI := (ht.kid hil).sv.one
    have hs1 := depL_take hil
    have hs2 := depL_kid hil
    have hs3 : depL (trs l) + 1 ≤ 1000000 := hsm
    refine wpc_skip <| ex_then <| wpc_seq <| wpc_block <| wpc_region <| wpl_q (q_pure rfl) rfl <| wpl_q (q_field Try.underlying72 rfl Try.ti70 rfl rfl _ rfl) rfl <| wpl_q (q_ld Try.underlying70 rfl rfl rfl) rfl <| wpl_q (q_pure rfl) rfl ?_
    refine wpl_q (q_idxW Try.underlying70 Try.ti72 rfl rfl zz2 zz0) rfl ?_
    refine wpl_q (q_ldWN Try.underlying72 rfl Try.ti72 rfl (fun w h => h.seen_old hk) (l.getD i HT.z).c (cat_part HT.c_length HT.z hil) (HT.c_length _)) rfl ?_
    refine wpl_t (t_pur Try.hb110 rfl fun w h => ih (l.getD i HT.z) (getD_memH hil) w ((ht.kid hil).old h) (show (l.getD i HT.z).tr.dep ≤ 1000000 from zz11)) rfl (fun b18 => ?_)
    refine wpl_q (q_maxN rfl rfl) rfl ?_
    refine wpl_re 19 rfl (congrArg (fun n : Nat => Value.int .i64 (n : Int)) (show max (depL (trs (l.take i))) (l.getD i HT.z).tr.dep = depL (trs (l.take (i + 1))) from zz11)) ?_
    refine wpl_q (q_pure rfl) rfl <| wpl_nil <| ex_block <| ex_then <| wpc_region <| wpl_q (q_pure rfl) rfl ?_
    refine wpl_q (q_addN (b := 1) rfl rfl zz0) rfl ?_
    refine wpl_q (q_pure rfl) rfl <| wpl_nil ?_
    refine ex_again ⟨i + 1, zz11⟩ ?_ ?_ ?_
    ·
     exact zz7
    ·
     exact fun w h => h
    ·
     (show l.length - (i + 1) < l.length - i); omega
   ·
    simp only [decide_eq_false_iff_not] at hc9
    obtain rfl : i = l.length := by omega
    rw [List.take_length]
    have hs3 : depL (trs l) + 1 ≤ 1000000 := hsm
    refine wpc_exit ?_
    refine ex_then_exit ?_
    refine ex_then_exit ?_
    refine ex_block_hit ?_
    refine ex_then <| wpc_seq <| wpc_region <| wpl_q (q_pure rfl) rfl ?_
    refine wpl_q (q_addN (b := 1) rfl rfl zz0) rfl ?_
    refine wpl_q (q_pure rfl) rfl <| wpl_nil <| ex_then <| wpc_ret ?_
    refine ret1 (.inl rfl) rfl rfl ?_
    exact fun w h => ⟨rfl, h.below⟩
theorem refDepth : ∀ (t : HT) (w : World), HSeen w.cell? t → t.tr.dep ≤ 1000000 → Calls Try.prog 110 [.agg t.c.toArray].toArray w (Pur w (.int .i64 ((t.tr.dep : Nat) : Int))) := by
  intro t
  induction t using HT.ind with
  | _ tg bv bs lv l ih => intro w h hs; exact refDepth_step _ w h hs (fun x hx w hx' hs' => ih x hx w hx' hs')
theorem refShaped_step (t : HT) (w : World) (ht : HSeen w.cell? t) (hsm : True) (ih : ∀ x ∈ t.kids, ∀ (w : World), HSeen w.cell? x → True → Calls Try.prog 111 [.agg x.c.toArray].toArray w (Pur w (.bool x.tr.shp))) :
    Calls Try.prog 111 [.agg t.c.toArray].toArray w (Pur w (.bool t.tr.shp)) := by
  obtain ⟨tg, bv, bs, lv, l⟩ := t
  have hb := ht.1
  have hk := ht.2.1
  have svb := hb.sv
  have svl := hk.sv
  have lb := svb.le
  have ll := svl.le
  simp only [maxLen] at lb ll
  refine enter (m := 43) (R := Mem w [] [] []) Try.func111 rfl rfl (Nat.le_of_ble_eq_true rfl) (Mem.start w) ?_
  refine wpc_seq <| wpc_region ?_
  refine wpl_t (t_box rfl [.int .u8 (tg.toNat : Int), bv, lv] rfl) rfl (fun b1 => ?_)
  refine wpl_q (q_pure rfl) rfl <| wpl_nil <| ex_then <| wpc_seq <| wpc_seq <| wpc_region <| wpl_q (q_field Try.underlying72 rfl Try.ti5 rfl rfl _ rfl) rfl ?_
  refine wpl_q (q_ld Try.underlying5 rfl rfl zz19) rfl ?_
  refine wpl_q (q8_eql (b := (0 : UInt8)) rfl rfl) rfl ?_
  refine wpl_q (q_pure rfl) rfl ?_
  refine wpl_bool2 7 6 rfl rfl (fun hb7 => ?_) (fun hb7 => ?_)
  ·
   have h0 := tg0 hb7
   refine wpl_off rfl rfl rfl rfl <| wpl_off rfl rfl rfl rfl <| wpl_off rfl rfl rfl rfl <| wpl_off rfl rfl rfl rfl <| wpl_off rfl rfl rfl rfl <| wpl_off rfl rfl rfl rfl <| wpl_off rfl rfl rfl rfl <| wpl_off rfl rfl rfl rfl <| wpl_off rfl rfl rfl rfl <| wpl_q (q_pure rfl) rfl <| wpl_q (q_pure rfl) rfl <| wpl_off rfl rfl rfl rfl ?_
   refine wpl_off rfl rfl rfl rfl <| wpl_off rfl rfl rfl rfl <| wpl_off rfl rfl rfl rfl <| wpl_off rfl rfl rfl rfl <| wpl_off rfl rfl rfl rfl <| wpl_off rfl rfl rfl rfl <| wpl_off rfl rfl rfl rfl <| wpl_off rfl rfl rfl rfl <| wpl_q (q_pure rfl) rfl <| wpl_nil <| ex_then ?_
   refine wpc_cond_t rfl ?_
   refine wpc_seq <| wpc_region <| wpl_q (q_pure rfl) rfl <| wpl_nil <| ex_then <| wpc_ret ?_
   refine ex_then_ret ?_
   refine ret1 (.inl rfl) rfl rfl ?_
   exact fun w h => ⟨by
     have hb := shp_bad (t := tg) (bs := bs) (l := trs l) zz16
     show Ending.returned (.bool false) = .returned (.bool (Tr.shp (.nd tg bs (trs l))))
     rw [hb], h.below⟩
  ·
   have h0 := tg1 hb7
   refine wpl_on rfl rfl <| wpl_q (q_field Try.underlying72 rfl Try.ti5 rfl rfl _ rfl) rfl <| wpl_on rfl rfl ?_
   refine wpl_q (q_ld Try.underlying5 rfl rfl zz19) rfl ?_
   refine wpl_on rfl rfl <| wpl_q (q_pure rfl) rfl <| wpl_on rfl rfl <| wpl_q (q_pure rfl) rfl ?_
   refine wpl_bool2 11 10 rfl rfl (fun hb11 => ?_) (fun hb11 => ?_)
   ·
    refine wpl_on rfl rfl <| wpl_q (q_field Try.underlying72 rfl Try.ti70 rfl rfl _ rfl) rfl <| wpl_on rfl rfl <| wpl_q (q_ld Try.underlying70 rfl rfl rfl) rfl <| wpl_on rfl rfl ?_
    refine wpl_q (q_lenW Try.underlying70 rfl zz2) rfl ?_
    refine wpl_on rfl rfl <| wpl_q (q_pure rfl) rfl <| wpl_on rfl rfl <| wpl_q (q_pure rfl) rfl <| wpl_q (q_pure rfl) rfl <| wpl_q (q_pure rfl) rfl ?_
    refine wpl_bool2 18 15 rfl rfl (fun hb18 => ?_) (fun hb18 => ?_)
    ·
     refine wpl_off rfl rfl rfl rfl <| wpl_off rfl rfl rfl rfl <| wpl_off rfl rfl rfl rfl <| wpl_off rfl rfl rfl rfl <| wpl_off rfl rfl rfl rfl <| wpl_off rfl rfl rfl rfl <| wpl_off rfl rfl rfl rfl <| wpl_off rfl rfl rfl rfl <| wpl_off rfl rfl rfl rfl <| wpl_q (q_pure rfl) rfl <| wpl_nil <| ex_then ?_
     refine wpc_cond_t rfl ?_
     refine wpc_seq <| wpc_region <| wpl_q (q_pure rfl) rfl <| wpl_nil <| ex_then <| wpc_ret ?_
     refine ex_then_ret ?_
     refine ret1 (.inl rfl) rfl rfl ?_
     exact fun w h => ⟨by
       have hb := shp_bad (t := tg) (bs := bs) (l := trs l) zz16
       show Ending.returned (.bool false) = .returned (.bool (Tr.shp (.nd tg bs (trs l))))
       rw [hb], h.below⟩
    ·
     refine wpl_on rfl rfl <| wpl_q (q_field Try.underlying72 rfl Try.ti5 rfl rfl _ rfl) rfl <| wpl_on rfl rfl ?_
     refine wpl_q (q_ld Try.underlying5 rfl rfl zz19) rfl ?_
     refine wpl_on rfl rfl <| wpl_q (q_pure rfl) rfl <| wpl_on rfl rfl <| wpl_q (q_pure rfl) rfl ?_
     refine wpl_bool2 22 21 rfl rfl (fun hb22 => ?_) (fun hb22 => ?_)
     ·
      refine wpl_on rfl rfl <| wpl_q (q_field Try.underlying72 rfl Try.ti43 rfl rfl _ rfl) rfl <| wpl_on rfl rfl <| wpl_q (q_ld Try.underlying43 rfl rfl rfl) rfl <| wpl_on rfl rfl ?_
      refine wpl_q (q_lenW Try.underlying43 rfl zz2) rfl ?_
      refine wpl_on rfl rfl <| wpl_q (q_pure rfl) rfl <| wpl_on rfl rfl <| wpl_q (q_pure rfl) rfl <| wpl_q (q_pure rfl) rfl <| wpl_nil <| ex_then ?_
      refine wpc_cond rfl (fun hc28 => ?_) (fun hc28 => ?_)
      ·
       refine wpc_seq <| wpc_region <| wpl_q (q_pure rfl) rfl <| wpl_nil <| ex_then <| wpc_ret ?_
       refine ex_then_ret ?_
       refine ret1 (.inl rfl) rfl rfl ?_
       exact fun w h => ⟨by
         have hb := shp_bad (t := tg) (bs := bs) (l := trs l) zz16
         show Ending.returned (.bool false) = .returned (.bool (Tr.shp (.nd tg bs (trs l))))
         rw [hb], h.below⟩
      ·
       refine wpc_skip <| ex_then <| wpc_seq <| wpc_seq <| wpc_region <| wpl_q (q_pure rfl) rfl <| wpl_nil <| ex_then <| wpc_block ?_
       refine wpc_loopc (ι := { x : Nat // (x ≤ l.length) ∧ (shpL (trs (l.take x)) = true) }) [(1, _)] (fun x Lc => (3, .int .i64 ((x.1 : Nat) : Int)) :: Lc) (fun x => Mem w [] [.blk b1 72 [.int .u8 (tg.toNat : Int), bv, lv]] []) (fun x => l.length - x.1) ⟨0, ⟨Nat.zero_le _, rfl⟩⟩ zz7 ?_ ?_
       ·
        exact fun w h => h
       ·
        rintro ⟨i, ⟨hi0, hi1⟩⟩; try dsimp only
        have hi0 : i ≤ l.length := hi0; have hi1 : shpL (trs (l.take i)) = true := hi1
        refine wpc_seq <| wpc_seq <| wpc_region <| wpl_q (q_pure rfl) rfl <| wpl_q (q_field Try.underlying72 rfl Try.ti70 rfl rfl _ rfl) rfl <| wpl_q (q_ld Try.underlying70 rfl rfl rfl) rfl ?_
        refine wpl_q (q_lenW Try.underlying70 rfl zz2) rfl ?_
        refine wpl_q (q_pure rfl) rfl <| wpl_nil <| ex_then ?_
        refine wpc_cond rfl (fun hc33 => ?_) (fun hc33 => ?_)
        ·
         simp only [decide_eq_true_eq] at hc33
         have hil : i < l.length := by omega
         haveI := (ht.kid hil).sv.one
         refine wpc_skip <| ex_then <| wpc_seq <| wpc_block <| wpc_seq <| wpc_region <| wpl_q (q_field Try.underlying72 rfl Try.ti70 rfl rfl _ rfl) rfl <| wpl_q (q_ld Try.underlying70 rfl rfl rfl) rfl <| wpl_q (q_pure rfl) rfl ?_
         refine wpl_q (q_idxW Try.underlying70 Try.ti72 rfl rfl zz2 zz0) rfl ?_
         refine wpl_q (q_ldWN Try.underlying72 rfl Try.ti72 rfl (fun w h => h.seen_old hk) (l.getD i HT.z).c (cat_part HT.c_length HT.z hil) (HT.c_length _)) rfl ?_
         refine wpl_t (t_pur Try.hb111 rfl fun w h => ih (l.getD i HT.z) (getD_memH hil) w ((ht.kid hil).old h) trivial) rfl (fun b41 => ?_)
         refine wpl_q (q_pure rfl) rfl <| wpl_nil <| ex_then ?_
         refine wpc_cond rfl (fun hc42 => ?_) (fun hc42 => ?_)
         ·
          have hno : (l.getD i HT.z).tr.shp = false := by simpa using hc42
          refine wpc_seq <| wpc_region <| wpl_q (q_pure rfl) rfl <| wpl_nil <| ex_then <| wpc_ret ?_
          refine ex_block_ret ?_
          refine ex_then_ret ?_
          refine ex_then_ret ?_
          refine ex_block_ret ?_
          refine ex_then_ret ?_
          refine ret1 (.inl rfl) rfl rfl ?_
          exact fun w h => ⟨by
            show Ending.returned (.bool false) = .returned (.bool (Tr.shp (.nd tg bs (trs l))))
            rw [shp_good zz16, shpL_bad hil hno], h.below⟩
         ·
          have hok : (l.getD i HT.z).tr.shp = true := by simpa using hc42
          refine wpc_skip <| ex_block <| ex_then <| wpc_region <| wpl_q (q_pure rfl) rfl ?_
          refine wpl_q (q_addN (b := 1) rfl rfl zz0) rfl ?_
          refine wpl_q (q_pure rfl) rfl <| wpl_nil ?_
          refine ex_again ⟨i + 1, ⟨zz11, by rw [shpL_take hil, hi1, hok]; rfl⟩⟩ ?_ ?_ ?_
          ·
           exact zz7
          ·
           exact fun w h => h
          ·
           (show l.length - (i + 1) < l.length - i); omega
        ·
         simp only [decide_eq_false_iff_not] at hc33
         obtain rfl : i = l.length := by omega
         rw [List.take_length] at hi1
         refine wpc_exit ?_
         refine ex_then_exit ?_
         refine ex_then_exit ?_
         refine ex_block_hit ?_
         refine ex_then <| wpc_seq <| wpc_region <| wpl_q (q_pure rfl) rfl <| wpl_nil <| ex_then <| wpc_ret ?_
         refine ret1 (.inl rfl) rfl rfl ?_
         exact fun w h => ⟨by
           show Ending.returned (.bool true) = .returned (.bool (Tr.shp (.nd tg bs (trs l))))
           rw [shp_good zz16, hi1], h.below⟩
     ·
      refine wpl_off rfl rfl rfl rfl <| wpl_off rfl rfl rfl rfl <| wpl_off rfl rfl rfl rfl <| wpl_off rfl rfl rfl rfl <| wpl_on rfl rfl <| wpl_q (q_pure rfl) rfl <| wpl_q (q_pure rfl) rfl <| wpl_nil <| ex_then ?_
      refine wpc_cond_f rfl ?_
      refine wpc_skip <| ex_then <| wpc_seq <| wpc_seq <| wpc_region <| wpl_q (q_pure rfl) rfl <| wpl_nil <| ex_then <| wpc_block ?_
      refine wpc_loopc (ι := { x : Nat // (x ≤ l.length) ∧ (shpL (trs (l.take x)) = true) }) [(1, _)] (fun x Lc => (3, .int .i64 ((x.1 : Nat) : Int)) :: Lc) (fun x => Mem w [] [.blk b1 72 [.int .u8 (tg.toNat : Int), bv, lv]] []) (fun x => l.length - x.1) ⟨0, ⟨Nat.zero_le _, rfl⟩⟩ zz7 ?_ ?_
      ·
       exact fun w h => h
      ·
       rintro ⟨i, ⟨hi0, hi1⟩⟩; try dsimp only
       have hi0 : i ≤ l.length := hi0; have hi1 : shpL (trs (l.take i)) = true := hi1
       refine wpc_seq <| wpc_seq <| wpc_region <| wpl_q (q_pure rfl) rfl <| wpl_q (q_field Try.underlying72 rfl Try.ti70 rfl rfl _ rfl) rfl <| wpl_q (q_ld Try.underlying70 rfl rfl rfl) rfl ?_
       refine wpl_q (q_lenW Try.underlying70 rfl zz2) rfl ?_
       refine wpl_q (q_pure rfl) rfl <| wpl_nil <| ex_then ?_
       refine wpc_cond rfl (fun hc33 => ?_) (fun hc33 => ?_)
       ·
        simp only [decide_eq_true_eq] at hc33
        have hil : i < l.length := by omega
        haveI := (ht.kid hil).sv.one
        refine wpc_skip <| ex_then <| wpc_seq <| wpc_block <| wpc_seq <| wpc_region <| wpl_q (q_field Try.underlying72 rfl Try.ti70 rfl rfl _ rfl) rfl <| wpl_q (q_ld Try.underlying70 rfl rfl rfl) rfl <| wpl_q (q_pure rfl) rfl ?_
        refine wpl_q (q_idxW Try.underlying70 Try.ti72 rfl rfl zz2 zz0) rfl ?_
        refine wpl_q (q_ldWN Try.underlying72 rfl Try.ti72 rfl (fun w h => h.seen_old hk) (l.getD i HT.z).c (cat_part HT.c_length HT.z hil) (HT.c_length _)) rfl ?_
        refine wpl_t (t_pur Try.hb111 rfl fun w h => ih (l.getD i HT.z) (getD_memH hil) w ((ht.kid hil).old h) trivial) rfl (fun b41 => ?_)
        refine wpl_q (q_pure rfl) rfl <| wpl_nil <| ex_then ?_
        refine wpc_cond rfl (fun hc42 => ?_) (fun hc42 => ?_)
        ·
         have hno : (l.getD i HT.z).tr.shp = false := by simpa using hc42
         refine wpc_seq <| wpc_region <| wpl_q (q_pure rfl) rfl <| wpl_nil <| ex_then <| wpc_ret ?_
         refine ex_block_ret ?_
         refine ex_then_ret ?_
         refine ex_then_ret ?_
         refine ex_block_ret ?_
         refine ex_then_ret ?_
         refine ret1 (.inl rfl) rfl rfl ?_
         exact fun w h => ⟨by
           show Ending.returned (.bool false) = .returned (.bool (Tr.shp (.nd tg bs (trs l))))
           rw [shp_good zz16, shpL_bad hil hno], h.below⟩
        ·
         have hok : (l.getD i HT.z).tr.shp = true := by simpa using hc42
         refine wpc_skip <| ex_block <| ex_then <| wpc_region <| wpl_q (q_pure rfl) rfl ?_
         refine wpl_q (q_addN (b := 1) rfl rfl zz0) rfl ?_
         refine wpl_q (q_pure rfl) rfl <| wpl_nil ?_
         refine ex_again ⟨i + 1, ⟨zz11, by rw [shpL_take hil, hi1, hok]; rfl⟩⟩ ?_ ?_ ?_
         ·
          exact zz7
         ·
          exact fun w h => h
         ·
          (show l.length - (i + 1) < l.length - i); omega
       ·
        simp only [decide_eq_false_iff_not] at hc33
        obtain rfl : i = l.length := by omega
        rw [List.take_length] at hi1
        refine wpc_exit ?_
        refine ex_then_exit ?_
        refine ex_then_exit ?_
        refine ex_block_hit ?_
        refine ex_then <| wpc_seq <| wpc_region <| wpl_q (q_pure rfl) rfl <| wpl_nil <| ex_then <| wpc_ret ?_
        refine ret1 (.inl rfl) rfl rfl ?_
        exact fun w h => ⟨by
          show Ending.returned (.bool true) = .returned (.bool (Tr.shp (.nd tg bs (trs l))))
          rw [shp_good zz16, hi1], h.below⟩
   ·
    refine wpl_off rfl rfl rfl rfl <| wpl_off rfl rfl rfl rfl <| wpl_off rfl rfl rfl rfl <| wpl_off rfl rfl rfl rfl <| wpl_on rfl rfl <| wpl_q (q_pure rfl) rfl <| wpl_q (q_pure rfl) rfl <| wpl_q (q_pure rfl) rfl <| wpl_on rfl rfl <| wpl_q (q_field Try.underlying72 rfl Try.ti5 rfl rfl _ rfl) rfl <| wpl_on rfl rfl ?_
    refine wpl_q (q_ld Try.underlying5 rfl rfl zz19) rfl ?_
    refine wpl_on rfl rfl <| wpl_q (q_pure rfl) rfl <| wpl_on rfl rfl <| wpl_q (q_pure rfl) rfl ?_
    refine wpl_bool2 22 21 rfl rfl (fun hb22 => ?_) (fun hb22 => ?_)
    ·
     refine wpl_on rfl rfl <| wpl_q (q_field Try.underlying72 rfl Try.ti43 rfl rfl _ rfl) rfl <| wpl_on rfl rfl <| wpl_q (q_ld Try.underlying43 rfl rfl rfl) rfl <| wpl_on rfl rfl ?_
     refine wpl_q (q_lenW Try.underlying43 rfl zz2) rfl ?_
     refine wpl_on rfl rfl <| wpl_q (q_pure rfl) rfl <| wpl_on rfl rfl <| wpl_q (q_pure rfl) rfl <| wpl_q (q_pure rfl) rfl <| wpl_nil <| ex_then ?_
     refine wpc_cond rfl (fun hc28 => ?_) (fun hc28 => ?_)
     ·
      refine wpc_seq <| wpc_region <| wpl_q (q_pure rfl) rfl <| wpl_nil <| ex_then <| wpc_ret ?_
      refine ex_then_ret ?_
      refine ret1 (.inl rfl) rfl rfl ?_
      exact fun w h => ⟨by
        have hb := shp_bad (t := tg) (bs := bs) (l := trs l) zz16
        show Ending.returned (.bool false) = .returned (.bool (Tr.shp (.nd tg bs (trs l))))
        rw [hb], h.below⟩
     ·
      refine wpc_skip <| ex_then <| wpc_seq <| wpc_seq <| wpc_region <| wpl_q (q_pure rfl) rfl <| wpl_nil <| ex_then <| wpc_block ?_
      refine wpc_loopc (ι := { x : Nat // (x ≤ l.length) ∧ (shpL (trs (l.take x)) = true) }) [(1, _)] (fun x Lc => (3, .int .i64 ((x.1 : Nat) : Int)) :: Lc) (fun x => Mem w [] [.blk b1 72 [.int .u8 (tg.toNat : Int), bv, lv]] []) (fun x => l.length - x.1) ⟨0, ⟨Nat.zero_le _, rfl⟩⟩ zz7 ?_ ?_
      ·
       exact fun w h => h
      ·
       rintro ⟨i, ⟨hi0, hi1⟩⟩; try dsimp only
       have hi0 : i ≤ l.length := hi0; have hi1 : shpL (trs (l.take i)) = true := hi1
       refine wpc_seq <| wpc_seq <| wpc_region <| wpl_q (q_pure rfl) rfl <| wpl_q (q_field Try.underlying72 rfl Try.ti70 rfl rfl _ rfl) rfl <| wpl_q (q_ld Try.underlying70 rfl rfl rfl) rfl ?_
       refine wpl_q (q_lenW Try.underlying70 rfl zz2) rfl ?_
       refine wpl_q (q_pure rfl) rfl <| wpl_nil <| ex_then ?_
       refine wpc_cond rfl (fun hc33 => ?_) (fun hc33 => ?_)
       ·
        simp only [decide_eq_true_eq] at hc33
        have hil : i < l.length := by omega
        haveI := (ht.kid hil).sv.one
        refine wpc_skip <| ex_then <| wpc_seq <| wpc_block <| wpc_seq <| wpc_region <| wpl_q (q_field Try.underlying72 rfl Try.ti70 rfl rfl _ rfl) rfl <| wpl_q (q_ld Try.underlying70 rfl rfl rfl) rfl <| wpl_q (q_pure rfl) rfl ?_
        refine wpl_q (q_idxW Try.underlying70 Try.ti72 rfl rfl zz2 zz0) rfl ?_
        refine wpl_q (q_ldWN Try.underlying72 rfl Try.ti72 rfl (fun w h => h.seen_old hk) (l.getD i HT.z).c (cat_part HT.c_length HT.z hil) (HT.c_length _)) rfl ?_
        refine wpl_t (t_pur Try.hb111 rfl fun w h => ih (l.getD i HT.z) (getD_memH hil) w ((ht.kid hil).old h) trivial) rfl (fun b41 => ?_)
        refine wpl_q (q_pure rfl) rfl <| wpl_nil <| ex_then ?_
        refine wpc_cond rfl (fun hc42 => ?_) (fun hc42 => ?_)
        ·
         have hno : (l.getD i HT.z).tr.shp = false := by simpa using hc42
         refine wpc_seq <| wpc_region <| wpl_q (q_pure rfl) rfl <| wpl_nil <| ex_then <| wpc_ret ?_
         refine ex_block_ret ?_
         refine ex_then_ret ?_
         refine ex_then_ret ?_
         refine ex_block_ret ?_
         refine ex_then_ret ?_
         refine ret1 (.inl rfl) rfl rfl ?_
         exact fun w h => ⟨by
           show Ending.returned (.bool false) = .returned (.bool (Tr.shp (.nd tg bs (trs l))))
           rw [shp_good zz16, shpL_bad hil hno], h.below⟩
        ·
         have hok : (l.getD i HT.z).tr.shp = true := by simpa using hc42
         refine wpc_skip <| ex_block <| ex_then <| wpc_region <| wpl_q (q_pure rfl) rfl ?_
         refine wpl_q (q_addN (b := 1) rfl rfl zz0) rfl ?_
         refine wpl_q (q_pure rfl) rfl <| wpl_nil ?_
         refine ex_again ⟨i + 1, ⟨zz11, by rw [shpL_take hil, hi1, hok]; rfl⟩⟩ ?_ ?_ ?_
         ·
          exact zz7
         ·
          exact fun w h => h
         ·
          (show l.length - (i + 1) < l.length - i); omega
       ·
        simp only [decide_eq_false_iff_not] at hc33
        obtain rfl : i = l.length := by omega
        rw [List.take_length] at hi1
        refine wpc_exit ?_
        refine ex_then_exit ?_
        refine ex_then_exit ?_
        refine ex_block_hit ?_
        refine ex_then <| wpc_seq <| wpc_region <| wpl_q (q_pure rfl) rfl <| wpl_nil <| ex_then <| wpc_ret ?_
        refine ret1 (.inl rfl) rfl rfl ?_
        exact fun w h => ⟨by
          show Ending.returned (.bool true) = .returned (.bool (Tr.shp (.nd tg bs (trs l))))
          rw [shp_good zz16, hi1], h.below⟩
    ·
     refine wpl_off rfl rfl rfl rfl <| wpl_off rfl rfl rfl rfl <| wpl_off rfl rfl rfl rfl <| wpl_off rfl rfl rfl rfl <| wpl_on rfl rfl <| wpl_q (q_pure rfl) rfl <| wpl_q (q_pure rfl) rfl <| wpl_nil <| ex_then ?_
     refine wpc_cond_f rfl ?_
     refine wpc_skip <| ex_then <| wpc_seq <| wpc_seq <| wpc_region <| wpl_q (q_pure rfl) rfl <| wpl_nil <| ex_then <| wpc_block ?_
     refine wpc_loopc (ι := { x : Nat // (x ≤ l.length) ∧ (shpL (trs (l.take x)) = true) }) [(1, _)] (fun x Lc => (3, .int .i64 ((x.1 : Nat) : Int)) :: Lc) (fun x => Mem w [] [.blk b1 72 [.int .u8 (tg.toNat : Int), bv, lv]] []) (fun x => l.length - x.1) ⟨0, ⟨Nat.zero_le _, rfl⟩⟩ zz7 ?_ ?_
     ·
      exact fun w h => h
     ·
      rintro ⟨i, ⟨hi0, hi1⟩⟩; try dsimp only
      have hi0 : i ≤ l.length := hi0; have hi1 : shpL (trs (l.take i)) = true := hi1
      refine wpc_seq <| wpc_seq <| wpc_region <| wpl_q (q_pure rfl) rfl <| wpl_q (q_field Try.underlying72 rfl Try.ti70 rfl rfl _ rfl) rfl <| wpl_q (q_ld Try.underlying70 rfl rfl rfl) rfl ?_
      refine wpl_q (q_lenW Try.underlying70 rfl zz2) rfl ?_
      refine wpl_q (q_pure rfl) rfl <| wpl_nil <| ex_then ?_
      refine wpc_cond rfl (fun hc33 => ?_) (fun hc33 => ?_)
      ·
       simp only [decide_eq_true_eq] at hc33
       have hil : i < l.length := by omega
       haveI := (ht.kid hil).sv.one
       refine wpc_skip <| ex_then <| wpc_seq <| wpc_block <| wpc_seq <| wpc_region <| wpl_q (q_field Try.underlying72 rfl Try.ti70 rfl rfl _ rfl) rfl <| wpl_q (q_ld Try.underlying70 rfl rfl rfl) rfl <| wpl_q (q_pure rfl) rfl ?_
       refine wpl_q (q_idxW Try.underlying70 Try.ti72 rfl rfl zz2 zz0) rfl ?_
       refine wpl_q (q_ldWN Try.underlying72 rfl Try.ti72 rfl (fun w h => h.seen_old hk) (l.getD i HT.z).c (cat_part HT.c_length HT.z hil) (HT.c_length _)) rfl ?_
       refine wpl_t (t_pur Try.hb111 rfl fun w h => ih (l.getD i HT.z) (getD_memH hil) w ((ht.kid hil).old h) trivial) rfl (fun b41 => ?_)
       refine wpl_q (q_pure rfl) rfl <| wpl_nil <| ex_then ?_
       refine wpc_cond rfl (fun hc42 => ?_) (fun hc42 => ?_)
       ·
        have hno : (l.getD i HT.z).tr.shp = false := by simpa using hc42
        refine wpc_seq <| wpc_region <| wpl_q (q_pure rfl) rfl <| wpl_nil <| ex_then <| wpc_ret ?_
        refine ex_block_ret ?_
        refine ex_then_ret ?_
        refine ex_then_ret ?_
        refine ex_block_ret ?_
        refine ex_then_ret ?_
        refine ret1 (.inl rfl) rfl rfl ?_
        exact fun w h => ⟨by
          show Ending.returned (.bool false) = .returned (.bool (Tr.shp (.nd tg bs (trs l))))
          rw [shp_good zz16, shpL_bad hil hno], h.below⟩
       ·
        have hok : (l.getD i HT.z).tr.shp = true := by simpa using hc42
        refine wpc_skip <| ex_block <| ex_then <| wpc_region <| wpl_q (q_pure rfl) rfl ?_
        refine wpl_q (q_addN (b := 1) rfl rfl zz0) rfl ?_
        refine wpl_q (q_pure rfl) rfl <| wpl_nil ?_
        refine ex_again ⟨i + 1, ⟨zz11, by rw [shpL_take hil, hi1, hok]; rfl⟩⟩ ?_ ?_ ?_
        ·
         exact zz7
        ·
         exact fun w h => h
        ·
         (show l.length - (i + 1) < l.length - i); omega
      ·
       simp only [decide_eq_false_iff_not] at hc33
       obtain rfl : i = l.length := by omega
       rw [List.take_length] at hi1
       refine wpc_exit ?_
       refine ex_then_exit ?_
       refine ex_then_exit ?_
       refine ex_block_hit ?_
       refine ex_then <| wpc_seq <| wpc_region <| wpl_q (q_pure rfl) rfl <| wpl_nil <| ex_then <| wpc_ret ?_
       refine ret1 (.inl rfl) rfl rfl ?_
       exact fun w h => ⟨by
         show Ending.returned (.bool true) = .returned (.bool (Tr.shp (.nd tg bs (trs l))))
         rw [shp_good zz16, hi1], h.below⟩
theorem refShaped : ∀ (t : HT) (w : World), HSeen w.cell? t → True → Calls Try.prog 111 [.agg t.c.toArray].toArray w (Pur w (.bool t.tr.shp)) := by
  intro t
  induction t using HT.ind with
  | _ tg bv bs lv l ih => intro w h hs; exact refShaped_step _ w h hs (fun x hx w hx' hs' => ih x hx w hx' hs')
end Go.Proofs.Ytgnablliekgbgaa
namespace Go.Proofs.Ytgnablliekgbgaa
open Go Go.PL Go.RowKit
def checkF (t : Tr) : Int := if 4000 < t.cnt ∨ 12 < t.dep then 4 else if t.shp = false then 8 else if 65536 < t.siz then 4 else 0
theorem refCheck (t : HT) (w : World) (ht : HSeen w.cell? t) (hsm : Sm t.tr) (hdp : t.tr.dep ≤ 1000000) :
    Calls Try.prog 90 [.agg t.c.toArray].toArray w (Pur w (.int .i64 (checkF t.tr))) := by
  obtain ⟨tg, bv, bs, lv, l⟩ := t
  have hb := ht.1
  have hk := ht.2.1
  have svb := hb.sv
  have svl := hk.sv
  have lb := svb.le
  have ll := svl.le
  simp only [maxLen] at lb ll
  have hcn : (HT.nd tg bv bs lv l).tr.byt + 5 * (HT.nd tg bv bs lv l).tr.cnt ≤ 1000000 := hsm
  refine enter (m := 17) (R := Mem w [] [] []) Try.func90 rfl rfl (Nat.le_of_ble_eq_true rfl) (Mem.start w) ?_
  refine wpc_seq <| wpc_region ?_
  refine wpl_t (t_box rfl [.int .u8 (tg.toNat : Int), bv, lv] rfl) rfl (fun b1 => ?_)
  refine wpl_q (q_pure rfl) rfl <| wpl_nil <| ex_then <| wpc_seq <| wpc_seq <| wpc_region <| wpl_q (q_ldN Try.underlying72 rfl Try.ti72 rfl LenC.h) rfl ?_
  refine wpl_t (t_pur Try.hb109 rfl fun w h => refCount (.nd tg bv bs lv l) w (ht.old h) zz11) rfl (fun b4 => ?_)
  refine wpl_q (q_pure rfl) rfl <| wpl_q (q_pure rfl) rfl ?_
  refine wpl_bool2 6 5 rfl rfl (fun hb6 => ?_) (fun hb6 => ?_)
  ·
   try simp only [decide_eq_true_eq] at hb6
   refine wpl_off rfl rfl rfl rfl <| wpl_off rfl rfl rfl rfl <| wpl_off rfl rfl rfl rfl <| wpl_q (q_pure rfl) rfl <| wpl_nil <| ex_then ?_
   refine wpc_cond_t rfl ?_
   refine wpc_seq <| wpc_region <| wpl_q (q_pure rfl) rfl <| wpl_nil <| ex_then <| wpc_ret ?_
   refine ex_then_ret ?_
   refine ret1 (.inl rfl) rfl rfl ?_
   exact fun w h => ⟨by rw [checkF, if_pos zz11], h.below⟩
  ·
   try simp only [decide_eq_false_iff_not] at hb6
   refine wpl_on rfl rfl <| wpl_q (q_ldN Try.underlying72 rfl Try.ti72 rfl LenC.h) rfl <| wpl_on rfl rfl ?_
   refine wpl_t (t_pur Try.hb110 rfl fun w h => refDepth (.nd tg bv bs lv l) w (ht.old h) hdp) rfl (fun b8 => ?_)
   refine wpl_on rfl rfl <| wpl_q (q_pure rfl) rfl <| wpl_q (q_pure rfl) rfl <| wpl_nil <| ex_then ?_
   refine wpc_cond rfl (fun hc10 => ?_) (fun hc10 => ?_)
   ·
    try simp only [decide_eq_true_eq] at hc10
    refine wpc_seq <| wpc_region <| wpl_q (q_pure rfl) rfl <| wpl_nil <| ex_then <| wpc_ret ?_
    refine ex_then_ret ?_
    refine ret1 (.inl rfl) rfl rfl ?_
    exact fun w h => ⟨by rw [checkF, if_pos zz11], h.below⟩
   ·
    simp only [decide_eq_false_iff_not] at hc10
    have h1 : ¬ (4000 < (HT.nd tg bv bs lv l).tr.cnt ∨ 12 < (HT.nd tg bv bs lv l).tr.dep) := by omega
    refine wpc_skip <| ex_then <| wpc_seq <| wpc_seq <| wpc_region <| wpl_q (q_ldN Try.underlying72 rfl Try.ti72 rfl LenC.h) rfl ?_
    refine wpl_t (t_pur Try.hb111 rfl fun w h => refShaped (.nd tg bv bs lv l) w (ht.old h) trivial) rfl (fun b12 => ?_)
    refine wpl_q (q_pure rfl) rfl <| wpl_nil <| ex_then ?_
    refine wpc_cond rfl (fun hc13 => ?_) (fun hc13 => ?_)
    ·
     have h2 : (HT.nd tg bv bs lv l).tr.shp = false := by simpa using hc13
     refine wpc_seq <| wpc_region <| wpl_q (q_pure rfl) rfl <| wpl_nil <| ex_then <| wpc_ret ?_
     refine ex_then_ret ?_
     refine ret1 (.inl rfl) rfl rfl ?_
     exact fun w h => ⟨by rw [checkF, if_neg h1, if_pos h2], h.below⟩
    ·
     have h2 : ¬ (HT.nd tg bv bs lv l).tr.shp = false := by rw [Bool.not_eq_false]; simpa using hc13
     refine wpc_skip <| ex_then <| wpc_seq <| wpc_seq <| wpc_region <| wpl_q (q_ldN Try.underlying72 rfl Try.ti72 rfl LenC.h) rfl ?_
     refine wpl_t (t_pur Try.hb112 rfl fun w h => refSize (.nd tg bv bs lv l) w (ht.old h) hsm) rfl (fun b15 => ?_)
     refine wpl_q (q_pure rfl) rfl <| wpl_nil <| ex_then ?_
     refine wpc_cond rfl (fun hc16 => ?_) (fun hc16 => ?_)
     ·
      simp only [decide_eq_true_eq] at hc16
      refine wpc_seq <| wpc_region <| wpl_q (q_pure rfl) rfl <| wpl_nil <| ex_then <| wpc_ret ?_
      refine ex_then_ret ?_
      refine ret1 (.inl rfl) rfl rfl ?_
      exact fun w h => ⟨by rw [checkF, if_neg h1, if_neg h2, if_pos zz11], h.below⟩
     ·
      simp only [decide_eq_false_iff_not] at hc16
      refine wpc_skip <| ex_then <| wpc_seq <| wpc_region <| wpl_q (q_pure rfl) rfl <| wpl_nil <| ex_then <| wpc_ret ?_
      refine ret1 (.inl rfl) rfl rfl ?_
      exact fun w h => ⟨by rw [checkF, if_neg h1, if_neg h2, if_neg zz11], h.below⟩
end Go.Proofs.Ytgnablliekgbgaa
namespace Go.Proofs.Ytgnablliekgbgaa
open Go Go.PL Go.RowKit
section
variable {P : Program} {n : Cx} {R : World → Prop} {L : Slots} {Q : Exit → Act → World → Prop} {w0 : World} {Ln : List Nat} {M : List Ent} {S : List Fact}
theorem q_cvBS {s t e : TypeId} {x : Operand} {v : Value} {m : Nat} {bs : List UInt8} (hs' : P.underlying s = some (.slice e)) (he : P.underlying e = some (.int .u8)) (hu : P.underlying t = some .string) (hx : ev L x = some v) (hs : ∀ w, R w → Seen w.cell? v m 1 (v8s bs)) : QOp P n R L (.convert s t x) (str bs) := by
  intro d ty pos af g a w hsl hr
  obtain ⟨h1, ad, cap, rfl, h3, h4, h5⟩ := hs w hr
  have hm : m = bs.length := by rw [v8s_length] at h1; omega
  subst hm
  simp only [execOp, hsl.eval hx]
  rcases h5 with ⟨rfl, rfl⟩ | ⟨a', rfl, h6⟩
  · have h0 : bs.length = 0 := by omega
    obtain rfl : bs = [] := List.eq_nil_of_length_eq_zero h0
    have r := Lib.run_convert_nil_bytes (P := P) w s t e 0 hs' he hu
    have r' : (convert s t (.slice none ([] : List UInt8).length 0)).run P w = _ := r
    simp only [Sem.run_bind, r']; rfl
  · have r := run_convert_bytes_back (P := P) w s t e a' cap bs hs' he hu (fun j hj => by
      refine h6 j _ ?_
      have := v8s_get (xs := bs) (i := j) hj
      rw [this]
      congr 2
      rw [List.getD_eq_getElem?_getD, List.getElem?_eq_getElem hj]; rfl)
    simp only [Sem.run_bind, r]; rfl
theorem t_cvSB {s t e : TypeId} {x : Operand} {bs : List UInt8} (hs' : P.underlying s = some .string) (hu : P.underlying t = some (.slice e)) (he : P.underlying e = some (.int .u8)) (hx : ev L x = some (str bs)) (hl : bs.length ≤ maxLen) :
    TOpP P Q n (Mem w0 Ln M S) L (.convert s t x) Value (fun v => SV v bs.length) (fun v => v) (fun v => Mem w0 Ln M (Go.PL.seen v bs.length 1 (v8s bs) :: S)) := by
  have h : TOp P Q n (Mem w0 Ln M S) L (.convert s t x) { v : Value // SV v bs.length } (fun v => v.1) (fun v => Mem w0 Ln M (Go.PL.seen v.1 bs.length 1 (v8s bs) :: S)) := by
    intro d ty pos af g a w K hsl hm hk
    have r := Lib.run_convert_string_bytes (P := P) w s t e ⟨bs.toArray⟩ hs' hu he
    have hge := grownCap_ge w bs.length 0 e
    have hle := grownCap_le_maxLen w bs.length 0 e hl
    have hx' : ev L x = some (.string ⟨bs.toArray⟩) := hx
    have hsz : (⟨bs.toArray⟩ : ByteArray).size = bs.length := rfl
    unfold Oper.wp
    have hrun : (execOp a.eval ⟨d, .convert s t x, ty, pos, af, g⟩).run P w = .ok (.value (.slice (some ⟨w.heap.size, 0, none⟩) bs.length (grownCap w bs.length 0 e))) (Lib.bytesWorld w e ⟨bs.toArray⟩) := by
      simp only [execOp, hsl.eval hx']
      simp only [Sem.run_bind, r]; rfl
    rw [hrun]
    have hb : Below w.heap.size w (Lib.bytesWorld w e ⟨bs.toArray⟩) := by
      refine ⟨rfl, rfl, rfl, ?_, fun k hk => ?_⟩
      · rw [Lib.bytesWorld_size]; omega
      · exact Lib.bytesWorld_at_old w e _ k hk
    have hsv : SV (.slice (some ⟨w.heap.size, 0, none⟩) bs.length (grownCap w bs.length 0 e)) bs.length := ⟨_, _, rfl, hge, hle, fun h => by cases h⟩
    have hn : New w.heap.size [] [Go.PL.seen (.slice (some ⟨w.heap.size, 0, none⟩) bs.length (grownCap w bs.length 0 e)) bs.length 1 (v8s bs)] (Lib.bytesWorld w e ⟨bs.toArray⟩) := by
      refine ⟨zz44, zz44, zz44, fun f hf => ?_⟩
      rw [List.mem_singleton] at hf
      subst hf
      refine ⟨by rw [v8s_length]; simp, _, _, rfl, hge, hle, .inr ⟨_, rfl, fun j u hj => ?_⟩⟩
      have hj2 : j < bs.length := by
        have := (List.getElem?_eq_some_iff.1 hj).1
        rwa [v8s_length] at this
      rw [v8s_get (xs := bs) (i := j) hj2] at hj
      have hc := Lib.bytesWorld_cell w e ⟨bs.toArray⟩ j hj2
      have ea : (⟨w.heap.size, 0, none⟩ : Addr).add j = ⟨w.heap.size, j, none⟩ := by rw [add_lit, Nat.zero_add]
      rw [ea]
      simp only [rdF]
      rw [if_pos ⟨Nat.le_refl _, rfl⟩, hc, ← hj]
    exact hk ⟨_, hsv⟩ _ (hm.call hb hn)
  exact h.rep fun x w h => ⟨x.1, x.2, rfl, h⟩
end
theorem same_stepB (xs ys : List UInt8) (i : Nat) (h : xs.take i = ys.take i) (hx : i < xs.length) (hy : i < ys.length) (he : xs.getD i 0 = ys.getD i 0) : xs.take (i + 1) = ys.take (i + 1) := by
  rw [take_succD 0 hx, take_succD 0 hy, h, he]
theorem sameB (av : Value) (xs : List UInt8) (bv : Value) (ys : List UInt8) (w : World) (hav : Seen w.cell? av xs.length 1 (v8s xs)) (hbv : Seen w.cell? bv ys.length 1 (v8s ys))  :
    Calls Try.prog 23 [av, bv].toArray w (Pur w (.bool (decide (xs = ys)))) := by
  have sav := hav.sv
  have lav := sav.le
  simp only [maxLen] at lav
  have sbv := hbv.sv
  have lbv := sbv.le
  simp only [maxLen] at lbv
  refine enter (m := 26) (R := Mem w [] [] []) Try.func23 rfl rfl (Nat.le_of_ble_eq_true rfl) (Mem.start w) ?_
  refine wpc_seq <| wpc_region <| wpl_q (q_pure rfl) rfl <| wpl_nil <| ex_then <| wpc_seq <| wpc_seq <| wpc_region <| wpl_q (q_pure rfl) rfl ?_
  refine wpl_q (q_lenW Try.underlying43 rfl zz2) rfl ?_
  refine wpl_q (q_pure rfl) rfl ?_
  refine wpl_q (q_lenW Try.underlying43 rfl zz2) rfl ?_
  refine wpl_q (q_pure rfl) rfl <| wpl_nil <| ex_then ?_
  refine wpc_cond rfl (fun hc10 => ?_) (fun hc10 => ?_)
  ·
   simp only [decide_eq_true_eq, bne_iff_ne, ne_eq] at hc10
   have hne : xs ≠ ys := fun e => hc10 (by rw [e])
   refine wpc_seq <| wpc_region <| wpl_q (q_pure rfl) rfl <| wpl_nil <| ex_then <| wpc_ret ?_
   refine ex_then_ret ?_
   refine ret1 (.inl rfl) rfl rfl ?_
   exact fun w h => ⟨by simp [hne], h.below⟩
  ·
   simp only [bne_eq_false_iff_eq] at hc10
   have hl : xs.length = ys.length := by omega
   refine wpc_skip <| ex_then <| wpc_seq <| wpc_seq <| wpc_region <| wpl_q (q_pure rfl) rfl <| wpl_nil <| ex_then <| wpc_block ?_
   refine wpc_loopc (ι := { x : Nat // (x ≤ xs.length) ∧ (xs.take x = ys.take x) }) [(0, _), (1, _)] (fun x Lc => (5, .int .i64 ((x.1 : Nat) : Int)) :: Lc) (fun x => Mem w [] [] []) (fun x => xs.length - x.1) ⟨0, ⟨Nat.zero_le _, rfl⟩⟩ zz7 ?_ ?_
   ·
    exact fun w h => h
   ·
    rintro ⟨i, ⟨hi0, hi1⟩⟩; try dsimp only
    have hi0 : i ≤ xs.length := hi0; have hi1 : xs.take i = ys.take i := hi1
    refine wpc_seq <| wpc_seq <| wpc_region <| wpl_q (q_pure rfl) rfl <| wpl_q (q_pure rfl) rfl ?_
    refine wpl_q (q_lenW Try.underlying43 rfl zz2) rfl ?_
    refine wpl_q (q_pure rfl) rfl <| wpl_nil <| ex_then ?_
    refine wpc_cond rfl (fun hc14 => ?_) (fun hc14 => ?_)
    ·
     try simp only [decide_eq_true_eq, decide_eq_false_iff_not, Bool.and_eq_true, Bool.or_eq_true, beq_iff_eq, bne_iff_ne, ne_eq, Bool.not_eq_true', Bool.not_eq_false', Decidable.not_not] at hc14
     refine wpc_skip <| ex_then <| wpc_seq <| wpc_block <| wpc_seq ?_
     refine wpc_draw 9 zz6 (fun _ h => h.drew) ?_
     refine wpd_p 0 rfl zz6 trivial (q_pure rfl) rfl sk0 ?_
     refine wpd_p 1 rfl zz6 trivial (q_pure rfl) rfl sk0 ?_
     refine wpd_p 2 rfl zz6 trivial (q_idxW1 Try.underlying43 Try.ti5 rfl rfl zz2 zz0) rfl sk0 ?_
     refine wpd_q 3 rfl zz6 trivial (q_ldW Try.underlying5 rfl rfl (fun w h => zz1) zz19) rfl (fun _ h => h) ?_
     refine wpd_p 4 rfl zz6 trivial (q_pure rfl) rfl sk0 ?_
     refine wpd_p 5 rfl zz6 trivial (q_pure rfl) rfl sk0 ?_
     refine wpd_p 6 rfl zz6 trivial (q_idxW1 Try.underlying43 Try.ti5 rfl rfl zz2 zz0) rfl sk0 ?_
     refine wpd_q 7 rfl zz6 trivial (q_ldW Try.underlying5 rfl rfl (fun w h => zz1) zz19) rfl (fun _ h => h) ?_
     refine wpd_p 8 rfl zz6 trivial (q8_neq rfl rfl) rfl sk0 ?_
     refine wpd_done zz6 ?_
     refine ex_then ?_
     refine wpc_cond rfl (fun hc25 => ?_) (fun hc25 => ?_)
     ·
      simp only [Bool.not_eq_true', decide_eq_false_iff_not] at hc25
      have hne : xs ≠ ys := fun e => hc25 (by rw [e])
      refine wpc_seq <| wpc_region <| wpl_q (q_pure rfl) rfl <| wpl_nil <| ex_then <| wpc_ret ?_
      refine ex_block_ret ?_
      refine ex_then_ret ?_
      refine ex_then_ret ?_
      refine ex_block_ret ?_
      refine ex_then_ret ?_
      refine ret1 (.inl rfl) rfl rfl ?_
      exact fun w h => ⟨by simp [hne], h.below⟩
     ·
      simp only [Bool.not_eq_false', decide_eq_true_eq] at hc25
      refine wpc_skip <| ex_block <| ex_then <| wpc_region <| wpl_q (q_pure rfl) rfl ?_
      refine wpl_q (q_addN (b := 1) rfl rfl zz0) rfl ?_
      refine wpl_q (q_pure rfl) rfl <| wpl_nil ?_
      refine ex_again ⟨i + 1, ⟨zz11, same_stepB xs ys i hi1 zz11 zz11 hc25⟩⟩ ?_ ?_ ?_
      ·
       exact zz7
      ·
       exact fun w h => by first | exact h | exact h.sub SubC.h SubC.h | exact h.sub zz5 zz5
      ·
       (show xs.length - (i + 1) < xs.length - i); omega
    ·
     simp only [decide_eq_false_iff_not] at hc14
     obtain rfl : i = xs.length := by omega
     have heq : xs = ys := by rw [List.take_length, hl, List.take_length] at hi1; exact hi1
     refine wpc_exit ?_
     refine ex_then_exit ?_
     refine ex_then_exit ?_
     refine ex_block_hit ?_
     refine ex_then <| wpc_seq <| wpc_region <| wpl_q (q_pure rfl) rfl <| wpl_nil <| ex_then <| wpc_ret ?_
     refine ret1 (.inl rfl) rfl rfl ?_
     exact fun w h => ⟨by simp [heq], h.below⟩
end Go.Proofs.Ytgnablliekgbgaa
namespace Go.Proofs.Ytgnablliekgbgaa
open Go Go.PL Go.RowKit
theorem clNil {r : Rd} {a : Option Addr} {cap m sz : Nat} {vs : List Value} (h : Seen r (.slice a m cap) m sz vs) (hn : a.isNone = true) : m = 0 := by
  obtain ⟨h1, h2, h3⟩ := h.cap
  have := h3 (Option.isNone_iff_eq_none.1 hn)
  omega
theorem sm_len {tg : UInt8} {bv lv : Value} {bs : List UInt8} {l : List HT} (h : Sm (HT.nd tg bv bs lv l).tr) : l.length ≤ 200000 ∧ bs.length ≤ 1000000 := by
  have h1 := cntL_len (trs l)
  rw [trs_length] at h1
  have h : bs.length + bytL (trs l) + 5 * (1 + cntL (trs l)) ≤ 1000000 := h
  omega
theorem tw_get {ns l : List HT} {i : Nat} (hn : ns.length = i) (hi : i < l.length) : (ns ++ l.drop i).getD i HT.z = l.getD i HT.z := by
  rw [List.getD_eq_getElem?_getD, List.getElem?_append_right zz11, hn, Nat.sub_self, List.getElem?_drop, Nat.add_zero, List.getD_eq_getElem?_getD]
theorem tw_put {ns l : List HT} {i : Nat} (hn : ns.length = i) (hi : i < l.length) (y : HT) : (hcs (ns ++ l.drop i)).take (i * 3) ++ y.c ++ (hcs (ns ++ l.drop i)).drop (i * 3 + y.c.length) = hcs (ns ++ [y] ++ l.drop (i + 1)) := by
  rw [cat_put HT.c_length y (by rw [List.length_append, List.length_drop]; omega)]
  congr 2
  rw [List.set_append_right _ _ zz11, hn, Nat.sub_self, drop_consD HT.z hi, List.set_cons_zero, List.append_assoc]; rfl
theorem entsL_snoc (ns : List HT) (y : HT) : (y.ents ++ entsL ns).Perm (entsL (ns ++ [y])) := by
  rw [entsL_append]
  show (y.ents ++ entsL ns).Perm (entsL ns ++ (y.ents ++ []))
  rw [List.append_nil]; exact List.perm_append_comm
theorem snoc_len (ns : List HT) (y : HT) : (ns ++ [y]).length = ns.length + 1 := by rw [List.length_append]; rfl
theorem oneH {t : UInt8} {bv lv : Value} {n m : Nat} (h : SV bv n) (h2 : SV lv m) : OneC [Value.int .u8 (t.toNat : Int), bv, lv] := OneC.cons rfl (OneC.cons h.one (OneC.cons h2.one oneC_nil))
theorem built_o1 (t : UInt8) {v : Value} {n : Nat} (hv : SV v n) : Try.prog.built 72 [(0, .int .u8 (t.toNat : Int)), (1, v)] = some [Value.int .u8 (t.toNat : Int), v, nl].toArray := by
  obtain ⟨a, cap, rfl, _⟩ := hv
  kernel_rfl
theorem built_o2 (t : UInt8) {v : Value} {n : Nat} (hv : SV v n) : Try.prog.built 72 [(0, .int .u8 (t.toNat : Int)), (2, v)] = some [Value.int .u8 (t.toNat : Int), nl, v].toArray := by
  obtain ⟨a, cap, rfl, _⟩ := hv
  kernel_rfl
theorem built_o0 (t : UInt8) : Try.prog.built 72 [(0, .int .u8 (t.toNat : Int))] = some [Value.int .u8 (t.toNat : Int), nl, nl].toArray := by kernel_rfl
theorem built_oz : Try.prog.built 72 [] = some [Value.int .u8 0, nl, nl].toArray := by kernel_rfl
theorem madeT {w0 w : World} {S : List Fact} {tg : UInt8} {bv lv : Value} {bs : List UInt8} {l : List HT} (h : Mem w0 [] (.row bv bs.length 5 1 (v8s bs) :: .row lv l.length 72 3 (hcs l) :: entsL l) S w) : New w0.heap.size (HT.nd tg bv bs lv l).ents [] w := h.made (Sub.refl _) .nil
theorem hcs_one {l : List HT} (h : ∀ x ∈ l, x.sv) : ∀ u ∈ hcs l, u.oneCell' = true := by
  intro u hu
  obtain ⟨cs, hc, hu⟩ := List.mem_flatten.1 hu
  obtain ⟨x, hx, rfl⟩ := List.mem_map.1 hc
  exact (h x hx).one.h u hu
theorem HSeenL.sv {r : Rd} {l : List HT} (h : HSeenL r l) : ∀ x ∈ l, x.sv := fun x hx => (HSeenL_iff.1 h x hx).sv
theorem cloneB0 (a : Option Addr) (cap : Nat) (xs : List UInt8) (w : World) (hav : Seen w.cell? (.slice a xs.length cap) xs.length 1 (v8s xs)) (hl : xs.length ≤ 1000000) :
    Calls Try.prog 95 [.slice a xs.length cap].toArray w (GivesP w (fun v => SV v xs.length) (fun v => v) (fun v => [.row v xs.length 5 1 (v8s xs)]) (fun _ => [])) := by
  have sav := hav.sv
  refine enter (m := 8) (R := Mem w [] [] []) Try.func95 rfl rfl (Nat.le_of_ble_eq_true rfl) (Mem.start w) ?_
  refine wpc_seq <| wpc_region <| wpl_q (q_pure rfl) rfl <| wpl_nil <| ex_then <| wpc_seq <| wpc_seq <| wpc_region <| wpl_q (q_pure rfl) rfl ?_
  refine wpl_q (q_slNil Try.underlying43 rfl rfl zz6) rfl ?_
  refine wpl_nil <| ex_then ?_
  refine wpc_cond rfl (fun hc4 => ?_) (fun hc4 => ?_)
  ·
   have h0 := clNil hav hc4
   have hx0 := List.eq_nil_of_length_eq_zero h0
   subst hx0
   refine wpc_seq <| wpc_region <| wpl_q (q_pure rfl) rfl <| wpl_nil <| ex_then <| wpc_ret ?_
   refine ex_then_ret ?_
   refine ret1 (.inl rfl) rfl rfl ?_
   exact fun w h => ⟨.slice none 0 0, SV.nil, rfl, h.below, (h.nilRow 5 1).made zz5 .nil⟩
  ·
   refine wpc_skip <| ex_then <| wpc_seq <| wpc_region ?_
   refine wpl_tp (t_bs0W Try.underlying43 Try.ti5) rfl (fun b5 p5 => ?_)
   refine wpl_q (q_pure rfl) rfl ?_
   refine wpl_tp (t_ap0 Try.underlying43 Try.ti5 rfl zz18 rfl rfl (fun w h => h.seen_old hav) (v8s_one _) zz0 zz0) rfl (fun b7 p7 => ?_)
   refine wpl_q (q_pure rfl) rfl <| wpl_nil <| ex_then <| wpc_ret ?_
   refine ret1 (.inl rfl) rfl rfl ?_
   exact fun w h => ⟨b7, p7, rfl, h.below, h.made SubC.h .nil⟩
theorem cloneO0 (a : Option Addr) (cap : Nat) (l : List HT) (w : World) (hav : Seen w.cell? (.slice a l.length cap) l.length 3 (hcs l)) (hl : l.length ≤ 200000) (ho : ∀ x ∈ l, x.sv) :
    Calls Try.prog 96 [.slice a l.length cap].toArray w (GivesP w (fun v => SV v l.length) (fun v => v) (fun v => [.row v l.length 72 3 (hcs l)]) (fun _ => [])) := by
  have sav := hav.sv
  refine enter (m := 8) (R := Mem w [] [] []) Try.func96 rfl rfl (Nat.le_of_ble_eq_true rfl) (Mem.start w) ?_
  refine wpc_seq <| wpc_region <| wpl_q (q_pure rfl) rfl <| wpl_nil <| ex_then <| wpc_seq <| wpc_seq <| wpc_region <| wpl_q (q_pure rfl) rfl ?_
  refine wpl_q (q_slNil Try.underlying70 rfl rfl zz6) rfl ?_
  refine wpl_nil <| ex_then ?_
  refine wpc_cond rfl (fun hc4 => ?_) (fun hc4 => ?_)
  ·
   have h0 := clNil hav hc4
   have hx0 := List.eq_nil_of_length_eq_zero h0
   subst hx0
   refine wpc_seq <| wpc_region <| wpl_q (q_pure rfl) rfl <| wpl_nil <| ex_then <| wpc_ret ?_
   refine ex_then_ret ?_
   refine ret1 (.inl rfl) rfl rfl ?_
   exact fun w h => ⟨.slice none 0 0, SV.nil, rfl, h.below, (h.nilRow 72 3).made zz5 .nil⟩
  ·
   refine wpc_skip <| ex_then <| wpc_seq <| wpc_region ?_
   refine wpl_tp (t_bs0W Try.underlying70 Try.ti72) rfl (fun b5 p5 => ?_)
   refine wpl_q (q_pure rfl) rfl ?_
   refine wpl_tp (t_ap0 Try.underlying70 Try.ti72 rfl zz18 rfl rfl (fun w h => h.seen_old hav) (hcs_one ho) zz0 zz0) rfl (fun b7 p7 => ?_)
   refine wpl_q (q_pure rfl) rfl <| wpl_nil <| ex_then <| wpc_ret ?_
   refine ret1 (.inl rfl) rfl rfl ?_
   exact fun w h => ⟨b7, p7, rfl, h.below, h.made SubC.h .nil⟩
theorem cloneB (v : Value) (xs : List UInt8) (w : World) (h : Seen w.cell? v xs.length 1 (v8s xs)) (hl : xs.length ≤ 1000000) : Calls Try.prog 95 [v].toArray w (GivesP w (fun v => SV v xs.length) (fun v => v) (fun v => [.row v xs.length 5 1 (v8s xs)]) (fun _ => [])) := by
  obtain ⟨a, cap, rfl, _⟩ := h.sv
  exact cloneB0 a cap xs w h hl
theorem cloneO (v : Value) (l : List HT) (w : World) (h : Seen w.cell? v l.length 3 (hcs l)) (hl : l.length ≤ 200000) (ho : ∀ x ∈ l, x.sv) : Calls Try.prog 96 [v].toArray w (GivesP w (fun v => SV v l.length) (fun v => v) (fun v => [.row v l.length 72 3 (hcs l)]) (fun _ => [])) := by
  obtain ⟨a, cap, rfl, _⟩ := h.sv
  exact cloneO0 a cap l w h hl ho
theorem refTwin_step (t : HT) (w : World) (ht : HSeen w.cell? t) (hsm : Sm t.tr) (ih : ∀ x ∈ t.kids, ∀ (w : World), HSeen w.cell? x → Sm x.tr → Calls Try.prog 102 [.agg x.c.toArray].toArray w (GivesP w (fun y : HT => y.tr = x.tr ∧ y.sv) (fun y => .agg y.c.toArray) (fun y => y.ents) (fun _ => []))) :
    Calls Try.prog 102 [.agg t.c.toArray].toArray w (GivesP w (fun y : HT => y.tr = t.tr ∧ y.sv) (fun y => .agg y.c.toArray) (fun y => y.ents) (fun _ => [])) := by
  obtain ⟨tg, bv, bs, lv, l⟩ := t
  have hb := ht.1
  have hk := ht.2.1
  have svb := hb.sv
  have svl := hk.sv
  have lb := svb.le
  have ll := svl.le
  simp only [maxLen] at lb ll
  have hln := sm_len hsm
  refine enter (m := 31) (R := Mem w [] [] []) Try.func102 rfl rfl (Nat.le_of_ble_eq_true rfl) (Mem.start w) ?_
  refine wpc_seq <| wpc_region ?_
  refine wpl_t (t_box rfl [.int .u8 (tg.toNat : Int), bv, lv] rfl) rfl (fun b1 => ?_)
  refine wpl_t (t_alloc Try.ti72 [.int .u8 0, nl, nl] rfl) rfl (fun b2 => ?_)
  refine wpl_nil <| ex_then <| wpc_seq ?_
  refine wpc_draw 99 zz6 (fun _ h => h.drew) ?_
  refine wpd_p 0 rfl zz6 trivial (q_field Try.underlying72 rfl Try.ti5 rfl rfl _ rfl) rfl sk0 ?_
  refine wpd_q 1 rfl zz6 trivial (q_ld Try.underlying5 rfl rfl zz19) rfl (fun _ h => h) ?_
  refine wpd_p 3 rfl zz6 trivial (q_field Try.underlying72 rfl Try.ti43 rfl rfl _ rfl) rfl sk0 ?_
  refine wpd_q 4 rfl zz6 trivial (q_ld Try.underlying43 rfl rfl rfl) rfl (fun _ h => h) ?_
  refine wpd_two 2 7 zz6 ?_ ?_
  ·
   refine wpa_tp 2 rfl trivial (t_bs0W Try.underlying43 Try.ti5) rfl (fun _ => (fun w h => .inr (h.sub SubC.h SubC.h))) (fun b7 p7 => ?_)
   refine wpd_two 5 7 zz6 ?_ ?_
   ·
    refine wpa_tp 5 rfl trivial (t_ap0 Try.underlying43 Try.ti5 rfl zz18 rfl rfl (fun w h => h.seen_old hb) (v8s_one _) zz0 zz0) rfl (fun _ => (fun w h => .inr (h.sub SubC.h SubC.h))) (fun b10 p10 => ?_)
    haveI := oneH (t := tg) p10 SV.nil
    refine wpd_p 6 rfl zz6 trivial (q_build (cs := [.int .u8 (tg.toNat : Int), b10, nl]) rfl (built_o1 tg p10)) rfl (fun w h => .inr (h.sub SubC.h SubC.h)) ?_
    refine wpd_t 7 rfl zz6 trivial (t_alloc Try.ti72 [.int .u8 0, nl, nl] rfl) rfl (fun _ => (fun w h => .inr (h.sub SubC.h SubC.h))) (fun b3 => ?_)
    refine wpd_t0 8 rfl zz6 trivial (t_stA Try.ti72 rfl rfl LenC.h OneC.h LenC.h) (fun _ => (fun w h => .inr (h.sub SubC.h SubC.h))) (fun _ => ?_)
    refine wpd_done zz6 ?_
    refine ex_then <| wpc_seq <| wpc_seq <| wpc_region <| wpl_q (q_pure rfl) rfl <| wpl_nil <| ex_then <| wpc_block ?_
    refine wpc_loopc (ι := { x : Nat × List HT × Value // (x.1 ≤ l.length) ∧ (x.2.1.length = x.1) ∧ (trs x.2.1 = trs (l.take x.1)) ∧ (SV x.2.2 x.2.1.length) }) [(1, _), (2, _), (3, _)] (fun x Lc => (4, .int .i64 ((x.1.1 : Nat) : Int)) :: Lc) (fun x => Mem w [] (.blk b3 72 [.int .u8 (tg.toNat : Int), b10, x.1.2.2] :: .blk b2 72 [.int .u8 0, nl, nl] :: .blk b1 72 [.int .u8 (tg.toNat : Int), bv, lv] :: .row b10 bs.length 5 1 (v8s bs) :: .row x.1.2.2 x.1.2.1.length 72 3 (hcs x.1.2.1) :: entsL x.1.2.1) []) (fun x => l.length - x.1.1) ⟨(0, [], nl), ⟨Nat.zero_le _, rfl, rfl, SV.nil⟩⟩ zz7 ?_ ?_
    ·
     exact fun w h => by
       have h2 : Mem _ _ [.blk b3 72 [.int .u8 (tg.toNat : Int), b10, nl], .blk b2 72 [.int .u8 0, nl, nl], .blk b1 72 [.int .u8 (tg.toNat : Int), bv, lv], .row b10 bs.length 5 1 (v8s bs), .row nl 0 72 3 []] [] w := (h.nilRow 72 3).sel
       exact h2
    ·
     rintro ⟨⟨i, ns, nv⟩, ⟨hi0, hi1, hi2, hi3⟩⟩; try dsimp only
     have hi0 : i ≤ l.length := hi0; have hi1 : ns.length = i := hi1; have hi2 : trs ns = trs (l.take i) := hi2; have hi3 : SV nv ns.length := hi3
     refine wpc_seq <| wpc_seq <| wpc_region <| wpl_q (q_pure rfl) rfl <| wpl_q (q_field Try.underlying72 rfl Try.ti70 rfl rfl _ rfl) rfl <| wpl_q (q_ld Try.underlying70 rfl rfl rfl) rfl ?_
     refine wpl_q (q_lenW Try.underlying70 rfl zz2) rfl ?_
     refine wpl_q (q_pure rfl) rfl <| wpl_nil <| ex_then ?_
     refine wpc_cond rfl (fun hc16 => ?_) (fun hc16 => ?_)
     ·
      simp only [decide_eq_true_eq] at hc16
      have hil : i < l.length := by omega
      haveI := (ht.kid hil).sv.one
      have hln := sm_len hsm
      refine wpc_skip <| ex_then <| wpc_seq <| wpc_block ?_
      refine wpc_draw 9 zz6 (fun _ h => h.drew) ?_
      refine wpd_p 0 rfl zz6 trivial (q_field Try.underlying72 rfl Try.ti70 rfl rfl _ rfl) rfl sk0 ?_
      refine wpd_q 1 rfl zz6 trivial (q_ld Try.underlying70 rfl rfl rfl) rfl (fun _ h => h) ?_
      refine wpd_p 2 rfl zz6 trivial (q_field Try.underlying72 rfl Try.ti70 rfl rfl _ rfl) rfl sk0 ?_
      refine wpd_qB 3 [5, 6, 7, 8, 9] rfl zz6 trivial (q_ld Try.underlying70 rfl rfl rfl) rfl (fun _ h => h) ?_
      refine wpd_p 4 rfl zz6 trivial (q_pure rfl) rfl sk0 ?_
      refine wpd_p 5 rfl zz6 trivial (q_idxW Try.underlying70 Try.ti72 rfl rfl zz2 zz0) rfl sk0 ?_
      refine wpd_qB 6 [7, 8, 9] rfl zz6 trivial (q_ldWN Try.underlying72 rfl Try.ti72 rfl (fun w h => h.seen_old hk) (l.getD i HT.z).c (cat_part HT.c_length HT.z hil) (HT.c_length _)) rfl (fun _ h => h) ?_
      refine wpd_tp 7 rfl zz6 trivial (t_callE (fun y : HT => .blk b3 72 [.int .u8 (tg.toNat : Int), b10, nv] :: .blk b2 72 [.int .u8 0, nl, nl] :: .blk b1 72 [.int .u8 (tg.toNat : Int), bv, lv] :: .row b10 bs.length 5 1 (v8s bs) :: .row nv ns.length 72 3 (hcs ns) :: (y.ents ++ entsL ns)) (fun y => List.perm_append_comm_assoc y.ents [.blk b3 72 [.int .u8 (tg.toNat : Int), b10, nv], .blk b2 72 [.int .u8 0, nl, nl], .blk b1 72 [.int .u8 (tg.toNat : Int), bv, lv], .row b10 bs.length 5 1 (v8s bs), .row nv ns.length 72 3 (hcs ns)] (entsL ns)) Try.hb102 rfl fun w h => ih (l.getD i HT.z) (getD_memH hil) w ((ht.kid hil).old h) (hsm.kid hil)) rfl (fun _ => (fun w h => .inr (h.sub SubC.h SubC.h))) (fun b26 p26 => ?_)
      haveI := p26.2.one
      have sb28 := p26.2
      refine wpd_tp 8 rfl zz6 trivial (t_bsG [.agg b26.c.toArray] b26.c Try.underlying70 Try.ti72 rfl zz18 rfl zz18 zz18 rfl zz30 (List.append_nil _)) rfl (fun _ => (fun w h => .inr (h.sub SubC.h SubC.h))) (fun b27 p27 => ?_)
      refine wpd_tp 9 rfl zz6 trivial (t_apW Try.underlying70 Try.ti72 rfl zz18 rfl rfl (fun w h => zz1) OneC.h zz0 zz0 (hcs (ns ++ [b26])) (cat_snoc HT.c ns b26)) rfl (fun _ => skk rfl) (fun b28 p28 => ?_)
      refine wpd_p 10 rfl zz6 trivial (q_field Try.underlying72 rfl Try.ti70 rfl rfl _ rfl) rfl (skk rfl) ?_
      refine wpd_t0 11 rfl zz6 trivial (t_st1 Try.ti70 rfl rfl (SV.one zz2) zz3 [.int .u8 (tg.toNat : Int), b10, b28] rfl) (fun _ => skk rfl) (fun _ => ?_)
      refine wpd_done zz6 ?_
      refine ex_block <| ex_then <| wpc_region <| wpl_q (q_pure rfl) rfl ?_
      refine wpl_q (q_addN (b := 1) rfl rfl zz0) rfl ?_
      refine wpl_q (q_pure rfl) rfl <| wpl_nil ?_
      refine ex_again ⟨(i + 1, ns ++ [b26], b28), ⟨zz11, by rw [snoc_len, hi1], by rw [trs_append, hi2, trs_takeS hil, ← p26.1]; rfl, by rw [snoc_len]; exact p28⟩⟩ ?_ ?_ ?_
      ·
       exact zz7
      ·
       exact fun w h => by
         dsimp only
         rw [snoc_len]
         have h2 := h.sub (M' := .blk b3 72 [.int .u8 (tg.toNat : Int), b10, b28] :: .blk b2 72 [.int .u8 0, nl, nl] :: .blk b1 72 [.int .u8 (tg.toNat : Int), bv, lv] :: .row b10 bs.length 5 1 (v8s bs) :: .row b28 (ns.length + 1) 72 3 (hcs (ns ++ [b26])) :: (b26.ents ++ entsL ns)) (S' := []) SubC.h .nil
         exact h2.perm ((((((entsL_snoc ns b26).cons _).cons _).cons _).cons _).cons _)
      ·
       (show l.length - (i + 1) < l.length - i); omega
     ·
      simp only [decide_eq_false_iff_not] at hc16
      obtain rfl : i = l.length := by omega
      rw [List.take_length] at hi2
      haveI := oneH (t := tg) p10 hi3
      refine wpc_exit ?_
      refine ex_then_exit ?_
      refine ex_then_exit ?_
      refine ex_block_hit ?_
      refine ex_then <| wpc_seq <| wpc_region <| wpl_q (q_ldN Try.underlying72 rfl Try.ti72 rfl LenC.h) rfl ?_
      refine wpl_t0 (t_stA Try.ti72 rfl rfl LenC.h OneC.h LenC.h) (fun _ => ?_)
      refine wpl_nil <| ex_then <| wpc_ret ?_
      refine retv1 (.inl rfl) rfl (rv_agg Try.underlying72 rfl Try.ti72 rfl (fun w h => h.atB) rfl) ?_
      exact fun w h => ⟨.nd tg b10 bs nv ns, ⟨by show Tr.nd tg bs (trs ns) = Tr.nd tg bs (trs l); rw [hi2], p10, hi3⟩, rfl, h.below, madeT (h.sub SubC.h .nil)⟩
   ·
    refine wpa_t 7 rfl trivial (t_alloc Try.ti72 [.int .u8 0, nl, nl] rfl) rfl (fun _ => (fun w h => .inr (h.sub SubC.h SubC.h))) (fun b3 => ?_)
    refine wpd_tp 5 rfl zz6 trivial (t_ap0 Try.underlying43 Try.ti5 rfl zz18 rfl rfl (fun w h => h.seen_old hb) (v8s_one _) zz0 zz0) rfl (fun _ => (fun w h => .inr (h.sub SubC.h SubC.h))) (fun b10 p10 => ?_)
    haveI := oneH (t := tg) p10 SV.nil
    refine wpd_p 6 rfl zz6 trivial (q_build (cs := [.int .u8 (tg.toNat : Int), b10, nl]) rfl (built_o1 tg p10)) rfl (fun w h => .inr (h.sub SubC.h SubC.h)) ?_
    refine wpd_t0 8 rfl zz6 trivial (t_stA Try.ti72 rfl rfl LenC.h OneC.h LenC.h) (fun _ => (fun w h => .inr (h.sub SubC.h SubC.h))) (fun _ => ?_)
    refine wpd_done zz6 ?_
    refine ex_then <| wpc_seq <| wpc_seq <| wpc_region <| wpl_q (q_pure rfl) rfl <| wpl_nil <| ex_then <| wpc_block ?_
    refine wpc_loopc (ι := { x : Nat × List HT × Value // (x.1 ≤ l.length) ∧ (x.2.1.length = x.1) ∧ (trs x.2.1 = trs (l.take x.1)) ∧ (SV x.2.2 x.2.1.length) }) [(1, _), (2, _), (3, _)] (fun x Lc => (4, .int .i64 ((x.1.1 : Nat) : Int)) :: Lc) (fun x => Mem w [] (.blk b3 72 [.int .u8 (tg.toNat : Int), b10, x.1.2.2] :: .blk b2 72 [.int .u8 0, nl, nl] :: .blk b1 72 [.int .u8 (tg.toNat : Int), bv, lv] :: .row b10 bs.length 5 1 (v8s bs) :: .row x.1.2.2 x.1.2.1.length 72 3 (hcs x.1.2.1) :: entsL x.1.2.1) []) (fun x => l.length - x.1.1) ⟨(0, [], nl), ⟨Nat.zero_le _, rfl, rfl, SV.nil⟩⟩ zz7 ?_ ?_
    ·
     exact fun w h => by
       have h2 : Mem _ _ [.blk b3 72 [.int .u8 (tg.toNat : Int), b10, nl], .blk b2 72 [.int .u8 0, nl, nl], .blk b1 72 [.int .u8 (tg.toNat : Int), bv, lv], .row b10 bs.length 5 1 (v8s bs), .row nl 0 72 3 []] [] w := (h.nilRow 72 3).sel
       exact h2
    ·
     rintro ⟨⟨i, ns, nv⟩, ⟨hi0, hi1, hi2, hi3⟩⟩; try dsimp only
     have hi0 : i ≤ l.length := hi0; have hi1 : ns.length = i := hi1; have hi2 : trs ns = trs (l.take i) := hi2; have hi3 : SV nv ns.length := hi3
     refine wpc_seq <| wpc_seq <| wpc_region <| wpl_q (q_pure rfl) rfl <| wpl_q (q_field Try.underlying72 rfl Try.ti70 rfl rfl _ rfl) rfl <| wpl_q (q_ld Try.underlying70 rfl rfl rfl) rfl ?_
     refine wpl_q (q_lenW Try.underlying70 rfl zz2) rfl ?_
     refine wpl_q (q_pure rfl) rfl <| wpl_nil <| ex_then ?_
     refine wpc_cond rfl (fun hc16 => ?_) (fun hc16 => ?_)
     ·
      simp only [decide_eq_true_eq] at hc16
      have hil : i < l.length := by omega
      haveI := (ht.kid hil).sv.one
      have hln := sm_len hsm
      refine wpc_skip <| ex_then <| wpc_seq <| wpc_block ?_
      refine wpc_draw 9 zz6 (fun _ h => h.drew) ?_
      refine wpd_p 0 rfl zz6 trivial (q_field Try.underlying72 rfl Try.ti70 rfl rfl _ rfl) rfl sk0 ?_
      refine wpd_q 1 rfl zz6 trivial (q_ld Try.underlying70 rfl rfl rfl) rfl (fun _ h => h) ?_
      refine wpd_p 2 rfl zz6 trivial (q_field Try.underlying72 rfl Try.ti70 rfl rfl _ rfl) rfl sk0 ?_
      refine wpd_qB 3 [5, 6, 7, 8, 9] rfl zz6 trivial (q_ld Try.underlying70 rfl rfl rfl) rfl (fun _ h => h) ?_
      refine wpd_p 4 rfl zz6 trivial (q_pure rfl) rfl sk0 ?_
      refine wpd_p 5 rfl zz6 trivial (q_idxW Try.underlying70 Try.ti72 rfl rfl zz2 zz0) rfl sk0 ?_
      refine wpd_qB 6 [7, 8, 9] rfl zz6 trivial (q_ldWN Try.underlying72 rfl Try.ti72 rfl (fun w h => h.seen_old hk) (l.getD i HT.z).c (cat_part HT.c_length HT.z hil) (HT.c_length _)) rfl (fun _ h => h) ?_
      refine wpd_tp 7 rfl zz6 trivial (t_callE (fun y : HT => .blk b3 72 [.int .u8 (tg.toNat : Int), b10, nv] :: .blk b2 72 [.int .u8 0, nl, nl] :: .blk b1 72 [.int .u8 (tg.toNat : Int), bv, lv] :: .row b10 bs.length 5 1 (v8s bs) :: .row nv ns.length 72 3 (hcs ns) :: (y.ents ++ entsL ns)) (fun y => List.perm_append_comm_assoc y.ents [.blk b3 72 [.int .u8 (tg.toNat : Int), b10, nv], .blk b2 72 [.int .u8 0, nl, nl], .blk b1 72 [.int .u8 (tg.toNat : Int), bv, lv], .row b10 bs.length 5 1 (v8s bs), .row nv ns.length 72 3 (hcs ns)] (entsL ns)) Try.hb102 rfl fun w h => ih (l.getD i HT.z) (getD_memH hil) w ((ht.kid hil).old h) (hsm.kid hil)) rfl (fun _ => (fun w h => .inr (h.sub SubC.h SubC.h))) (fun b26 p26 => ?_)
      haveI := p26.2.one
      have sb28 := p26.2
      refine wpd_tp 8 rfl zz6 trivial (t_bsG [.agg b26.c.toArray] b26.c Try.underlying70 Try.ti72 rfl zz18 rfl zz18 zz18 rfl zz30 (List.append_nil _)) rfl (fun _ => (fun w h => .inr (h.sub SubC.h SubC.h))) (fun b27 p27 => ?_)
      refine wpd_tp 9 rfl zz6 trivial (t_apW Try.underlying70 Try.ti72 rfl zz18 rfl rfl (fun w h => zz1) OneC.h zz0 zz0 (hcs (ns ++ [b26])) (cat_snoc HT.c ns b26)) rfl (fun _ => skk rfl) (fun b28 p28 => ?_)
      refine wpd_p 10 rfl zz6 trivial (q_field Try.underlying72 rfl Try.ti70 rfl rfl _ rfl) rfl (skk rfl) ?_
      refine wpd_t0 11 rfl zz6 trivial (t_st1 Try.ti70 rfl rfl (SV.one zz2) zz3 [.int .u8 (tg.toNat : Int), b10, b28] rfl) (fun _ => skk rfl) (fun _ => ?_)
      refine wpd_done zz6 ?_
      refine ex_block <| ex_then <| wpc_region <| wpl_q (q_pure rfl) rfl ?_
      refine wpl_q (q_addN (b := 1) rfl rfl zz0) rfl ?_
      refine wpl_q (q_pure rfl) rfl <| wpl_nil ?_
      refine ex_again ⟨(i + 1, ns ++ [b26], b28), ⟨zz11, by rw [snoc_len, hi1], by rw [trs_append, hi2, trs_takeS hil, ← p26.1]; rfl, by rw [snoc_len]; exact p28⟩⟩ ?_ ?_ ?_
      ·
       exact zz7
      ·
       exact fun w h => by
         dsimp only
         rw [snoc_len]
         have h2 := h.sub (M' := .blk b3 72 [.int .u8 (tg.toNat : Int), b10, b28] :: .blk b2 72 [.int .u8 0, nl, nl] :: .blk b1 72 [.int .u8 (tg.toNat : Int), bv, lv] :: .row b10 bs.length 5 1 (v8s bs) :: .row b28 (ns.length + 1) 72 3 (hcs (ns ++ [b26])) :: (b26.ents ++ entsL ns)) (S' := []) SubC.h .nil
         exact h2.perm ((((((entsL_snoc ns b26).cons _).cons _).cons _).cons _).cons _)
      ·
       (show l.length - (i + 1) < l.length - i); omega
     ·
      simp only [decide_eq_false_iff_not] at hc16
      obtain rfl : i = l.length := by omega
      rw [List.take_length] at hi2
      haveI := oneH (t := tg) p10 hi3
      refine wpc_exit ?_
      refine ex_then_exit ?_
      refine ex_then_exit ?_
      refine ex_block_hit ?_
      refine ex_then <| wpc_seq <| wpc_region <| wpl_q (q_ldN Try.underlying72 rfl Try.ti72 rfl LenC.h) rfl ?_
      refine wpl_t0 (t_stA Try.ti72 rfl rfl LenC.h OneC.h LenC.h) (fun _ => ?_)
      refine wpl_nil <| ex_then <| wpc_ret ?_
      refine retv1 (.inl rfl) rfl (rv_agg Try.underlying72 rfl Try.ti72 rfl (fun w h => h.atB) rfl) ?_
      exact fun w h => ⟨.nd tg b10 bs nv ns, ⟨by show Tr.nd tg bs (trs ns) = Tr.nd tg bs (trs l); rw [hi2], p10, hi3⟩, rfl, h.below, madeT (h.sub SubC.h .nil)⟩
  ·
   refine wpa_t 7 rfl trivial (t_alloc Try.ti72 [.int .u8 0, nl, nl] rfl) rfl (fun _ => (fun w h => .inr (h.sub SubC.h SubC.h))) (fun b3 => ?_)
   refine wpd_tp 2 rfl zz6 trivial (t_bs0W Try.underlying43 Try.ti5) rfl (fun _ => (fun w h => .inr (h.sub SubC.h SubC.h))) (fun b7 p7 => ?_)
   refine wpd_tp 5 rfl zz6 trivial (t_ap0 Try.underlying43 Try.ti5 rfl zz18 rfl rfl (fun w h => h.seen_old hb) (v8s_one _) zz0 zz0) rfl (fun _ => (fun w h => .inr (h.sub SubC.h SubC.h))) (fun b10 p10 => ?_)
   haveI := oneH (t := tg) p10 SV.nil
   refine wpd_p 6 rfl zz6 trivial (q_build (cs := [.int .u8 (tg.toNat : Int), b10, nl]) rfl (built_o1 tg p10)) rfl (fun w h => .inr (h.sub SubC.h SubC.h)) ?_
   refine wpd_t0 8 rfl zz6 trivial (t_stA Try.ti72 rfl rfl LenC.h OneC.h LenC.h) (fun _ => (fun w h => .inr (h.sub SubC.h SubC.h))) (fun _ => ?_)
   refine wpd_done zz6 ?_
   refine ex_then <| wpc_seq <| wpc_seq <| wpc_region <| wpl_q (q_pure rfl) rfl <| wpl_nil <| ex_then <| wpc_block ?_
   refine wpc_loopc (ι := { x : Nat × List HT × Value // (x.1 ≤ l.length) ∧ (x.2.1.length = x.1) ∧ (trs x.2.1 = trs (l.take x.1)) ∧ (SV x.2.2 x.2.1.length) }) [(1, _), (2, _), (3, _)] (fun x Lc => (4, .int .i64 ((x.1.1 : Nat) : Int)) :: Lc) (fun x => Mem w [] (.blk b3 72 [.int .u8 (tg.toNat : Int), b10, x.1.2.2] :: .blk b2 72 [.int .u8 0, nl, nl] :: .blk b1 72 [.int .u8 (tg.toNat : Int), bv, lv] :: .row b10 bs.length 5 1 (v8s bs) :: .row x.1.2.2 x.1.2.1.length 72 3 (hcs x.1.2.1) :: entsL x.1.2.1) []) (fun x => l.length - x.1.1) ⟨(0, [], nl), ⟨Nat.zero_le _, rfl, rfl, SV.nil⟩⟩ zz7 ?_ ?_
   ·
    exact fun w h => by
      have h2 : Mem _ _ [.blk b3 72 [.int .u8 (tg.toNat : Int), b10, nl], .blk b2 72 [.int .u8 0, nl, nl], .blk b1 72 [.int .u8 (tg.toNat : Int), bv, lv], .row b10 bs.length 5 1 (v8s bs), .row nl 0 72 3 []] [] w := (h.nilRow 72 3).sel
      exact h2
   ·
    rintro ⟨⟨i, ns, nv⟩, ⟨hi0, hi1, hi2, hi3⟩⟩; try dsimp only
    have hi0 : i ≤ l.length := hi0; have hi1 : ns.length = i := hi1; have hi2 : trs ns = trs (l.take i) := hi2; have hi3 : SV nv ns.length := hi3
    refine wpc_seq <| wpc_seq <| wpc_region <| wpl_q (q_pure rfl) rfl <| wpl_q (q_field Try.underlying72 rfl Try.ti70 rfl rfl _ rfl) rfl <| wpl_q (q_ld Try.underlying70 rfl rfl rfl) rfl ?_
    refine wpl_q (q_lenW Try.underlying70 rfl zz2) rfl ?_
    refine wpl_q (q_pure rfl) rfl <| wpl_nil <| ex_then ?_
    refine wpc_cond rfl (fun hc16 => ?_) (fun hc16 => ?_)
    ·
     simp only [decide_eq_true_eq] at hc16
     have hil : i < l.length := by omega
     haveI := (ht.kid hil).sv.one
     have hln := sm_len hsm
     refine wpc_skip <| ex_then <| wpc_seq <| wpc_block ?_
     refine wpc_draw 9 zz6 (fun _ h => h.drew) ?_
     refine wpd_p 0 rfl zz6 trivial (q_field Try.underlying72 rfl Try.ti70 rfl rfl _ rfl) rfl sk0 ?_
     refine wpd_q 1 rfl zz6 trivial (q_ld Try.underlying70 rfl rfl rfl) rfl (fun _ h => h) ?_
     refine wpd_p 2 rfl zz6 trivial (q_field Try.underlying72 rfl Try.ti70 rfl rfl _ rfl) rfl sk0 ?_
     refine wpd_qB 3 [5, 6, 7, 8, 9] rfl zz6 trivial (q_ld Try.underlying70 rfl rfl rfl) rfl (fun _ h => h) ?_
     refine wpd_p 4 rfl zz6 trivial (q_pure rfl) rfl sk0 ?_
     refine wpd_p 5 rfl zz6 trivial (q_idxW Try.underlying70 Try.ti72 rfl rfl zz2 zz0) rfl sk0 ?_
     refine wpd_qB 6 [7, 8, 9] rfl zz6 trivial (q_ldWN Try.underlying72 rfl Try.ti72 rfl (fun w h => h.seen_old hk) (l.getD i HT.z).c (cat_part HT.c_length HT.z hil) (HT.c_length _)) rfl (fun _ h => h) ?_
     refine wpd_tp 7 rfl zz6 trivial (t_callE (fun y : HT => .blk b3 72 [.int .u8 (tg.toNat : Int), b10, nv] :: .blk b2 72 [.int .u8 0, nl, nl] :: .blk b1 72 [.int .u8 (tg.toNat : Int), bv, lv] :: .row b10 bs.length 5 1 (v8s bs) :: .row nv ns.length 72 3 (hcs ns) :: (y.ents ++ entsL ns)) (fun y => List.perm_append_comm_assoc y.ents [.blk b3 72 [.int .u8 (tg.toNat : Int), b10, nv], .blk b2 72 [.int .u8 0, nl, nl], .blk b1 72 [.int .u8 (tg.toNat : Int), bv, lv], .row b10 bs.length 5 1 (v8s bs), .row nv ns.length 72 3 (hcs ns)] (entsL ns)) Try.hb102 rfl fun w h => ih (l.getD i HT.z) (getD_memH hil) w ((ht.kid hil).old h) (hsm.kid hil)) rfl (fun _ => (fun w h => .inr (h.sub SubC.h SubC.h))) (fun b26 p26 => ?_)
     haveI := p26.2.one
     have sb28 := p26.2
     refine wpd_tp 8 rfl zz6 trivial (t_bsG [.agg b26.c.toArray] b26.c Try.underlying70 Try.ti72 rfl zz18 rfl zz18 zz18 rfl zz30 (List.append_nil _)) rfl (fun _ => (fun w h => .inr (h.sub SubC.h SubC.h))) (fun b27 p27 => ?_)
     refine wpd_tp 9 rfl zz6 trivial (t_apW Try.underlying70 Try.ti72 rfl zz18 rfl rfl (fun w h => zz1) OneC.h zz0 zz0 (hcs (ns ++ [b26])) (cat_snoc HT.c ns b26)) rfl (fun _ => skk rfl) (fun b28 p28 => ?_)
     refine wpd_p 10 rfl zz6 trivial (q_field Try.underlying72 rfl Try.ti70 rfl rfl _ rfl) rfl (skk rfl) ?_
     refine wpd_t0 11 rfl zz6 trivial (t_st1 Try.ti70 rfl rfl (SV.one zz2) zz3 [.int .u8 (tg.toNat : Int), b10, b28] rfl) (fun _ => skk rfl) (fun _ => ?_)
     refine wpd_done zz6 ?_
     refine ex_block <| ex_then <| wpc_region <| wpl_q (q_pure rfl) rfl ?_
     refine wpl_q (q_addN (b := 1) rfl rfl zz0) rfl ?_
     refine wpl_q (q_pure rfl) rfl <| wpl_nil ?_
     refine ex_again ⟨(i + 1, ns ++ [b26], b28), ⟨zz11, by rw [snoc_len, hi1], by rw [trs_append, hi2, trs_takeS hil, ← p26.1]; rfl, by rw [snoc_len]; exact p28⟩⟩ ?_ ?_ ?_
     ·
      exact zz7
     ·
      exact fun w h => by
        dsimp only
        rw [snoc_len]
        have h2 := h.sub (M' := .blk b3 72 [.int .u8 (tg.toNat : Int), b10, b28] :: .blk b2 72 [.int .u8 0, nl, nl] :: .blk b1 72 [.int .u8 (tg.toNat : Int), bv, lv] :: .row b10 bs.length 5 1 (v8s bs) :: .row b28 (ns.length + 1) 72 3 (hcs (ns ++ [b26])) :: (b26.ents ++ entsL ns)) (S' := []) SubC.h .nil
        exact h2.perm ((((((entsL_snoc ns b26).cons _).cons _).cons _).cons _).cons _)
     ·
      (show l.length - (i + 1) < l.length - i); omega
    ·
     simp only [decide_eq_false_iff_not] at hc16
     obtain rfl : i = l.length := by omega
     rw [List.take_length] at hi2
     haveI := oneH (t := tg) p10 hi3
     refine wpc_exit ?_
     refine ex_then_exit ?_
     refine ex_then_exit ?_
     refine ex_block_hit ?_
     refine ex_then <| wpc_seq <| wpc_region <| wpl_q (q_ldN Try.underlying72 rfl Try.ti72 rfl LenC.h) rfl ?_
     refine wpl_t0 (t_stA Try.ti72 rfl rfl LenC.h OneC.h LenC.h) (fun _ => ?_)
     refine wpl_nil <| ex_then <| wpc_ret ?_
     refine retv1 (.inl rfl) rfl (rv_agg Try.underlying72 rfl Try.ti72 rfl (fun w h => h.atB) rfl) ?_
     exact fun w h => ⟨.nd tg b10 bs nv ns, ⟨by show Tr.nd tg bs (trs ns) = Tr.nd tg bs (trs l); rw [hi2], p10, hi3⟩, rfl, h.below, madeT (h.sub SubC.h .nil)⟩
theorem refTwin : ∀ (t : HT) (w : World), HSeen w.cell? t → Sm t.tr → Calls Try.prog 102 [.agg t.c.toArray].toArray w (GivesP w (fun y : HT => y.tr = t.tr ∧ y.sv) (fun y => .agg y.c.toArray) (fun y => y.ents) (fun _ => [])) := by
  intro t
  induction t using HT.ind with
  | _ tg bv bs lv l ih => intro w h hs; exact refTwin_step _ w h hs (fun x hx w hx' hs' => ih x hx w hx' hs')
theorem octTwin_step (t : HT) (w : World) (ht : HSeen w.cell? t) (hsm : Sm t.tr) (ih : ∀ x ∈ t.kids, ∀ (w : World), HSeen w.cell? x → Sm x.tr → Calls Try.prog 70 [.agg x.c.toArray].toArray w (GivesP w (fun y : HT => y.tr = x.tr ∧ y.sv) (fun y => .agg y.c.toArray) (fun y => y.ents) (fun _ => []))) :
    Calls Try.prog 70 [.agg t.c.toArray].toArray w (GivesP w (fun y : HT => y.tr = t.tr ∧ y.sv) (fun y => .agg y.c.toArray) (fun y => y.ents) (fun _ => [])) := by
  obtain ⟨tg, bv, bs, lv, l⟩ := t
  have hb := ht.1
  have hk := ht.2.1
  have svb := hb.sv
  have svl := hk.sv
  have lb := svb.le
  have ll := svl.le
  simp only [maxLen] at lb ll
  have hln := sm_len hsm
  refine enter (m := 29) (R := Mem w [] [] []) Try.func70 rfl rfl (Nat.le_of_ble_eq_true rfl) (Mem.start w) ?_
  refine wpc_seq <| wpc_region ?_
  refine wpl_t (t_box rfl [.int .u8 (tg.toNat : Int), bv, lv] rfl) rfl (fun b1 => ?_)
  refine wpl_t (t_alloc Try.ti72 [.int .u8 0, nl, nl] rfl) rfl (fun b2 => ?_)
  refine wpl_nil <| ex_then ?_
  refine wpc_cutc ({ x : Nat × Nat × Value × Value // (SV x.2.2.1 bs.length) ∧ (SV x.2.2.2 l.length) }) [] (fun x Lc => (1, .pointer (some ⟨x.1.1, 0, none⟩)) :: (2, .pointer (some ⟨x.1.2.1, 0, none⟩)) :: Lc) (fun x => Mem w [] [.blk x.1.1 72 [.int .u8 (tg.toNat : Int), x.1.2.2.1, x.1.2.2.2], .blk x.1.2.1 72 [.int .u8 0, nl, nl], .row x.1.2.2.1 bs.length 5 1 (v8s bs), .row x.1.2.2.2 l.length 72 3 (hcs l)] []) ?_ ?_
  ·
   refine wpc_draw 7 zz6 (fun _ h => h.drew) ?_
   refine wpd_p 0 rfl zz6 trivial (q_field Try.underlying72 rfl Try.ti43 rfl rfl _ rfl) rfl sk0 ?_
   refine wpd_q 1 rfl zz6 trivial (q_ld Try.underlying43 rfl rfl rfl) rfl (fun _ h => h) ?_
   refine wpd_p 3 rfl zz6 trivial (q_field Try.underlying72 rfl Try.ti70 rfl rfl _ rfl) rfl sk0 ?_
   refine wpd_q 4 rfl zz6 trivial (q_ld Try.underlying70 rfl rfl rfl) rfl (fun _ h => h) ?_
   refine wpd_tp 2 rfl zz6 trivial (t_callP1 Try.hb95 rfl fun w h => cloneB _ bs w (h.seen_old hb) hln.2) rfl (fun _ => (fun w h => .inr (h.sub SubC.h SubC.h))) (fun b7 p7 => ?_)
   refine wpd_p 6 rfl zz6 trivial (q_field Try.underlying72 rfl Try.ti43 rfl rfl _ rfl) rfl (fun w h => .inr (h.sub SubC.h SubC.h)) ?_
   refine wpd_tp 5 rfl zz6 trivial (t_callP1 Try.hb96 rfl fun w h => cloneO _ l w (h.seen_old hk) hln.1 ht.2.2.sv) rfl (fun _ => (fun w h => .inr (h.sub SubC.h SubC.h))) (fun b10 p10 => ?_)
   refine wpd_t0 7 rfl zz6 trivial (t_st1 Try.ti43 rfl rfl (SV.one zz2) zz3 [.int .u8 (tg.toNat : Int), b7, lv] rfl) (fun _ => skk rfl) (fun _ => ?_)
   refine wpd_p 8 rfl zz6 trivial (q_field Try.underlying72 rfl Try.ti70 rfl rfl _ rfl) rfl (skk rfl) ?_
   refine wpd_t0 9 rfl zz6 trivial (t_st1 Try.ti70 rfl rfl (SV.one zz2) zz3 [.int .u8 (tg.toNat : Int), b7, b10] rfl) (fun _ => skk rfl) (fun _ => ?_)
   refine wpd_done zz6 ?_
   refine ex_mid ⟨(b1, b2, b7, b10), ⟨p7, p10⟩⟩ ?_ ?_
   ·
    exact zz7
   ·
    exact fun w h => by dsimp only; exact h.sel
  ·
   rintro ⟨⟨b1, b2, nb, nv⟩, ⟨hi0, hi1⟩⟩; try dsimp only
   have hi0 : SV nb bs.length := hi0; have hi1 : SV nv l.length := hi1
   have snb : SV nb bs.length := hi0
   have snv : SV nv l.length := hi1
   haveI := oneH (t := tg) snb snv
   refine wpc_seq <| wpc_seq <| wpc_region <| wpl_q (q_field Try.underlying72 rfl Try.ti70 rfl rfl _ rfl) rfl <| wpl_q (q_ld Try.underlying70 rfl rfl rfl) rfl ?_
   refine wpl_q (q_lenW Try.underlying70 rfl zz2) rfl ?_
   refine wpl_q (q_pure rfl) rfl <| wpl_nil <| ex_then <| wpc_block ?_
   refine wpc_loopc (ι := { x : Nat × List HT // (x.1 ≤ l.length) ∧ (x.2.length = x.1) ∧ (trs x.2 = trs (l.take x.1)) }) [(1, _), (2, _), (14, _), (15, _)] (fun x Lc => (16, .int .i64 ((x.1.1 : Nat) : Int)) :: Lc) (fun x => Mem w [] (.blk b1 72 [.int .u8 (tg.toNat : Int), nb, nv] :: .blk b2 72 [.int .u8 0, nl, nl] :: .row nb bs.length 5 1 (v8s bs) :: .row nv l.length 72 3 (hcs (x.1.2 ++ l.drop x.1.1)) :: entsL x.1.2) []) (fun x => l.length - x.1.1) ⟨(0, []), ⟨Nat.zero_le _, rfl, rfl⟩⟩ zz7 ?_ ?_
   ·
    exact fun w h => h
   ·
    rintro ⟨⟨i, ns⟩, ⟨hi0, hi1, hi2⟩⟩; try dsimp only
    have hi0 : i ≤ l.length := hi0; have hi1 : ns.length = i := hi1; have hi2 : trs ns = trs (l.take i) := hi2
    refine wpc_seq <| wpc_region <| wpl_q (q_pure rfl) rfl <| wpl_nil <| ex_then <| wpc_seq ?_
    refine wpc_cond rfl (fun hc17 => ?_) (fun hc17 => ?_)
    ·
     simp only [decide_eq_true_eq] at hc17
     have hil : i < l.length := by omega
     haveI := (ht.kid hil).sv.one
     have hin : i < (ns ++ l.drop i).length := by rw [List.length_append, List.length_drop]; omega
     refine wpc_skip <| ex_then <| wpc_seq <| wpc_block <| wpc_seq <| wpc_region <| wpl_q (q_pure rfl) rfl ?_
     refine wpl_q (q_idxW Try.underlying70 Try.ti72 rfl rfl zz2 zz0) rfl ?_
     refine wpl_q (q_ldWN Try.underlying72 rfl Try.ti72 rfl (fun w h => h.seenV) (l.getD i HT.z).c (by rw [cat_part HT.c_length HT.z hin, tw_get hi1 hil]) (HT.c_length _)) rfl ?_
     refine wpl_t (t_alloc Try.ti72 [.int .u8 0, nl, nl] rfl) rfl (fun b4 => ?_)
     refine wpl_q (q_pure rfl) rfl ?_
     refine wpl_t0 (t_stA Try.ti72 rfl rfl LenC.h OneC.h LenC.h) (fun _ => ?_)
     refine wpl_nil <| ex_then ?_
     refine wpc_draw 6 zz6 (fun _ h => h.drew) ?_
     refine wpd_p 0 rfl zz6 trivial (q_field Try.underlying72 rfl Try.ti70 rfl rfl _ rfl) rfl sk0 ?_
     refine wpd_q 1 rfl zz6 trivial (q_ld Try.underlying70 rfl rfl rfl) rfl (fun _ h => h) ?_
     refine wpd_p 2 rfl zz6 trivial (q_pure rfl) rfl sk0 ?_
     refine wpd_q 3 rfl zz6 trivial (q_ldN Try.underlying72 rfl Try.ti72 rfl LenC.h) rfl (fun _ h => h) ?_
     refine wpd_tp 4 rfl zz6 trivial (t_callE (fun y : HT => .blk b4 72 (l.getD i HT.z).c :: .blk b1 72 [.int .u8 (tg.toNat : Int), nb, nv] :: .blk b2 72 [.int .u8 0, nl, nl] :: .row nb bs.length 5 1 (v8s bs) :: .row nv l.length 72 3 (hcs (ns ++ l.drop i)) :: (y.ents ++ entsL ns)) (fun y => List.perm_append_comm_assoc y.ents [.blk b4 72 (l.getD i HT.z).c, .blk b1 72 [.int .u8 (tg.toNat : Int), nb, nv], .blk b2 72 [.int .u8 0, nl, nl], .row nb bs.length 5 1 (v8s bs), .row nv l.length 72 3 (hcs (ns ++ l.drop i))] (entsL ns)) Try.hb70 rfl fun w h => ih (l.getD i HT.z) (getD_memH hil) w ((ht.kid hil).old h) (hsm.kid hil)) rfl (fun _ => (fun w h => .inr (h.sub SubC.h SubC.h))) (fun b25 p25 => ?_)
     haveI := p25.2.one
     refine wpd_p 5 rfl zz6 trivial (q_idxW Try.underlying70 Try.ti72 rfl rfl zz2 zz0) rfl (fun w h => .inr (h.sub SubC.h SubC.h)) ?_
     refine wpd_t0 6 rfl zz6 trivial (t_stWN (vs := b25.c) Try.ti72 rfl rfl rfl (HT.c_length _) OneC.h (by rw [HT.c_length, cat_len HT.c_length, List.length_append, List.length_drop]; omega) (by rw [cat_len HT.c_length, List.length_append, List.length_drop]; omega) (hcs (ns ++ [b25] ++ l.drop (i + 1))) (tw_put hi1 hil b25)) (fun _ => skk rfl) (fun _ => ?_)
     refine wpd_done zz6 ?_
     refine ex_block <| ex_then <| wpc_region ?_
     refine wpl_q (q_addN (b := 1) rfl rfl zz0) rfl ?_
     refine wpl_q (q_pure rfl) rfl <| wpl_nil ?_
     refine ex_again ⟨(i + 1, ns ++ [b25]), ⟨zz11, by rw [snoc_len, hi1], by rw [trs_append, hi2, trs_takeS hil, ← p25.1]; rfl⟩⟩ ?_ ?_ ?_
     ·
      exact zz7
     ·
      exact fun w h => by
        dsimp only
        have h2 := h.sub (M' := .blk b1 72 [.int .u8 (tg.toNat : Int), nb, nv] :: .blk b2 72 [.int .u8 0, nl, nl] :: .row nb bs.length 5 1 (v8s bs) :: .row nv l.length 72 3 (hcs (ns ++ [b25] ++ l.drop (i + 1))) :: (b25.ents ++ entsL ns)) (S' := []) SubC.h .nil
        exact h2.perm (((((entsL_snoc ns b25).cons _).cons _).cons _).cons _)
     ·
      (show l.length - (i + 1) < l.length - i); omega
    ·
     simp only [decide_eq_false_iff_not] at hc17
     obtain rfl : i = l.length := by omega
     rw [List.take_length] at hi2
     refine wpc_exit ?_
     refine ex_then_exit ?_
     refine ex_then_exit ?_
     refine ex_block_hit ?_
     refine ex_then <| wpc_seq <| wpc_region <| wpl_q (q_ldN Try.underlying72 rfl Try.ti72 rfl LenC.h) rfl ?_
     refine wpl_t0 (t_stA Try.ti72 rfl rfl LenC.h OneC.h LenC.h) (fun _ => ?_)
     refine wpl_nil <| ex_then <| wpc_ret ?_
     refine retv1 (.inl rfl) rfl (rv_agg Try.underlying72 rfl Try.ti72 rfl (fun w h => h.atB) rfl) ?_
     exact fun w h => ⟨.nd tg nb bs nv ns, ⟨by show Tr.nd tg bs (trs ns) = Tr.nd tg bs (trs l); rw [hi2], snb, by rw [hi1]; exact snv⟩, rfl, h.below, by rw [List.drop_length, List.append_nil, ← hi1] at h; exact madeT (h.sub SubC.h .nil)⟩
theorem octTwin : ∀ (t : HT) (w : World), HSeen w.cell? t → Sm t.tr → Calls Try.prog 70 [.agg t.c.toArray].toArray w (GivesP w (fun y : HT => y.tr = t.tr ∧ y.sv) (fun y => .agg y.c.toArray) (fun y => y.ents) (fun _ => [])) := by
  intro t
  induction t using HT.ind with
  | _ tg bv bs lv l ih => intro w h hs; exact octTwin_step _ w h hs (fun x hx w hx' hs' => ih x hx w hx' hs')
end Go.Proofs.Ytgnablliekgbgaa
namespace Go.Proofs.Ytgnablliekgbgaa
open Go Go.PL Go.RowKit
section
variable {P : Program} {n : Cx} {R : World → Prop} {L : Slots}
theorem q64_quo {t t' : TypeId} {x y : Operand} {a b : UInt64} (hx : ev L x = some (.int .u64 a.toNat)) (hy : ev L y = some (.int .u64 b.toNat)) (h0 : b.toNat ≠ 0) : QOp P n R L (.binOp .quo t x y t') (.int .u64 (a / b).toNat) := by
  have := q_quo (P := P) (n := n) (R := R) (t := t) (t' := t') hx hy zz11
  have e : wk .u64 ((a.toNat : Int).tdiv b.toNat) = ((a / b).toNat : Nat) := by
    have h1 := (a / b).toNat_lt
    rw [UInt64.toNat_div] at h1 ⊢
    have h3 : ((a.toNat : Int).tdiv b.toNat) = ((a.toNat / b.toNat : Nat) : Int) := rfl
    rw [h3]; clear h3 this
    generalize a.toNat / b.toNat = q at *
    simp only [wk]; omega
  rwa [e] at this
theorem q64_rem {t t' : TypeId} {x y : Operand} {a b : UInt64} (hx : ev L x = some (.int .u64 a.toNat)) (hy : ev L y = some (.int .u64 b.toNat)) (h0 : b.toNat ≠ 0) : QOp P n R L (.binOp .rem t x y t') (.int .u64 (a % b).toNat) := by
  have := q_rem (P := P) (n := n) (R := R) (t := t) (t' := t') hx hy zz11
  rw [UInt64.toNat_mod]
  exact this
end
theorem of8_mod (n : Nat) : of8 (((n % 256 : Nat) : Nat) : Int) = of8 ((n : Nat) : Int) := by
  apply UInt8.toNat_inj.1
  have h1 := of8_toNat ((n % 256 : Nat) : Int)
  have h2 := of8_toNat ((n : Nat) : Int)
  omega
def numK : Nat → Nat → List UInt8
  | 0, _ => []
  | k + 1, n => numK k (n / 256) ++ [of8 ((n % 256 : Nat) : Int)]
theorem numK_len : ∀ (k n : Nat), (numK k n).length = k
  | 0, _ => rfl
  | k + 1, n => by rw [numK, List.length_append, numK_len k]; rfl
def kB (n : Nat) : Nat := (lenF n + 7) / 8
def numB (n : Nat) : List UInt8 := numK (kB n) n
theorem kB_step {n : Nat} (h : n ≠ 0) : kB n = kB (n / 256) + 1 := by
  unfold kB
  by_cases h2 : 256 ≤ n
  · rw [lenF_shift 8 n h2]
    show (8 + lenF (n / 256) + 7) / 8 = _
    omega
  · have h1 := lenF_le (m := 8) (n := n) zz11
    have h3 := lenF_step h
    have e : n / 256 = 0 := by omega
    rw [e]
    show _ = 0 + 1
    omega
theorem numB_step {n : Nat} (h : n ≠ 0) : numB n = numB (n / 256) ++ [of8 ((n % 256 : Nat) : Int)] := by
  unfold numB
  rw [kB_step h]; rfl
theorem kB_le {n : Nat} (h : n < 2 ^ 64) : kB n ≤ 8 := by
  have := lenF_le h
  unfold kB; omega
theorem numB_len {n : Nat} (h : n < 2 ^ 64) : (numB n).length ≤ 8 := by rw [numB, numK_len]; exact kB_le h
theorem div_pow (n i : Nat) : n / 2 ^ (8 * (i + 1)) = n / 2 ^ (8 * i) / 256 := by
  rw [Nat.div_div_eq_div_mul, show 8 * (i + 1) = 8 * i + 8 from zz11, Nat.pow_add]
theorem num_step (n k s : Nat) (hs : 1 ≤ s) (hk : s ≤ k) : numK (k - (s - 1)) (n / 2 ^ (8 * (s - 1))) = numK (k - s) (n / 2 ^ (8 * s)) ++ [of8 ((n / 2 ^ (8 * (s - 1)) : Nat) : Int)] := by
  obtain ⟨m, rfl⟩ : ∃ m, s = m + 1 := ⟨s - 1, zz11⟩
  rw [show k - (m + 1 - 1) = (k - (m + 1)) + 1 from zz11, numK, Nat.add_sub_cancel, ← div_pow]
  congr 2
  exact of8_mod _
theorem numK_all (n : Nat) : numK (kB n - kB n) (n / 2 ^ (8 * kB n)) = [] := by rw [Nat.sub_self]; rfl
theorem refBytes_step (z : UInt64) (w : World)  (ih : ∀ (y : UInt64) (w : World), y.toNat < z.toNat → Calls Try.prog 104 [.int .u64 (y.toNat : Int)].toArray w (GivesP w (fun v : Value => SV v (numB y.toNat).length) (fun v => v) (fun v => [.row v (numB y.toNat).length 5 1 (v8s (numB y.toNat))]) (fun _ => []))) :
    Calls Try.prog 104 [.int .u64 z.toNat].toArray w (GivesP w (fun v : Value => SV v (numB z.toNat).length) (fun v => v) (fun v => [.row v (numB z.toNat).length 5 1 (v8s (numB z.toNat))]) (fun _ => [])) := by
  refine enter (m := 13) (R := Mem w [] [] []) Try.func104 rfl rfl (Nat.le_of_ble_eq_true rfl) (Mem.start w) ?_
  refine wpc_seq <| wpc_region <| wpl_q (q_pure rfl) rfl <| wpl_nil <| ex_then <| wpc_seq <| wpc_seq <| wpc_region <| wpl_q (q_pure rfl) rfl ?_
  refine wpl_q (q64_eql (b := (0 : UInt64)) rfl rfl) rfl ?_
  refine wpl_nil <| ex_then ?_
  refine wpc_cond rfl (fun hc4 => ?_) (fun hc4 => ?_)
  ·
   have hx : z = 0 := by simpa using hc4
   subst hx
   refine wpc_seq <| wpc_region <| wpl_q (q_pure rfl) rfl <| wpl_nil <| ex_then <| wpc_ret ?_
   refine ex_then_ret ?_
   refine ret1 (.inl rfl) rfl rfl ?_
   exact fun w h => ⟨nl, SV.nil, rfl, h.below, (h.nilRow 5 1).made zz5 .nil⟩
  ·
   have hx : z ≠ 0 := by simpa using hc4
   have hxn : z.toNat ≠ 0 := fun e => hx (UInt64.toNat_inj.1 (by rw [e]; rfl))
   have hd : (z / 256).toNat = z.toNat / 256 := UInt64.toNat_div z 256
   have hm : (z % 256).toNat = z.toNat % 256 := UInt64.toNat_mod z 256
   have hlx := numB_len z.toNat_lt
   have hlt := z.toNat_lt
   have hlq := numB_len (z / 256).toNat_lt
   refine wpc_skip <| ex_then <| wpc_seq <| wpc_region <| wpl_q (q_pure rfl) rfl ?_
   refine wpl_q (q64_quo (b := (256 : UInt64)) rfl rfl zz18) rfl ?_
   refine wpl_tp (t_callP1 Try.hb104 rfl fun w h => ih _ w (by rw [hd]; omega)) rfl (fun b7 p7 => ?_)
   refine wpl_q (q_pure rfl) rfl ?_
   refine wpl_q (q64_rem (b := (256 : UInt64)) rfl rfl zz18) rfl ?_
   refine wpl_q (q8_conv Try.underlying22 Try.underlying5 rfl) rfl ?_
   refine wpl_tp (t_bsV (v8s [_]) Try.underlying43 Try.ti5 rfl rfl zz18 zz18 rfl (v8s_one _)) rfl (fun b11 p11 => ?_)
   refine wpl_tp (t_apW Try.underlying43 Try.ti5 rfl zz18 rfl rfl (fun w h => zz1) (v8s_one _) zz0 zz0 (v8s (numB z.toNat)) (by rw [numB_step hxn, hd, hm]; exact (v8s_append _ _).symm)) rfl (fun b12 p12 => ?_)
   refine wpl_q (q_pure rfl) rfl <| wpl_nil <| ex_then <| wpc_ret ?_
   refine ret1 (.inl rfl) rfl rfl ?_
   have hle : (numB z.toNat).length = (numB (z / 256).toNat).length + 1 := by rw [numB_step hxn, ← hd, List.length_append]; rfl
   exact fun w h => ⟨b12, by rw [hle]; exact p12, rfl, h.below, by rw [hle]; exact h.made SubC.h .nil⟩
theorem refBytesG : ∀ (n : Nat) (z : UInt64) (w : World), z.toNat < n → Calls Try.prog 104 [.int .u64 (z.toNat : Int)].toArray w (GivesP w (fun v : Value => SV v (numB z.toNat).length) (fun v => v) (fun v => [.row v (numB z.toNat).length 5 1 (v8s (numB z.toNat))]) (fun _ => []))
  | 0, _, _, h => by omega
  | n + 1, z, w, h => refBytes_step z w (fun y w hy => refBytesG n y w zz11)
theorem refBytes (z : UInt64) (w : World) : Calls Try.prog 104 [.int .u64 (z.toNat : Int)].toArray w (GivesP w (fun v : Value => SV v (numB z.toNat).length) (fun v => v) (fun v => [.row v (numB z.toNat).length 5 1 (v8s (numB z.toNat))]) (fun _ => [])) := refBytesG _ z w (Nat.lt_succ_self _)
theorem seen_nil (r : Rd) (t : TypeId) (sz : Nat) : Seen r (.slice none 0 0) 0 sz [] := ⟨zz44, none, 0, rfl, Nat.le_refl _, zz18, .inl ⟨rfl, rfl⟩⟩
theorem made_str {w0 w : World} {M : List Ent} {S : List Fact} {tg : UInt8} {b : Value} {bs : List UInt8} (h : Mem w0 [] M (Go.PL.seen b bs.length 1 (v8s bs) :: S) w) : New w0.heap.size [] [Go.Proofs.Ytgnablliekgbgaa.hseen (.nd tg b bs nl [])] w :=
  (h.imp (T := [Go.Proofs.Ytgnablliekgbgaa.hseen (.nd tg b bs nl [])]) fun r hs f hf => by
    rw [List.mem_singleton] at hf; subst hf
    exact ⟨hs _ (List.mem_cons_self ..), seen_nil _ 72 3, trivial⟩).made .nil (Sub.refl _)
theorem octNum (tg : UInt8) (z : UInt64) (w : World)   :
    Calls Try.prog 41 [.int .u8 tg.toNat, .int .u64 z.toNat].toArray w (GivesP w (fun y : HT => y.tr = Tr.nd tg (numB z.toNat) [] ∧ y.sv) (fun y => .agg y.c.toArray) (fun y => y.ents) (fun _ => [])) := by
  have hkx := kB_le z.toNat_lt
  have hlx := lenF_le (m := 64) z.toNat_lt
  have hkd : (lenF z.toNat + 7) / 8 = kB z.toNat := rfl
  refine enter (m := 29) (R := Mem w [] [] []) Try.func41 rfl rfl (Nat.le_of_ble_eq_true rfl) (Mem.start w) ?_
  refine wpc_seq <| wpc_region ?_
  refine wpl_t (t_alloc Try.ti72 [.int .u8 0, nl, nl] rfl) rfl (fun b4 => ?_)
  refine wpl_nil <| ex_then <| wpc_seq <| wpc_region <| wpl_q (q_pure rfl) rfl ?_
  refine wpl_q (q_build (cs := [.int .u8 (tg.toNat : Int), nl, nl]) rfl (built_o0 tg)) rfl ?_
  refine wpl_t (t_alloc Try.ti72 [.int .u8 0, nl, nl] rfl) rfl (fun b5 => ?_)
  refine wpl_t0 (t_stA Try.ti72 rfl rfl LenC.h OneC.h LenC.h) (fun _ => ?_)
  refine wpl_nil <| ex_then <| wpc_seq <| wpc_seq <| wpc_region <| wpl_q (q_pure rfl) rfl ?_
  refine wpl_t (t_pur (v := .int .i64 ((lenF z.toNat : Nat) : Int)) Try.hb71 rfl fun w h => len64 z w) rfl (fun b10 => ?_)
  refine wpl_q (q_addN (b := 7) rfl rfl zz0) rfl ?_
  refine wpl_q (q_quoN (b := 8) rfl rfl zz29 zz0) rfl ?_
  refine wpl_q (q_pure rfl) rfl <| wpl_nil <| ex_then <| wpc_block ?_
  refine wpc_loopc (ι := { x : Nat × Value // (x.1 ≤ kB z.toNat) ∧ (SV x.2 (kB z.toNat - x.1)) }) [(1, _), (4, _), (5, _)] (fun x Lc => (6, .int .i64 ((x.1.1 : Nat) : Int)) :: Lc) (fun x => Mem w [] [.blk b4 72 [.int .u8 0, nl, nl], .blk b5 72 [.int .u8 (tg.toNat : Int), x.1.2, nl], .row x.1.2 (kB z.toNat - x.1.1) 5 1 (v8s (numK (kB z.toNat - x.1.1) (z.toNat / 2 ^ (8 * x.1.1))))] []) (fun x => x.1.1) ⟨(kB z.toNat, nl), ⟨Nat.le_refl _, by rw [Nat.sub_self]; exact SV.nil⟩⟩ zz7 ?_ ?_
  ·
   exact fun w h => by
     dsimp only
     rw [numK_all, Nat.sub_self]
     have h2 : Mem _ _ [.blk b4 72 [.int .u8 0, nl, nl], .blk b5 72 [.int .u8 (tg.toNat : Int), nl, nl], .row nl 0 5 1 []] [] w := (h.nilRow 5 1).sel
     exact h2
  ·
   rintro ⟨⟨s, nb⟩, ⟨hi0, hi1⟩⟩; try dsimp only
   have hi0 : s ≤ kB z.toNat := hi0; have hi1 : SV nb (kB z.toNat - s) := hi1
   refine wpc_seq <| wpc_seq <| wpc_region <| wpl_q (q_pure rfl) rfl <| wpl_q (q_pure rfl) rfl <| wpl_nil <| ex_then ?_
   refine wpc_cond rfl (fun hc14 => ?_) (fun hc14 => ?_)
   ·
    simp only [decide_eq_true_eq] at hc14
    have hs1 : 1 ≤ s := by omega
    refine wpc_skip <| ex_then <| wpc_seq <| wpc_block ?_
    refine wpc_draw 9 zz6 (fun _ h => h.drew) ?_
    refine wpd_p 0 rfl zz6 trivial (q_field Try.underlying72 rfl Try.ti43 rfl rfl _ rfl) rfl sk0 ?_
    refine wpd_q 1 rfl zz6 trivial (q_ld Try.underlying43 rfl rfl rfl) rfl (fun _ h => h) ?_
    refine wpd_p 2 rfl zz6 trivial (q_pure rfl) rfl sk0 ?_
    refine wpd_p 3 rfl zz6 trivial (q_pure rfl) rfl sk0 ?_
    refine wpd_p 4 rfl zz6 trivial (q_subN (b := 1) rfl rfl zz11 zz0) rfl sk0 ?_
    refine wpd_p 5 rfl zz6 trivial (q_mulN (a := 8) rfl rfl zz0) rfl sk0 ?_
    refine wpd_p 6 rfl zz6 trivial (q64_shr rfl rfl zz29 _ rfl) rfl sk0 ?_
    refine wpd_p 7 rfl zz6 trivial (q8_conv Try.underlying22 Try.underlying5 rfl) rfl sk0 ?_
    refine wpd_tp 8 rfl zz6 trivial (t_bsV (v8s [_]) Try.underlying43 Try.ti5 rfl rfl zz18 zz18 rfl (v8s_one _)) rfl (fun _ => (fun w h => .inr (h.sub SubC.h SubC.h))) (fun b25 p25 => ?_)
    refine wpd_tp 9 rfl zz6 trivial (t_apW Try.underlying43 Try.ti5 rfl zz18 rfl rfl (fun w h => zz1) OneC.h zz0 zz0 (v8s (numK (kB z.toNat - (s - 1)) (z.toNat / 2 ^ (8 * (s - 1))))) (by rw [← v8s_append, num_step _ _ s hs1 hi0]; congr 3; exact congrArg (fun n : Nat => of8 (n : Int)) (sr64_nat z (8 * (s - 1)) zz11))) rfl (fun _ => skk rfl) (fun b26 p26 => ?_)
    refine wpd_p 10 rfl zz6 trivial (q_field Try.underlying72 rfl Try.ti43 rfl rfl _ rfl) rfl (skk rfl) ?_
    refine wpd_t0 11 rfl zz6 trivial (t_st1 Try.ti43 rfl rfl (SV.one zz2) zz3 [.int .u8 (tg.toNat : Int), b26, nl] rfl) (fun _ => skk rfl) (fun _ => ?_)
    refine wpd_done zz6 ?_
    refine ex_block <| ex_then <| wpc_region <| wpl_q (q_pure rfl) rfl ?_
    refine wpl_q (q_subN (b := 1) rfl rfl zz11 zz0) rfl ?_
    refine wpl_q (q_pure rfl) rfl <| wpl_nil ?_
    refine ex_again ⟨(s - 1, b26), ⟨zz11, by show SV b26 (kB z.toNat - (s - 1)); rw [show kB z.toNat - (s - 1) = (kB z.toNat - s) + 1 from zz11]; exact p26⟩⟩ ?_ ?_ ?_
    ·
     exact zz7
    ·
     exact fun w h => by
       dsimp only
       rw [show (kB z.toNat - s) + 1 = kB z.toNat - (s - 1) from zz11] at h
       exact h.sel
    ·
     (show (s - 1) < s); omega
   ·
    simp only [decide_eq_false_iff_not] at hc14
    obtain rfl : s = 0 := by omega
    haveI := oneH (t := tg) hi1 SV.nil
    refine wpc_exit ?_
    refine ex_then_exit ?_
    refine ex_then_exit ?_
    refine ex_block_hit ?_
    refine ex_then <| wpc_seq <| wpc_region <| wpl_q (q_ldN Try.underlying72 rfl Try.ti72 rfl LenC.h) rfl ?_
    refine wpl_t0 (t_stA Try.ti72 rfl rfl LenC.h OneC.h LenC.h) (fun _ => ?_)
    refine wpl_nil <| ex_then <| wpc_ret ?_
    refine retv1 (.inl rfl) rfl (rv_agg Try.underlying72 rfl Try.ti72 rfl (fun w h => h.atB) zz10) ?_
    exact fun w1 h => by
      rw [show z.toNat / 2 ^ (8 * 0) = z.toNat from Nat.div_one _, Nat.sub_zero, show numK (kB z.toNat) z.toNat = numB z.toNat from rfl] at h
      have hl : (numB z.toNat).length = kB z.toNat := numK_len _ _
      have h2 : Mem w [] [.row nb (numB z.toNat).length 5 1 (v8s (numB z.toNat)), .row nl 0 72 3 (hcs [])] [] w1 := by rw [hl]; have h3 : Mem w [] [.row nb (kB z.toNat) 5 1 (v8s (numB z.toNat)), .row nl 0 72 3 []] [] w1 := (h.nilRow 72 3).sel; exact h3
      exact ⟨.nd tg nb (numB z.toNat) nl [], ⟨rfl, by rw [hl]; exact hi1, SV.nil⟩, rfl, h.below, madeT h2⟩
theorem refNum (tg : UInt8) (z : UInt64) (w : World)   :
    Calls Try.prog 80 [.int .u8 tg.toNat, .int .u64 z.toNat].toArray w (GivesP w (fun y : HT => y.tr = Tr.nd tg (numB z.toNat) [] ∧ y.sv) (fun y => .agg y.c.toArray) (fun y => y.ents) (fun _ => [])) := by
  refine enter (m := 9) (R := Mem w [] [] []) Try.func80 rfl rfl (Nat.le_of_ble_eq_true rfl) (Mem.start w) ?_
  refine wpc_seq <| wpc_region ?_
  refine wpl_t (t_alloc Try.ti72 [.int .u8 0, nl, nl] rfl) rfl (fun b4 => ?_)
  refine wpl_nil <| ex_then <| wpc_seq <| wpc_region <| wpl_q (q_pure rfl) rfl <| wpl_q (q_pure rfl) rfl ?_
  refine wpl_tp (t_callP1 Try.hb104 rfl fun w h => refBytes z w) rfl (fun b7 p7 => ?_)
  haveI := oneH (t := tg) p7 SV.nil
  refine wpl_q (q_build (cs := [.int .u8 (tg.toNat : Int), b7, nl]) rfl (built_o1 tg p7)) rfl ?_
  refine wpl_t0 (t_stA Try.ti72 rfl rfl LenC.h OneC.h LenC.h) (fun _ => ?_)
  refine wpl_nil <| ex_then <| wpc_ret ?_
  refine retv1 (.inl rfl) rfl (rv_agg Try.underlying72 rfl Try.ti72 rfl (fun w h => h.atB) zz10) ?_
  exact fun w1 h => by
    have h2 : Mem w [] [.row b7 (numB z.toNat).length 5 1 (v8s (numB z.toNat)), .row nl 0 72 3 []] [] w1 := (h.nilRow 72 3).sel
    exact ⟨.nd tg b7 (numB z.toNat) nl [], ⟨rfl, p7, SV.nil⟩, rfl, h.below, madeT h2⟩
theorem octStr (tg : UInt8) (bs : List UInt8) (w : World)  (hl : bs.length ≤ maxLen) :
    Calls Try.prog 74 [.int .u8 tg.toNat, str bs].toArray w (GivesP w (fun y : HT => y.tr = Tr.nd tg bs [] ∧ y.sv) (fun y => .agg y.c.toArray) (fun _ => []) (fun y => [Go.Proofs.Ytgnablliekgbgaa.hseen y])) := by
  refine enter (m := 9) (R := Mem w [] [] []) Try.func74 rfl rfl (Nat.le_of_ble_eq_true rfl) (Mem.start w) ?_
  refine wpc_seq <| wpc_region ?_
  refine wpl_t (t_alloc Try.ti72 [.int .u8 0, nl, nl] rfl) rfl (fun b4 => ?_)
  refine wpl_nil <| ex_then <| wpc_seq <| wpc_region <| wpl_q (q_pure rfl) rfl <| wpl_q (q_pure rfl) rfl ?_
  refine wpl_tp (t_cvSB Try.underlying9 Try.underlying43 Try.underlying5 rfl hl) rfl (fun b7 p7 => ?_)
  haveI := oneH (t := tg) p7 SV.nil
  refine wpl_q (q_build (cs := [.int .u8 (tg.toNat : Int), b7, nl]) rfl (built_o1 tg p7)) rfl ?_
  refine wpl_t0 (t_stA Try.ti72 rfl rfl LenC.h OneC.h LenC.h) (fun _ => ?_)
  refine wpl_nil <| ex_then <| wpc_ret ?_
  refine retv1 (.inl rfl) rfl (rv_agg Try.underlying72 rfl Try.ti72 rfl (fun w h => h.atB) zz10) ?_
  exact fun w1 h => ⟨.nd tg b7 bs nl [], ⟨rfl, p7, SV.nil⟩, rfl, h.below, made_str h⟩
theorem refStr (tg : UInt8) (bs : List UInt8) (w : World)  (hl : bs.length ≤ maxLen) :
    Calls Try.prog 81 [.int .u8 tg.toNat, str bs].toArray w (GivesP w (fun y : HT => y.tr = Tr.nd tg bs [] ∧ y.sv) (fun y => .agg y.c.toArray) (fun _ => []) (fun y => [Go.Proofs.Ytgnablliekgbgaa.hseen y])) := by
  refine enter (m := 9) (R := Mem w [] [] []) Try.func81 rfl rfl (Nat.le_of_ble_eq_true rfl) (Mem.start w) ?_
  refine wpc_seq <| wpc_region ?_
  refine wpl_t (t_alloc Try.ti72 [.int .u8 0, nl, nl] rfl) rfl (fun b4 => ?_)
  refine wpl_nil <| ex_then <| wpc_seq <| wpc_region <| wpl_q (q_pure rfl) rfl <| wpl_q (q_pure rfl) rfl ?_
  refine wpl_tp (t_cvSB Try.underlying9 Try.underlying43 Try.underlying5 rfl hl) rfl (fun b7 p7 => ?_)
  haveI := oneH (t := tg) p7 SV.nil
  refine wpl_q (q_build (cs := [.int .u8 (tg.toNat : Int), b7, nl]) rfl (built_o1 tg p7)) rfl ?_
  refine wpl_t0 (t_stA Try.ti72 rfl rfl LenC.h OneC.h LenC.h) (fun _ => ?_)
  refine wpl_nil <| ex_then <| wpc_ret ?_
  refine retv1 (.inl rfl) rfl (rv_agg Try.underlying72 rfl Try.ti72 rfl (fun w h => h.atB) zz10) ?_
  exact fun w1 h => ⟨.nd tg b7 bs nl [], ⟨rfl, p7, SV.nil⟩, rfl, h.below, made_str h⟩
end Go.Proofs.Ytgnablliekgbgaa
