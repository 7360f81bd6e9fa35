/- What the statement reaches, in order. -/
import Derived.Test.YtgnablliekgbgaaDoorMSPLN
import Derived.Test.YtgnablliekgbgaaDoorMSPLL
import Derived.Test.YtgnablliekgbgaaDoorMSTI
import Derived.Lib.BufferRead
import Derived.Lib.ConvBytes
import Derived.Laws.IdiomStrings
import Derived.Test.YtgnablliekgbgaaDoorMSPLH
import Derived.Recover
import Derived.Test.YtgnablliekgbgaaDoorMSPLI
import Derived.Test.YtgnablliekgbgaaDoorMSPLZ
import Derived.WalkKit
import Derived.ProofKit
import Derived.OpenShut
import Derived.ChangeOld
import Derived.Below
import Derived.Carry
import Derived.LaidMore
import Derived.Deep.DeepHandedRow
import Derived.Deep.DeepWitnessRowRef
import Derived.Lib.LaidTab
import Derived.Stop.Joined
import Derived.Test.YtgnablliekgbgaaDoorMS3
set_option linter.unusedSimpArgs false
set_option linter.unusedVariables false
set_option maxRecDepth 100000
namespace Go.Proofs.YtgnablliekgbgaaDoor
open Go Go.PL Go.RowKit
def okL (l : Rv) : Prop := chkR l = 0 ∧ (∀ x ∈ l.chs, x.length = 16) ∧ (∀ x ∈ l.ps, x.length = 16)
structure ChkI (l : Rv) : Prop where
  nm : l.nm.length ≤ 40
  fr0 : 0 ≤ l.fr
  fr1 : l.fr ≤ 1099511627776
  tt0 : 0 ≤ l.tt
  tt1 : l.tt ≤ 1099511627776
  ss : l.ss.length ≤ 500
  ix0 : 0 ≤ l.ix
  ix1 : l.ix ≤ 16
  c : l.chs.length ≤ 35
  p : l.ps.length ≤ 4
theorem sg_inv {ix : Int} {nc np : Nat} (h : gsigB ix nc np = true) : 0 ≤ ix ∧ ix ≤ 16 ∧ nc ≤ 35 ∧ np ≤ 4 := by
  unfold gsigB at h
  rw [Bool.or_eq_true, decide_eq_true_eq] at h
  rcases h with h | h
  · unfold sigB at h
    simp only [Bool.not_eq_true', Bool.or_eq_false_iff, decide_eq_false_iff_not] at h
    omega
  · unfold sgChk at h
    split at h
    · rename_i h1
      split at h
      · rename_i h2
        rw [Int.toNat_natCast] at h2
        have := pow_le16 (m := np) zz14
        omega
      · cases h
    · cases h
theorem chk_all {l : Rv} (h : chkR l = 0) : ChkI l := by
  unfold chkR at h
  split at h
  · cases h
  · rename_i h1
    split at h
    · rename_i h2
      unfold okR okA at h2
      simp only [Bool.and_eq_true, decide_eq_true_eq] at h2
      obtain ⟨⟨⟨a1, a2⟩, a3⟩, _⟩ := h2
      have a4 := sg_inv a3
      unfold nameF at a1
      unfold winF timeF at a2
      simp only [Bool.and_eq_true, decide_eq_true_eq] at a1 a2
      exact ⟨a1.1.2, a2.1.1.1, a2.1.1.2, a2.1.2.1, a2.1.2.2, zz14, a4.1, a4.2.1, a4.2.2.1, a4.2.2.2⟩
    · cases h
theorem chk_lim {l : Rv} (h : chkR l = 0) : RLim l := by
  have q := chk_all h
  exact ⟨by have := q.nm; omega, by have := q.ss; omega, by have := q.c; omega, by have := q.p; omega⟩
theorem seq_mk {g : UInt8} {ks : List Tr} {lo hi : Nat} (h1 : lo ≤ ks.length) (h2 : ks.length ≤ hi) : (rdSeq (.nd g [] ks) g lo hi).2 = 0 ∧ lsT (.nd g [] ks) g lo hi = ks := by
  have hb : ¬ badL g lo hi (.nd g [] ks) := by
    rintro (h | h | h | h)
    · exact h rfl
    · exact absurd h (by show ¬ 0 < 0; omega)
    · have h : (ks.length : Int) < lo := h
      omega
    · have h : (hi : Int) < ks.length := h
      omega
  exact ⟨by rw [rdSeq, if_neg hb], by rw [lsT, if_neg hb]; rfl⟩
theorem num_mk {g : UInt8} {z mx : UInt64} (h : z.toNat ≤ mx.toNat) : rdNum (.nd g (numB z.toNat) []) g mx = (z, 0) := by
  rw [rdNum_num, if_neg]
  rintro (h | h)
  · exact h rfl
  · omega
theorem str_mk {g : UInt8} {bs : List UInt8} {mx : Int} (h : (bs.length : Int) ≤ mx) : rdStr (.nd g bs []) g mx = (bs, 0) := by
  rw [rdStr_str, if_neg]
  rintro (h | h)
  · exact h rfl
  · omega
theorem flat_inj : ∀ {a b : List (List UInt8)}, (∀ x ∈ a, x.length = 16) → (∀ x ∈ b, x.length = 16) → a.flatten = b.flatten → a = b
  | [], [], _, _, _ => rfl
  | [], y :: b, _, hb, h => by
    have := congrArg List.length h
    rw [List.flatten_cons, List.length_append, hb y (List.mem_cons_self ..)] at this
    first | (simp at this; done) | (simp at this; omega)
  | x :: a, [], ha, _, h => by
    have := congrArg List.length h
    rw [List.flatten_cons, List.length_append, ha x (List.mem_cons_self ..)] at this
    first | (simp at this; done) | (simp at this; omega)
  | x :: a, y :: b, ha, hb, h => by
    rw [List.flatten_cons, List.flatten_cons] at h
    obtain ⟨h1, h2⟩ := List.append_inj h (by rw [ha x (List.mem_cons_self ..), hb y (List.mem_cons_self ..)])
    rw [h1, flat_inj (fun z hz => ha z (List.mem_cons_of_mem _ hz)) (fun z hz => hb z (List.mem_cons_of_mem _ hz)) h2]
theorem shF_of {l : List (List UInt8)} (h : ∀ x ∈ l, x.length = 16) : shE l.flatten = 0 ∧ shF l.flatten = l := by
  have h1 := flat_len l h
  have h2 : shE l.flatten = 0 := by unfold shE; rw [if_neg zz14]
  exact ⟨h2, flat_inj shK_all h (shF_flat h2)⟩
theorem of64_int {i : Int} (h0 : 0 ≤ i) (h1 : i ≤ 1099511627776) : (((of64 i).toNat : Nat) : Int) = i := by
  obtain ⟨n, rfl⟩ : ∃ n : Nat, i = n := ⟨i.toNat, zz14⟩
  rw [of64_nat zz14]
theorem sers_mk (ss : List UInt64) : serS (sersT ss) = ss ∧ ∀ t ∈ sersT ss, (rdNum t 5 18446744073709551615).2 = 0 := by
  induction ss with
  | nil => exact ⟨rfl, fun t ht => by cases ht⟩
  | cons s ss ih =>
    have e : rdNum (serT s) 5 18446744073709551615 = (s, 0) := num_mk (by have := s.toNat_lt; show s.toNat ≤ 18446744073709551615; omega)
    refine ⟨?_, fun t ht => ?_⟩
    · show (rdNum (serT s) 5 18446744073709551615).1 :: serS (sersT ss) = _
      rw [e, ih.1]
    · rcases List.mem_cons.1 ht with rfl | ht
      · rw [e]
      · exact ih.2 t ht
theorem of_whole {l : Rv} (h : okL l) (sv cv pv : Value) : OkT (wholeT l) ∧ (outR (wholeT l) sv cv pv).eqv l := by
  have q := chk_all h.1
  obtain ⟨q1, q2, q3, q4, q5, q6, q7, q8, q9, q10⟩ := q
  have c1 := flat_len l.chs h.2.1
  have c2 := flat_len l.ps h.2.2
  obtain ⟨w1, w2⟩ := seq_mk (g := 135) (ks := [bodyT l, sigT l]) (lo := 2) (hi := 2) (Nat.le_refl _) (Nat.le_refl _)
  have eW : wT (wholeT l) = [bodyT l, sigT l] := w2
  obtain ⟨f1, f2⟩ := seq_mk (g := 134) (ks := (bodyT l).kids) (lo := 5) (hi := 5) (Nat.le_refl _) (Nat.le_refl _)
  obtain ⟨g1, g2⟩ := seq_mk (g := 131) (ks := (sigT l).kids) (lo := 3) (hi := 3) (Nat.le_refl _) (Nat.le_refl _)
  have eF : fT (wholeT l) = (bodyT l).kids := by unfold fT; rw [eW]; exact f2
  have eG : gT (wholeT l) = (sigT l).kids := by unfold gT; rw [eW]; exact g2
  obtain ⟨l1, l2⟩ := seq_mk (g := 129) (ks := sersT l.ss) (lo := 0) (hi := 500) (Nat.zero_le _) (by rw [sersT_len]; exact q6)
  have eL : lT (wholeT l) = sersT l.ss := by unfold lT; rw [eF]; exact l2
  have n0 : rdStr ((bodyT l).kids.getD 0 Tr.z) 1 40 = (l.nm, 0) := str_mk zz14
  have n1 : rdNum ((bodyT l).kids.getD 1 Tr.z) 2 18446744073709551615 = (l.no, 0) := num_mk (by have := l.no.toNat_lt; show l.no.toNat ≤ 18446744073709551615; omega)
  have i2 := of64_int q2 q3
  have i3 := of64_int q4 q5
  have i4 := of64_int q7 zz14
  have n2 : rdNum ((bodyT l).kids.getD 2 Tr.z) 3 1099511627776 = (of64 l.fr, 0) := num_mk (by show (of64 l.fr).toNat ≤ 1099511627776; omega)
  have n3 : rdNum ((bodyT l).kids.getD 3 Tr.z) 4 1099511627776 = (of64 l.tt, 0) := num_mk (by show (of64 l.tt).toNat ≤ 1099511627776; omega)
  have n4 : rdNum ((sigT l).kids.getD 0 Tr.z) 1 16 = (of64 l.ix, 0) := num_mk (by show (of64 l.ix).toNat ≤ 16; omega)
  have n5 : rdStr ((sigT l).kids.getD 1 Tr.z) 2 65536 = (l.chs.flatten, 0) := str_mk zz14
  have n6 : rdStr ((sigT l).kids.getD 2 Tr.z) 3 65536 = (l.ps.flatten, 0) := str_mk zz14
  have s1 := shF_of h.2.1
  have s2 := shF_of h.2.2
  refine ⟨⟨w1, by rw [eW]; exact f1, by rw [eW]; exact g1, by rw [eF, n0], by rw [eF, n1], by rw [eF, n2], by rw [eF, n3], by rw [eF]; exact l1, by rw [eL]; exact (sers_mk l.ss).2, by rw [eG, n4], by rw [eG, n5], by rw [eG, n6], by rw [eG, n5]; exact s1.1, by rw [eG, n6]; exact s2.1⟩, ?_⟩
  refine ⟨?_, ?_, ⟨?_, ?_⟩, ?_, ?_, ?_, ?_⟩
  · show (rdStr ((fT (wholeT l)).getD 0 Tr.z) 1 40).1 = l.nm
    rw [eF, n0]
  · show (rdNum ((fT (wholeT l)).getD 1 Tr.z) 2 18446744073709551615).1 = l.no
    rw [eF, n1]
  · show (((rdNum ((fT (wholeT l)).getD 2 Tr.z) 3 1099511627776).1.toNat : Nat) : Int) = l.fr
    rw [eF, n2]; exact i2
  · show (((rdNum ((fT (wholeT l)).getD 3 Tr.z) 4 1099511627776).1.toNat : Nat) : Int) = l.tt
    rw [eF, n3]; exact i3
  · show serS (lT (wholeT l)) = l.ss
    rw [eL]; exact (sers_mk l.ss).1
  · show (((rdNum ((gT (wholeT l)).getD 0 Tr.z) 1 16).1.toNat : Nat) : Int) = l.ix
    rw [eG, n4]; exact i4
  · show shF (rdStr ((gT (wholeT l)).getD 1 Tr.z) 2 65536).1 = l.chs
    rw [eG, n5]; exact s1.2
  · show shF (rdStr ((gT (wholeT l)).getD 2 Tr.z) 3 65536).1 = l.ps
    rw [eG, n6]; exact s2.2
theorem eqv_chk {a b : Rv} (h : a.eqv b) : chkR a = chkR b := by
  obtain ⟨nm, no, fr, tt, sv, ss, ix, cv, chs, pv, ps⟩ := a
  obtain ⟨nm2, no2, fr2, tt2, sv2, ss2, ix2, cv2, chs2, pv2, ps2⟩ := b
  obtain ⟨e1, e2, ⟨e3, e4⟩, e5, e6, e7, e8⟩ := h
  dsimp only at e1 e2 e3 e4 e5 e6 e7 e8
  subst e1 e2 e3 e4 e5 e6 e7 e8
  rfl
theorem eqv_refl (a : Rv) : a.eqv a := ⟨rfl, rfl, ⟨rfl, rfl⟩, rfl, rfl, rfl, rfl⟩
theorem enc_dec {l : Rv} (h : okL l) : decF (enc (wholeT l)) = (wholeT l, 0) := dec_enc (sm_whole (chk_lim h.1) h.2.1 h.2.2) (chk_whole h.1 (chk_lim h.1) h.2.1 h.2.2)
def DecP (xs : List UInt8) (y : Rv) (e : Int) : Prop := (e = 0 ∧ okL y ∧ enc (wholeT y) = xs) ∨ (e = 12 ∧ y.eqv Rv.z ∧ ∀ l, okL l → enc (wholeT l) ≠ xs)
theorem dec_yes {xs : List UInt8} {sv cv pv : Value} (h : endE (decF xs).2 (decF xs).1 = 0) (hc : chkR (outR (decF xs).1 sv cv pv) = 0) : DecP xs (outR (decF xs).1 sv cv pv) 0 := by
  obtain ⟨h0, h1⟩ := endE_0.1 h
  exact .inl ⟨rfl, ⟨hc, shK_all, shK_all⟩, by rw [whole_of h1]; exact (dec_inv h0).2⟩
theorem dec_no1 {xs : List UInt8} (h : endE (decF xs).2 (decF xs).1 ≠ 0) : DecP xs Rv.z 12 := .inr ⟨rfl, eqv_refl _, fun l hl e => by
  subst e
  rw [enc_dec hl] at h
  exact h (endE_0.2 ⟨rfl, (of_whole hl nl nl nl).1⟩)⟩
theorem dec_no2 {xs : List UInt8} {sv cv pv : Value} (hc : chkR (outR (decF xs).1 sv cv pv) ≠ 0) : DecP xs Rv.z 12 := .inr ⟨rfl, eqv_refl _, fun l hl e => by
  subst e
  rw [enc_dec hl] at hc
  exact hc ((eqv_chk (of_whole hl sv cv pv).2).trans hl.1)⟩
end Go.Proofs.YtgnablliekgbgaaDoor
namespace Go.Proofs.YtgnablliekgbgaaDoor
open Go Go.PL Go.RowKit
theorem eqv_symm {a b : Rv} (h : a.eqv b) : b.eqv a := ⟨h.1.symm, h.2.1.symm, ⟨h.2.2.1.1.symm, h.2.2.1.2.symm⟩, h.2.2.2.1.symm, h.2.2.2.2.1.symm, h.2.2.2.2.2.1.symm, h.2.2.2.2.2.2.symm⟩
theorem eqv_trans {a b c : Rv} (h : a.eqv b) (k : b.eqv c) : a.eqv c := ⟨h.1.trans k.1, h.2.1.trans k.2.1, ⟨h.2.2.1.1.trans k.2.2.1.1, h.2.2.1.2.trans k.2.2.1.2⟩, h.2.2.2.1.trans k.2.2.2.1, h.2.2.2.2.1.trans k.2.2.2.2.1, h.2.2.2.2.2.1.trans k.2.2.2.2.2.1, h.2.2.2.2.2.2.trans k.2.2.2.2.2.2⟩
theorem dec_inj {a b : Rv} (ha : okL a) (hb : okL b) (h : enc (wholeT a) = enc (wholeT b)) : a.eqv b := by
  have e : wholeT b = wholeT a := by
    have h1 := enc_dec ha
    rw [h, enc_dec hb] at h1
    exact congrArg Prod.fst h1
  have qa := (of_whole ha nl nl nl).2
  rw [← e] at qa
  exact eqv_trans (eqv_symm qa) (of_whole hb nl nl nl).2
theorem DecP.uniq {xs : List UInt8} {y z : Rv} {e f : Int} (h : DecP xs y e) (k : DecP xs z f) : y.eqv z ∧ e = f := by
  rcases h with ⟨he, ho, hx⟩ | ⟨he, hz, hn⟩ <;> rcases k with ⟨ke, ko, kx⟩ | ⟨ke, kz, kn⟩
  · exact ⟨dec_inj ho ko (hx.trans kx.symm), he.trans ke.symm⟩
  · exact absurd hx (kn _ ho)
  · exact absurd kx (hn _ ko)
  · exact ⟨eqv_trans hz (eqv_symm kz), he.trans ke.symm⟩
end Go.Proofs.YtgnablliekgbgaaDoor
namespace Go.Proofs.YtgnablliekgbgaaDoor
open Go Go.PL Go.RowKit
def lsH (y : Value × List HT) : HT := .nd 0 nl [] y.1 y.2
theorem lsH_frz {w0 w : World} {M : List Ent} {S : List Fact} (y : Value × List HT) (h : Mem w0 [] (rowsL y.1 y.2 ++ M) S w) : Mem w0 [] M (Go.Proofs.YtgnablliekgbgaaDoor.hseen (lsH y) :: S) w := Mem.freezeT (t := lsH y) (M := M) (h.nilRow 5 1)
theorem hseen_rdo {w0 w : World} {Ln : List Nat} {M M1 : List Ent} {S : List Fact} {t : HT} (h : Mem w0 Ln M S w) (hs : Go.Proofs.YtgnablliekgbgaaDoor.hseen t ∈ S) (hM : ∀ e ∈ M1, e ∈ M) : HSeen (rdO (nums M1) w) t := (h.facts _ hs : HSeen (rdF w0.heap.size M w) t).mono fun a u hu => by
  unfold rdF at hu
  split at hu
  · rename_i h1
    unfold rdO
    rw [if_neg]
    · exact hu
    · intro hm
      obtain ⟨e, he, hn⟩ := mem_nums.1 hm
      exact inM_not h1.2 e (hM e he) hn
  · cases hu
theorem HSeen.lsK {r : Rd} {y : Value × List HT} (h : HSeen r (lsH y)) {i : Nat} (hi : i < y.2.length) : HSeen r (y.2.getD i HT.z) := HSeen.kid h hi
theorem HSeen.lsS {r : Rd} {y : Value × List HT} (h : HSeen r (lsH y)) : Seen r y.1 y.2.length 3 (hcs y.2) := h.2.1
section
variable {P : Program} {n : Cx} {L : Slots} {Q : Exit → Act → World → Prop} {w0 : World} {M : List Ent} {S : List Fact}
theorem selC_rem {α : Type} {m l : List α} {x : α} (h : Rem m x l) : SelC (x :: l) m := ⟨.cons h (Sel.sub (Sub.refl l))⟩
theorem t_callLS {f : Operand} {k : FuncId} {first cap : Array Value} {args : Array Operand} {at_ : Array TypeId} {vs : List Value} {p : Value × List HT → Prop} (e e' : Ent) {X : List Ent} [hr : RemC M e X]
    (hf : ev L f = some (.func (.func k) first cap)) (hb : HasBody P k) (hv : evs L args.toList = some vs)
    (hc : ∀ w, Mem w0 [] M S w → Mem w (nums [e]) [e] [] w → Calls P k (first ++ vs.toArray ++ cap) w (GivesA w [e] p (fun y => y.1) (fun y => e' :: rowsL y.1 y.2))) :
    TOpP P Q n (Mem w0 [] M S) L (.call { callee := .value f, args := args, argTypes := at_ }) (Value × List HT) p (fun y => y.1) (fun y => Mem w0 [] (e' :: X) (Go.Proofs.YtgnablliekgbgaaDoor.hseen (lsH y) :: S)) :=
  haveI : SelC (e :: X) M := selC_rem hr.h
  t_callW (N := fun y : Value × List HT => e' :: rowsL y.1 y.2) [e] X (e :: X) (fun _ => e' :: X) (fun y => Go.Proofs.YtgnablliekgbgaaDoor.hseen (lsH y) :: S) rfl (fun y _ _ h => lsH_frz y (h.perm List.perm_middle.symm)) hf hb hv hc
theorem t_callU {f : Operand} {k : FuncId} {first cap : Array Value} {args : Array Operand} {at_ : Array TypeId} {vs : List Value} {V : Unit → Value} (e e' : Ent) {X : List Ent} [hr : RemC M e X]
    (hf : ev L f = some (.func (.func k) first cap)) (hb : HasBody P k) (hv : evs L args.toList = some vs)
    (hc : ∀ w, Mem w0 [] M S w → Mem w (nums [e]) [e] [] w → Calls P k (first ++ vs.toArray ++ cap) w (GivesA w [e] (fun _ : Unit => True) V (fun _ => [e']))) :
    TOpP P Q n (Mem w0 [] M S) L (.call { callee := .value f, args := args, argTypes := at_ }) Unit (fun _ => True) V (fun _ => Mem w0 [] (e' :: X) S) :=
  haveI : SelC (e :: X) M := selC_rem hr.h
  t_callW (N := fun _ : Unit => [e']) [e] X (e :: X) (fun _ => e' :: X) (fun _ => S) rfl (fun _ _ _ h => h) hf hb hv hc
theorem t_callUR {f : Operand} {k : FuncId} {first cap : Array Value} {args : Array Operand} {at_ : Array TypeId} {vs : List Value} {p : Value → Prop} {r : Value → Ent} (e e' : Ent) {X : List Ent} [hr : RemC M e X]
    (hf : ev L f = some (.func (.func k) first cap)) (hb : HasBody P k) (hv : evs L args.toList = some vs)
    (hc : ∀ w, Mem w0 [] M S w → Mem w (nums [e]) [e] [] w → Calls P k (first ++ vs.toArray ++ cap) w (GivesA w [e] p (fun y => y) (fun y => [e', r y]))) :
    TOpP P Q n (Mem w0 [] M S) L (.call { callee := .value f, args := args, argTypes := at_ }) Value p (fun y => y) (fun y => Mem w0 [] (e' :: r y :: X) S) :=
  haveI : SelC (e :: X) M := selC_rem hr.h
  t_callW (N := fun y : Value => [e', r y]) [e] X (e :: X) (fun y => e' :: r y :: X) (fun _ => S) rfl (fun _ _ _ h => h) hf hb hv hc
end
theorem rdrListF (eb : Nat) (t : HT) (T : Tr) (g : UInt8) (lo hi : Nat) (cur : Int) (w : World) (hB : Mem w (nums [.blk eb 24 [.int .i64 cur]]) [.blk eb 24 [.int .i64 cur]] [] w) (ht : HSeen (rdO (nums [.blk eb 24 [.int .i64 cur]]) w) t) (hT : t.tr = T) (hsm : Sm T) (hlo : lo ≤ 10) : Calls Tryd.prog 40 [.agg #[(.func (.func 37) #[] #[.pointer (some ⟨eb, 0, none⟩)])], .agg t.c.toArray, .int .u8 (g.toNat : Int), .int .i64 ((lo : Nat) : Int), .int .i64 ((hi : Nat) : Int)].toArray w (GivesA w [.blk eb 24 [.int .i64 cur]] (fun y : Value × List HT => trs y.2 = lsT T g lo hi ∧ SV y.1 y.2.length ∧ ∀ x ∈ y.2, x.sv) (fun y => y.1) (fun y => .blk eb 24 [.int .i64 (orE cur (((rdSeq T g lo hi).2 : Nat) : Int))] :: rowsL y.1 y.2)) := by
  subst hT
  exact rdrList eb t g lo hi cur w hB ht hsm hlo
theorem rdrNumF (eb : Nat) (t : HT) (T : Tr) (g : UInt8) (mx : UInt64) (cur : Int) (w : World) (hB : Mem w (nums [.blk eb 24 [.int .i64 cur]]) [.blk eb 24 [.int .i64 cur]] [] w) (ht : HSeen (rdO (nums [.blk eb 24 [.int .i64 cur]]) w) t) (hT : t.tr = T) : Calls Tryd.prog 39 [.agg #[(.func (.func 37) #[] #[.pointer (some ⟨eb, 0, none⟩)])], .agg t.c.toArray, .int .u8 (g.toNat : Int), .int .u64 (mx.toNat : Int)].toArray w (GivesA w [.blk eb 24 [.int .i64 cur]] (fun _ : Unit => True) (fun _ => .int .u64 ((rdNum T g mx).1.toNat : Int)) (fun _ => [.blk eb 24 [.int .i64 (orE cur (((rdNum T g mx).2 : Nat) : Int))]])) := by
  subst hT
  exact rdrNum eb t g mx cur w hB ht
theorem rdrStrF (eb : Nat) (t : HT) (T : Tr) (g : UInt8) (mx : Int) (cur : Int) (w : World) (hB : Mem w (nums [.blk eb 24 [.int .i64 cur]]) [.blk eb 24 [.int .i64 cur]] [] w) (ht : HSeen (rdO (nums [.blk eb 24 [.int .i64 cur]]) w) t) (hT : t.tr = T) : Calls Tryd.prog 41 [.agg #[(.func (.func 37) #[] #[.pointer (some ⟨eb, 0, none⟩)])], .agg t.c.toArray, .int .u8 (g.toNat : Int), .int .i64 mx].toArray w (GivesA w [.blk eb 24 [.int .i64 cur]] (fun _ : Unit => True) (fun _ => str (rdStr T g mx).1) (fun _ => [.blk eb 24 [.int .i64 (orE cur (((rdStr T g mx).2 : Nat) : Int))]])) := by
  subst hT
  exact rdrStr eb t g mx cur w hB ht
theorem rdrShF (eb : Nat) (t : HT) (T : Tr) (g : UInt8) (cur : Int) (w : World) (hB : Mem w (nums [.blk eb 24 [.int .i64 cur]]) [.blk eb 24 [.int .i64 cur]] [] w) (ht : HSeen (rdO (nums [.blk eb 24 [.int .i64 cur]]) w) t) (hT : t.tr = T) (hbl : T.bs.length ≤ 1000000) : Calls Tryd.prog 42 [.agg #[(.func (.func 37) #[] #[.pointer (some ⟨eb, 0, none⟩)])], .agg t.c.toArray, .int .u8 (g.toNat : Int)].toArray w (GivesA w [.blk eb 24 [.int .i64 cur]] (fun y : Value => SV y (shF (rdStr T g 65536).1).length) (fun y => y) (fun y => [.blk eb 24 [.int .i64 (orE (orE cur (((rdStr T g 65536).2 : Nat) : Int)) (shE (rdStr T g 65536).1))], .row y (shF (rdStr T g 65536).1).length 41 16 (v8s (shF (rdStr T g 65536).1).flatten)])) := by
  subst hT
  exact rdrShorts eb t g cur w hB ht hbl
end Go.Proofs.YtgnablliekgbgaaDoor
namespace Go.Proofs.YtgnablliekgbgaaDoor
open Go Go.PL Go.RowKit
set_option maxHeartbeats 2000000
instance oneC_func {f : Fn} {p : Value} : OneC [Value.func f #[] #[p]] := OneC.cons rfl oneC_nil
theorem accE_nil {c : Int} : accE c [] = c := rfl
theorem built_sg {x : Int} {u v : Value} {n m : Nat} (hu : SV u n) (hv : SV v m) : Tryd.prog.built 30 [(0, .int .i64 x), (1, u), (2, v)] = some [.int .i64 x, u, v].toArray := by
  obtain ⟨a, cap, rfl, _⟩ := hu
  obtain ⟨a2, cap2, rfl, _⟩ := hv
  kernel_rfl
theorem built_rz : Tryd.prog.built 32 [] = some Rv.z.c.toArray := by kernel_rfl
theorem bne_f {a b : Int} (h : (a != b) = false) : a = b := by simpa using h
theorem len_trs {l : List HT} {L : List Tr} (h : trs l = L) : l.length = L.length := by rw [← h, trs_length]
theorem wT_len (T : Tr) : (wT T).length = 2 := lsT_len
theorem fT_len (T : Tr) : (fT T).length = 5 := lsT_len
theorem gT_len (T : Tr) : (gT T).length = 3 := lsT_len
theorem lT_le (T : Tr) : (lT T).length ≤ 500 := lsT_le
def rvE (y : Rv) : List Ent := [.row y.sv y.ss.length 23 1 (v64s y.ss), .row y.cv y.chs.length 41 16 (v8s y.chs.flatten), .row y.pv y.ps.length 41 16 (v8s y.ps.flatten)]
theorem rvE_z {w0 w : World} {M : List Ent} {S : List Fact} (h : Mem w0 [] M S w) : New w0.heap.size (rvE Rv.z) [] w := (show New w0.heap.size [Ent.row nl 0 23 1 [], Ent.row nl 0 41 16 [], Ent.row nl 0 41 16 []] [] w from (((h.nilRow 41 16).nilRow 41 16).nilRow 23 1).made SubC.h .nil)
theorem rdNum_le (t : Tr) (g : UInt8) (mx : UInt64) : (rdNum t g mx).1.toNat ≤ mx.toNat := by
  unfold rdNum
  split
  · exact Nat.zero_le _
  · split
    · exact Nat.zero_le _
    · show (UInt64.ofNat (numOf t.bs)).toNat ≤ _
      rw [UInt64.toNat_ofNat']
      exact Nat.le_trans (Nat.mod_le _ _) zz14
theorem hcs_part {l : List HT} {i : Nat} (h : i < l.length) : ((hcs l).drop (i * 3)).take 3 = (l.getD i HT.z).c := cat_part HT.c_length HT.z h
theorem bs_le {t : Tr} (h : Sm t) : t.bs.length ≤ 1000000 := by
  obtain ⟨tg, bs, l⟩ := t
  have h : bs.length + bytL l + 5 * (1 + cntL l) ≤ 1000000 := h
  show bs.length ≤ _
  omega
theorem Rv.z_svs : Rv.z.svs := ⟨SV.nil, SV.nil, SV.nil⟩
instance oneC_rvz : OneC Rv.z.c := Rv.z_svs.one
theorem decodeR (av : Value) (xs : List UInt8) (w : World) (hav : Seen w.cell? av xs.length 1 (v8s xs))  :
    Calls Tryd.prog 14 [av].toArray w (GivesP w (fun y : Rv × Int => DecP xs y.1 y.2 ∧ y.1.svs) (fun y => .tuple #[.agg y.1.c.toArray, .int .i64 y.2]) (fun y => rvE y.1) (fun _ => [])) := by
  have sav := hav.sv
  have lav := sav.le
  simp only [maxLen] at lav
  have sav := hav.sv
  refine enter (m := 109) (R := Mem w [] [] []) Tryd.func14 rfl rfl (Nat.le_of_ble_eq_true rfl) (Mem.start w) ?_
  refine wpc_seq <| wpc_region ?_
  refine wpl_t (t_alloc Tryd.ti32 Rv.z.c rfl) rfl (fun b2 => ?_)
  refine wpl_q (q_pure rfl) rfl <| wpl_nil <| ex_then <| wpc_seq <| wpc_region <| wpl_q (q_pure rfl) rfl ?_
  refine wpl_tp (t_callPT Tryd.hb36 rfl fun w h => frz (decode av xs w (h.seen_old hav))) rfl (fun b17 p17 => ?_)
  haveI := p17.2.one
  have hsmT : Sm b17.tr := by rw [p17.1]; exact (decF_sm xs).1
  refine wpl_q (q_pure rfl) rfl <| wpl_q (q_pure rfl) rfl <| wpl_q (q_pure rfl) rfl ?_
  refine wpl_t (t_alloc Tryd.ti61 HT.z.c rfl) rfl (fun b4 => ?_)
  refine wpl_t (t_alloc Tryd.ti24 [.int .i64 0] rfl) rfl (fun b5 => ?_)
  refine wpl_t0 (t_stA Tryd.ti61 rfl rfl LenC.h OneC.h LenC.h) (fun _ => ?_)
  refine wpl_t0 (t_st1 Tryd.ti24 rfl rfl rfl zz6 [.int .i64 (decF xs).2] rfl) (fun _ => ?_)
  refine wpl_nil <| ex_then <| wpc_seq <| wpc_region ?_
  refine wpl_q (q_fn (us := []) (vs := [.pointer (some ⟨b5, 0, none⟩)]) rfl rfl) rfl ?_
  refine wpl_q (q_build (cs := [(.func (.func 37) #[] #[.pointer (some ⟨b5, 0, none⟩)])]) rfl zz7) rfl ?_
  refine wpl_t (t_alloc Tryd.ti84 [.nilFunc] rfl) rfl (fun b6 => ?_)
  refine wpl_t0 (t_stA Tryd.ti84 rfl rfl LenC.h OneC.h LenC.h) (fun _ => ?_)
  refine wpl_nil <| ex_then <| wpc_seq ?_
  refine wpc_draw 6 zz7 (fun _ h => h.drew) ?_
  refine wpd_q 0 rfl zz7 trivial (q_ldN Tryd.underlying84 rfl Tryd.ti84 rfl LenC.h) rfl (fun _ h => h) ?_
  refine wpd_p 1 rfl zz7 trivial (q_fn (us := [.agg #[(.func (.func 37) #[] #[.pointer (some ⟨b5, 0, none⟩)])]]) (vs := []) rfl rfl) rfl sk0 ?_
  refine wpd_q 2 rfl zz7 trivial (q_ldN Tryd.underlying84 rfl Tryd.ti84 rfl LenC.h) rfl (fun _ h => h) ?_
  refine wpd_p 3 rfl zz7 trivial (q_fn (us := [.agg #[(.func (.func 37) #[] #[.pointer (some ⟨b5, 0, none⟩)])]]) (vs := []) rfl rfl) rfl sk0 ?_
  refine wpd_p 4 rfl zz7 trivial (q_pure rfl) rfl sk0 ?_
  refine wpd_p 5 rfl zz7 trivial (q_pure rfl) rfl sk0 ?_
  refine wpd_done zz7 ?_
  refine ex_then <| wpc_seq <| wpc_region <| wpl_q (q_pure rfl) rfl <| wpl_q (q_ldN Tryd.underlying61 rfl Tryd.ti61 rfl LenC.h) rfl ?_
  refine wpl_tp (t_callLS (.blk b5 24 [.int .i64 (decF xs).2]) (.blk b5 24 [.int .i64 (orE (decF xs).2 (((rdSeq b17.tr 135 (2 : Nat) (2 : Nat)).2 : Nat) : Int))]) rfl Tryd.hb40 rfl fun w h h2 => rdrListF b5 b17 b17.tr 135 2 2 (decF xs).2 w h2 (hseen_rdo h zz4 zz19) rfl hsmT zz20) rfl (fun b28 p28 => ?_)
  have svl28 := p28.2.1
  have hl28 : b28.2.length = 2 := (len_trs p28.1).trans (wT_len _)
  haveI := (p28.2.2 (b28.2.getD 0 HT.z) (getD_memH zz14)).one
  haveI := (p28.2.2 (b28.2.getD 1 HT.z) (getD_memH zz14)).one
  refine wpl_q (q_pure rfl) rfl <| wpl_nil <| ex_then <| wpc_seq ?_
  refine wpc_drawM [] 99 zz7 zz8 ?_
  refine wpd_p 0 rfl zz7 trivial (q_pure rfl) rfl (fun w h => .inr (h.sub SubC.h SubC.h)) ?_
  refine wpd_p 1 rfl zz7 trivial (q_pure rfl) rfl (fun w h => .inr (h.sub SubC.h SubC.h)) ?_
  refine wpd_p 2 rfl zz7 trivial (q_idxW (j := 0) Tryd.underlying59 Tryd.ti61 rfl rfl zz3 zz1) rfl (fun w h => .inr (h.sub SubC.h SubC.h)) ?_
  refine wpd_q 3 rfl zz7 trivial (q_ldWN Tryd.underlying61 rfl Tryd.ti61 rfl (fun w h => HSeen.lsS (y := b28) (Mem.hseenF h zz4)) (b28.2.getD 0 HT.z).c (hcs_part zz14) LenC.h) rfl (fun w h => h.sub SubC.h SubC.h) ?_
  refine wpd_p 5 rfl zz7 trivial (q_pure rfl) rfl (fun w h => .inr (h.sub SubC.h SubC.h)) ?_
  refine wpd_p 6 rfl zz7 trivial (q_pure rfl) rfl (fun w h => .inr (h.sub SubC.h SubC.h)) ?_
  refine wpd_p 7 rfl zz7 trivial (q_idxW (j := 1) Tryd.underlying59 Tryd.ti61 rfl rfl zz3 zz1) rfl (fun w h => .inr (h.sub SubC.h SubC.h)) ?_
  refine wpd_q 8 rfl zz7 trivial (q_ldWN Tryd.underlying61 rfl Tryd.ti61 rfl (fun w h => HSeen.lsS (y := b28) (Mem.hseenF h zz4)) (b28.2.getD 1 HT.z).c (hcs_part zz14) LenC.h) rfl (fun w h => h.sub SubC.h SubC.h) ?_
  refine wpd_tp 4 rfl zz7 trivial (t_callLS (.blk b5 24 [.int .i64 (orE (decF xs).2 (((rdSeq b17.tr 135 (2 : Nat) (2 : Nat)).2 : Nat) : Int))]) (.blk b5 24 [.int .i64 (orE (orE (decF xs).2 (((rdSeq b17.tr 135 (2 : Nat) (2 : Nat)).2 : Nat) : Int)) (((rdSeq ((wT b17.tr).getD 0 Tr.z) 134 (5 : Nat) (5 : Nat)).2 : Nat) : Int))]) rfl Tryd.hb40 rfl fun w h h2 => rdrListF b5 (b28.2.getD 0 HT.z) ((wT b17.tr).getD 0 Tr.z) 134 5 5 (orE (decF xs).2 (((rdSeq b17.tr 135 (2 : Nat) (2 : Nat)).2 : Nat) : Int)) w h2 (HSeen.lsK (y := b28) (hseen_rdo h zz4 zz19) zz14) (tr_get (show trs b28.2 = wT b17.tr from p28.1) 0) (sm_get hsmT 0) zz20) rfl (fun _ => (fun w h => .inr (h.sub SubC.h SubC.h))) (fun b33 p33 => ?_)
  have hl33 : b33.2.length = 5 := (len_trs p33.1).trans (fT_len _)
  have svl33 := p33.2.1
  haveI := (p33.2.2 (b33.2.getD 0 HT.z) (getD_memH zz14)).one
  haveI := (p33.2.2 (b33.2.getD 1 HT.z) (getD_memH zz14)).one
  haveI := (p33.2.2 (b33.2.getD 2 HT.z) (getD_memH zz14)).one
  haveI := (p33.2.2 (b33.2.getD 3 HT.z) (getD_memH zz14)).one
  haveI := (p33.2.2 (b33.2.getD 4 HT.z) (getD_memH zz14)).one
  refine wpd_tp 9 rfl zz7 trivial (t_callLS (.blk b5 24 [.int .i64 (orE (orE (decF xs).2 (((rdSeq b17.tr 135 (2 : Nat) (2 : Nat)).2 : Nat) : Int)) (((rdSeq ((wT b17.tr).getD 0 Tr.z) 134 (5 : Nat) (5 : Nat)).2 : Nat) : Int))]) (.blk b5 24 [.int .i64 (orE (orE (orE (decF xs).2 (((rdSeq b17.tr 135 (2 : Nat) (2 : Nat)).2 : Nat) : Int)) (((rdSeq ((wT b17.tr).getD 0 Tr.z) 134 (5 : Nat) (5 : Nat)).2 : Nat) : Int)) (((rdSeq ((wT b17.tr).getD 1 Tr.z) 131 (3 : Nat) (3 : Nat)).2 : Nat) : Int))]) rfl Tryd.hb40 rfl fun w h h2 => rdrListF b5 (b28.2.getD 1 HT.z) ((wT b17.tr).getD 1 Tr.z) 131 3 3 (orE (orE (decF xs).2 (((rdSeq b17.tr 135 (2 : Nat) (2 : Nat)).2 : Nat) : Int)) (((rdSeq ((wT b17.tr).getD 0 Tr.z) 134 (5 : Nat) (5 : Nat)).2 : Nat) : Int)) w h2 (HSeen.lsK (y := b28) (hseen_rdo h zz4 zz19) zz14) (tr_get (show trs b28.2 = wT b17.tr from p28.1) 1) (sm_get hsmT 1) zz20) rfl (fun _ => (fun w h => .inr (h.sub SubC.h SubC.h))) (fun b38 p38 => ?_)
  have hl38 : b38.2.length = 3 := (len_trs p38.1).trans (gT_len _)
  have svl38 := p38.2.1
  haveI := (p38.2.2 (b38.2.getD 0 HT.z) (getD_memH zz14)).one
  haveI := (p38.2.2 (b38.2.getD 1 HT.z) (getD_memH zz14)).one
  haveI := (p38.2.2 (b38.2.getD 2 HT.z) (getD_memH zz14)).one
  refine wpd_p 10 rfl zz7 trivial (q_pure rfl) rfl (fun w h => .inr (h.sub SubC.h SubC.h)) ?_
  refine wpd_p 11 rfl zz7 trivial (q_pure rfl) rfl (fun w h => .inr (h.sub SubC.h SubC.h)) ?_
  refine wpd_done zz7 ?_
  refine ex_then ?_
  refine wpc_cutc ({ x : Nat // True }) [(2, .pointer (some ⟨b2, 0, none⟩)), (5, .pointer (some ⟨b5, 0, none⟩)), (6, .pointer (some ⟨b6, 0, none⟩)), (7, .func (.func 39) #[.agg #[(.func (.func 37) #[] #[.pointer (some ⟨b5, 0, none⟩)])]] #[]), (8, .func (.func 40) #[.agg #[(.func (.func 37) #[] #[.pointer (some ⟨b5, 0, none⟩)])]] #[]), (10, b33.1), (11, b38.1)] (fun x Lc => (12, .pointer (some ⟨x.1, 0, none⟩)) :: Lc) (fun x => Mem w [] [.blk x.1 32 [str (rdStr ((fT b17.tr).getD 0 Tr.z) 1 40).1, .int .u64 ((rdNum ((fT b17.tr).getD 1 Tr.z) 2 18446744073709551615).1.toNat : Int), .int .i64 ((rdNum ((fT b17.tr).getD 2 Tr.z) 3 1099511627776).1.toNat : Int), .int .i64 ((rdNum ((fT b17.tr).getD 3 Tr.z) 4 1099511627776).1.toNat : Int), nl, .int .i64 0, nl, nl], .blk b5 24 [.int .i64 (orE (orE (orE (orE (orE (orE (orE (decF xs).2 (((rdSeq b17.tr 135 (2 : Nat) (2 : Nat)).2 : Nat) : Int)) (((rdSeq ((wT b17.tr).getD 0 Tr.z) 134 (5 : Nat) (5 : Nat)).2 : Nat) : Int)) (((rdSeq ((wT b17.tr).getD 1 Tr.z) 131 (3 : Nat) (3 : Nat)).2 : Nat) : Int)) (((rdStr ((fT b17.tr).getD 0 Tr.z) 1 40).2 : Nat) : Int)) (((rdNum ((fT b17.tr).getD 1 Tr.z) 2 18446744073709551615).2 : Nat) : Int)) (((rdNum ((fT b17.tr).getD 2 Tr.z) 3 1099511627776).2 : Nat) : Int)) (((rdNum ((fT b17.tr).getD 3 Tr.z) 4 1099511627776).2 : Nat) : Int))], .blk b6 84 [(.func (.func 37) #[] #[.pointer (some ⟨b5, 0, none⟩)])], .blk b4 61 b17.c, .blk b2 32 Rv.z.c] [Go.Proofs.YtgnablliekgbgaaDoor.hseen (lsH b38), Go.Proofs.YtgnablliekgbgaaDoor.hseen (lsH b33), Go.Proofs.YtgnablliekgbgaaDoor.hseen (lsH b28), Go.Proofs.YtgnablliekgbgaaDoor.hseen b17]) ?_ ?_
  ·
   refine wpc_drawM [.blk b6 84 [(.func (.func 37) #[] #[.pointer (some ⟨b5, 0, none⟩)])]] 99 zz7 zz8 ?_
   refine wpd_q 0 rfl zz7 trivial (q_ldN Tryd.underlying84 rfl Tryd.ti84 rfl LenC.h) rfl (fun w h => h.sub SubC.h SubC.h) ?_
   refine wpd_p 1 rfl zz7 trivial (q_pure rfl) rfl (fun w h => .inr (h.sub SubC.h SubC.h)) ?_
   refine wpd_p 2 rfl zz7 trivial (q_idxW (j := 0) Tryd.underlying59 Tryd.ti61 rfl rfl zz3 zz1) rfl (fun w h => .inr (h.sub SubC.h SubC.h)) ?_
   refine wpd_q 3 rfl zz7 trivial (q_ldWN Tryd.underlying61 rfl Tryd.ti61 rfl (fun w h => HSeen.lsS (y := b33) (Mem.hseenF h zz4)) (b33.2.getD 0 HT.z).c (hcs_part zz14) LenC.h) rfl (fun w h => h.sub SubC.h SubC.h) ?_
   refine wpd_p 5 rfl zz7 trivial (q_pure rfl) rfl (fun w h => .inr (h.sub SubC.h SubC.h)) ?_
   refine wpd_p 6 rfl zz7 trivial (q_pure rfl) rfl (fun w h => .inr (h.sub SubC.h SubC.h)) ?_
   refine wpd_p 7 rfl zz7 trivial (q_idxW (j := 1) Tryd.underlying59 Tryd.ti61 rfl rfl zz3 zz1) rfl (fun w h => .inr (h.sub SubC.h SubC.h)) ?_
   refine wpd_q 8 rfl zz7 trivial (q_ldWN Tryd.underlying61 rfl Tryd.ti61 rfl (fun w h => HSeen.lsS (y := b33) (Mem.hseenF h zz4)) (b33.2.getD 1 HT.z).c (hcs_part zz14) LenC.h) rfl (fun w h => h.sub SubC.h SubC.h) ?_
   refine wpd_p 10 rfl zz7 trivial (q_pure rfl) rfl (fun w h => .inr (h.sub SubC.h SubC.h)) ?_
   refine wpd_p 11 rfl zz7 trivial (q_pure rfl) rfl (fun w h => .inr (h.sub SubC.h SubC.h)) ?_
   refine wpd_p 12 rfl zz7 trivial (q_idxW (j := 2) Tryd.underlying59 Tryd.ti61 rfl rfl zz3 zz1) rfl (fun w h => .inr (h.sub SubC.h SubC.h)) ?_
   refine wpd_q 13 rfl zz7 trivial (q_ldWN Tryd.underlying61 rfl Tryd.ti61 rfl (fun w h => HSeen.lsS (y := b33) (Mem.hseenF h zz4)) (b33.2.getD 2 HT.z).c (hcs_part zz14) LenC.h) rfl (fun w h => h.sub SubC.h SubC.h) ?_
   refine wpd_p 16 rfl zz7 trivial (q_pure rfl) rfl (fun w h => .inr (h.sub SubC.h SubC.h)) ?_
   refine wpd_p 17 rfl zz7 trivial (q_pure rfl) rfl (fun w h => .inr (h.sub SubC.h SubC.h)) ?_
   refine wpd_p 18 rfl zz7 trivial (q_idxW (j := 3) Tryd.underlying59 Tryd.ti61 rfl rfl zz3 zz1) rfl (fun w h => .inr (h.sub SubC.h SubC.h)) ?_
   refine wpd_q 19 rfl zz7 trivial (q_ldWN Tryd.underlying61 rfl Tryd.ti61 rfl (fun w h => HSeen.lsS (y := b33) (Mem.hseenF h zz4)) (b33.2.getD 3 HT.z).c (hcs_part zz14) LenC.h) rfl (fun w h => h.sub SubC.h SubC.h) ?_
   refine wpd_two 4 24 zz7 ?_ ?_
   ·
    refine wpa_tp 4 rfl trivial (t_callU (.blk b5 24 [.int .i64 (orE (orE (orE (decF xs).2 (((rdSeq b17.tr 135 (2 : Nat) (2 : Nat)).2 : Nat) : Int)) (((rdSeq ((wT b17.tr).getD 0 Tr.z) 134 (5 : Nat) (5 : Nat)).2 : Nat) : Int)) (((rdSeq ((wT b17.tr).getD 1 Tr.z) 131 (3 : Nat) (3 : Nat)).2 : Nat) : Int))]) (.blk b5 24 [.int .i64 (orE (orE (orE (orE (decF xs).2 (((rdSeq b17.tr 135 (2 : Nat) (2 : Nat)).2 : Nat) : Int)) (((rdSeq ((wT b17.tr).getD 0 Tr.z) 134 (5 : Nat) (5 : Nat)).2 : Nat) : Int)) (((rdSeq ((wT b17.tr).getD 1 Tr.z) 131 (3 : Nat) (3 : Nat)).2 : Nat) : Int)) (((rdStr ((fT b17.tr).getD 0 Tr.z) 1 40).2 : Nat) : Int))]) rfl Tryd.hb41 rfl fun w h h2 => rdrStrF b5 (b33.2.getD 0 HT.z) ((fT b17.tr).getD 0 Tr.z) 1 40 (orE (orE (orE (decF xs).2 (((rdSeq b17.tr 135 (2 : Nat) (2 : Nat)).2 : Nat) : Int)) (((rdSeq ((wT b17.tr).getD 0 Tr.z) 134 (5 : Nat) (5 : Nat)).2 : Nat) : Int)) (((rdSeq ((wT b17.tr).getD 1 Tr.z) 131 (3 : Nat) (3 : Nat)).2 : Nat) : Int)) w h2 (HSeen.lsK (y := b33) (hseen_rdo h zz4 zz19) zz14) (tr_get (show trs b33.2 = fT b17.tr from p33.1) 0)) rfl (fun _ => (fun w h => .inr (h.sub SubC.h SubC.h))) (fun b43 p43 => ?_)
    refine wpd_two 9 24 zz7 ?_ ?_
    ·
     refine wpa_tp 9 rfl trivial (t_callU (.blk b5 24 [.int .i64 (orE (orE (orE (orE (decF xs).2 (((rdSeq b17.tr 135 (2 : Nat) (2 : Nat)).2 : Nat) : Int)) (((rdSeq ((wT b17.tr).getD 0 Tr.z) 134 (5 : Nat) (5 : Nat)).2 : Nat) : Int)) (((rdSeq ((wT b17.tr).getD 1 Tr.z) 131 (3 : Nat) (3 : Nat)).2 : Nat) : Int)) (((rdStr ((fT b17.tr).getD 0 Tr.z) 1 40).2 : Nat) : Int))]) (.blk b5 24 [.int .i64 (orE (orE (orE (orE (orE (decF xs).2 (((rdSeq b17.tr 135 (2 : Nat) (2 : Nat)).2 : Nat) : Int)) (((rdSeq ((wT b17.tr).getD 0 Tr.z) 134 (5 : Nat) (5 : Nat)).2 : Nat) : Int)) (((rdSeq ((wT b17.tr).getD 1 Tr.z) 131 (3 : Nat) (3 : Nat)).2 : Nat) : Int)) (((rdStr ((fT b17.tr).getD 0 Tr.z) 1 40).2 : Nat) : Int)) (((rdNum ((fT b17.tr).getD 1 Tr.z) 2 18446744073709551615).2 : Nat) : Int))]) rfl Tryd.hb39 rfl fun w h h2 => rdrNumF b5 (b33.2.getD 1 HT.z) ((fT b17.tr).getD 1 Tr.z) 2 18446744073709551615 (orE (orE (orE (orE (decF xs).2 (((rdSeq b17.tr 135 (2 : Nat) (2 : Nat)).2 : Nat) : Int)) (((rdSeq ((wT b17.tr).getD 0 Tr.z) 134 (5 : Nat) (5 : Nat)).2 : Nat) : Int)) (((rdSeq ((wT b17.tr).getD 1 Tr.z) 131 (3 : Nat) (3 : Nat)).2 : Nat) : Int)) (((rdStr ((fT b17.tr).getD 0 Tr.z) 1 40).2 : Nat) : Int)) w h2 (HSeen.lsK (y := b33) (hseen_rdo h zz4 zz19) zz14) (tr_get (show trs b33.2 = fT b17.tr from p33.1) 1)) rfl (fun _ => (fun w h => .inr (h.sub SubC.h SubC.h))) (fun b48 p48 => ?_)
     refine wpd_two 14 24 zz7 ?_ ?_
     ·
      refine wpa_tp 14 rfl trivial (t_callU (.blk b5 24 [.int .i64 (orE (orE (orE (orE (orE (decF xs).2 (((rdSeq b17.tr 135 (2 : Nat) (2 : Nat)).2 : Nat) : Int)) (((rdSeq ((wT b17.tr).getD 0 Tr.z) 134 (5 : Nat) (5 : Nat)).2 : Nat) : Int)) (((rdSeq ((wT b17.tr).getD 1 Tr.z) 131 (3 : Nat) (3 : Nat)).2 : Nat) : Int)) (((rdStr ((fT b17.tr).getD 0 Tr.z) 1 40).2 : Nat) : Int)) (((rdNum ((fT b17.tr).getD 1 Tr.z) 2 18446744073709551615).2 : Nat) : Int))]) (.blk b5 24 [.int .i64 (orE (orE (orE (orE (orE (orE (decF xs).2 (((rdSeq b17.tr 135 (2 : Nat) (2 : Nat)).2 : Nat) : Int)) (((rdSeq ((wT b17.tr).getD 0 Tr.z) 134 (5 : Nat) (5 : Nat)).2 : Nat) : Int)) (((rdSeq ((wT b17.tr).getD 1 Tr.z) 131 (3 : Nat) (3 : Nat)).2 : Nat) : Int)) (((rdStr ((fT b17.tr).getD 0 Tr.z) 1 40).2 : Nat) : Int)) (((rdNum ((fT b17.tr).getD 1 Tr.z) 2 18446744073709551615).2 : Nat) : Int)) (((rdNum ((fT b17.tr).getD 2 Tr.z) 3 1099511627776).2 : Nat) : Int))]) rfl Tryd.hb39 rfl fun w h h2 => rdrNumF b5 (b33.2.getD 2 HT.z) ((fT b17.tr).getD 2 Tr.z) 3 1099511627776 (orE (orE (orE (orE (orE (decF xs).2 (((rdSeq b17.tr 135 (2 : Nat) (2 : Nat)).2 : Nat) : Int)) (((rdSeq ((wT b17.tr).getD 0 Tr.z) 134 (5 : Nat) (5 : Nat)).2 : Nat) : Int)) (((rdSeq ((wT b17.tr).getD 1 Tr.z) 131 (3 : Nat) (3 : Nat)).2 : Nat) : Int)) (((rdStr ((fT b17.tr).getD 0 Tr.z) 1 40).2 : Nat) : Int)) (((rdNum ((fT b17.tr).getD 1 Tr.z) 2 18446744073709551615).2 : Nat) : Int)) w h2 (HSeen.lsK (y := b33) (hseen_rdo h zz4 zz19) zz14) (tr_get (show trs b33.2 = fT b17.tr from p33.1) 2)) rfl (fun _ => (fun w h => .inr (h.sub SubC.h SubC.h))) (fun b53 p53 => ?_)
      refine wpd_p 15 rfl zz7 trivial (q64_intN Tryd.underlying23 Tryd.underlying2 rfl zz37) rfl (fun w h => .inr (h.sub SubC.h SubC.h)) ?_
      refine wpd_two 20 24 zz7 ?_ ?_
      ·
       refine wpa_tp 20 rfl trivial (t_callU (.blk b5 24 [.int .i64 (orE (orE (orE (orE (orE (orE (decF xs).2 (((rdSeq b17.tr 135 (2 : Nat) (2 : Nat)).2 : Nat) : Int)) (((rdSeq ((wT b17.tr).getD 0 Tr.z) 134 (5 : Nat) (5 : Nat)).2 : Nat) : Int)) (((rdSeq ((wT b17.tr).getD 1 Tr.z) 131 (3 : Nat) (3 : Nat)).2 : Nat) : Int)) (((rdStr ((fT b17.tr).getD 0 Tr.z) 1 40).2 : Nat) : Int)) (((rdNum ((fT b17.tr).getD 1 Tr.z) 2 18446744073709551615).2 : Nat) : Int)) (((rdNum ((fT b17.tr).getD 2 Tr.z) 3 1099511627776).2 : Nat) : Int))]) (.blk b5 24 [.int .i64 (orE (orE (orE (orE (orE (orE (orE (decF xs).2 (((rdSeq b17.tr 135 (2 : Nat) (2 : Nat)).2 : Nat) : Int)) (((rdSeq ((wT b17.tr).getD 0 Tr.z) 134 (5 : Nat) (5 : Nat)).2 : Nat) : Int)) (((rdSeq ((wT b17.tr).getD 1 Tr.z) 131 (3 : Nat) (3 : Nat)).2 : Nat) : Int)) (((rdStr ((fT b17.tr).getD 0 Tr.z) 1 40).2 : Nat) : Int)) (((rdNum ((fT b17.tr).getD 1 Tr.z) 2 18446744073709551615).2 : Nat) : Int)) (((rdNum ((fT b17.tr).getD 2 Tr.z) 3 1099511627776).2 : Nat) : Int)) (((rdNum ((fT b17.tr).getD 3 Tr.z) 4 1099511627776).2 : Nat) : Int))]) rfl Tryd.hb39 rfl fun w h h2 => rdrNumF b5 (b33.2.getD 3 HT.z) ((fT b17.tr).getD 3 Tr.z) 4 1099511627776 (orE (orE (orE (orE (orE (orE (decF xs).2 (((rdSeq b17.tr 135 (2 : Nat) (2 : Nat)).2 : Nat) : Int)) (((rdSeq ((wT b17.tr).getD 0 Tr.z) 134 (5 : Nat) (5 : Nat)).2 : Nat) : Int)) (((rdSeq ((wT b17.tr).getD 1 Tr.z) 131 (3 : Nat) (3 : Nat)).2 : Nat) : Int)) (((rdStr ((fT b17.tr).getD 0 Tr.z) 1 40).2 : Nat) : Int)) (((rdNum ((fT b17.tr).getD 1 Tr.z) 2 18446744073709551615).2 : Nat) : Int)) (((rdNum ((fT b17.tr).getD 2 Tr.z) 3 1099511627776).2 : Nat) : Int)) w h2 (HSeen.lsK (y := b33) (hseen_rdo h zz4 zz19) zz14) (tr_get (show trs b33.2 = fT b17.tr from p33.1) 3)) rfl (fun _ => (fun w h => .inr (h.sub SubC.h SubC.h))) (fun b59 p59 => ?_)
       refine wpd_p 21 rfl zz7 trivial (q64_intN Tryd.underlying23 Tryd.underlying2 rfl zz31) rfl (fun w h => .inr (h.sub SubC.h SubC.h)) ?_
       refine wpd_p 22 rfl zz7 trivial (q_build (cs := [.int .i64 ((rdNum ((fT b17.tr).getD 2 Tr.z) 3 1099511627776).1.toNat : Int), .int .i64 ((rdNum ((fT b17.tr).getD 3 Tr.z) 4 1099511627776).1.toNat : Int)]) rfl zz7) rfl (fun w h => .inr (h.sub SubC.h SubC.h)) ?_
       refine wpd_p 23 rfl zz7 trivial (q_build (cs := [str (rdStr ((fT b17.tr).getD 0 Tr.z) 1 40).1, .int .u64 ((rdNum ((fT b17.tr).getD 1 Tr.z) 2 18446744073709551615).1.toNat : Int), .int .i64 ((rdNum ((fT b17.tr).getD 2 Tr.z) 3 1099511627776).1.toNat : Int), .int .i64 ((rdNum ((fT b17.tr).getD 3 Tr.z) 4 1099511627776).1.toNat : Int), nl, .int .i64 0, nl, nl]) rfl zz7) rfl (fun w h => .inr (h.sub SubC.h SubC.h)) ?_
       refine wpd_t 24 rfl zz7 trivial (t_alloc Tryd.ti32 Rv.z.c rfl) rfl (fun _ => (fun w h => .inr (h.sub SubC.h SubC.h))) (fun b12 => ?_)
       refine wpd_t0 25 rfl zz7 trivial (t_stA Tryd.ti32 rfl rfl LenC.h (OneC.cons rfl (OneC.cons rfl (OneC.cons rfl (OneC.cons rfl (OneC.cons rfl (OneC.cons rfl (OneC.cons rfl (OneC.cons rfl oneC_nil)))))))).h LenC.h) (fun _ => (fun w h => .inr (h.sub SubC.h SubC.h))) (fun _ => ?_)
       refine wpd_done zz7 ?_
       refine ex_mid ⟨b12, trivial⟩ ?_ ?_
       ·
        exact zz9
       ·
        exact fun w h => h.sel
      ·
       refine wpa_t 24 rfl trivial (t_alloc Tryd.ti32 Rv.z.c rfl) rfl (fun _ => (fun w h => .inr (h.sub SubC.h SubC.h))) (fun b12 => ?_)
       refine wpd_tp 20 rfl zz7 trivial (t_callU (.blk b5 24 [.int .i64 (orE (orE (orE (orE (orE (orE (decF xs).2 (((rdSeq b17.tr 135 (2 : Nat) (2 : Nat)).2 : Nat) : Int)) (((rdSeq ((wT b17.tr).getD 0 Tr.z) 134 (5 : Nat) (5 : Nat)).2 : Nat) : Int)) (((rdSeq ((wT b17.tr).getD 1 Tr.z) 131 (3 : Nat) (3 : Nat)).2 : Nat) : Int)) (((rdStr ((fT b17.tr).getD 0 Tr.z) 1 40).2 : Nat) : Int)) (((rdNum ((fT b17.tr).getD 1 Tr.z) 2 18446744073709551615).2 : Nat) : Int)) (((rdNum ((fT b17.tr).getD 2 Tr.z) 3 1099511627776).2 : Nat) : Int))]) (.blk b5 24 [.int .i64 (orE (orE (orE (orE (orE (orE (orE (decF xs).2 (((rdSeq b17.tr 135 (2 : Nat) (2 : Nat)).2 : Nat) : Int)) (((rdSeq ((wT b17.tr).getD 0 Tr.z) 134 (5 : Nat) (5 : Nat)).2 : Nat) : Int)) (((rdSeq ((wT b17.tr).getD 1 Tr.z) 131 (3 : Nat) (3 : Nat)).2 : Nat) : Int)) (((rdStr ((fT b17.tr).getD 0 Tr.z) 1 40).2 : Nat) : Int)) (((rdNum ((fT b17.tr).getD 1 Tr.z) 2 18446744073709551615).2 : Nat) : Int)) (((rdNum ((fT b17.tr).getD 2 Tr.z) 3 1099511627776).2 : Nat) : Int)) (((rdNum ((fT b17.tr).getD 3 Tr.z) 4 1099511627776).2 : Nat) : Int))]) rfl Tryd.hb39 rfl fun w h h2 => rdrNumF b5 (b33.2.getD 3 HT.z) ((fT b17.tr).getD 3 Tr.z) 4 1099511627776 (orE (orE (orE (orE (orE (orE (decF xs).2 (((rdSeq b17.tr 135 (2 : Nat) (2 : Nat)).2 : Nat) : Int)) (((rdSeq ((wT b17.tr).getD 0 Tr.z) 134 (5 : Nat) (5 : Nat)).2 : Nat) : Int)) (((rdSeq ((wT b17.tr).getD 1 Tr.z) 131 (3 : Nat) (3 : Nat)).2 : Nat) : Int)) (((rdStr ((fT b17.tr).getD 0 Tr.z) 1 40).2 : Nat) : Int)) (((rdNum ((fT b17.tr).getD 1 Tr.z) 2 18446744073709551615).2 : Nat) : Int)) (((rdNum ((fT b17.tr).getD 2 Tr.z) 3 1099511627776).2 : Nat) : Int)) w h2 (HSeen.lsK (y := b33) (hseen_rdo h zz4 zz19) zz14) (tr_get (show trs b33.2 = fT b17.tr from p33.1) 3)) rfl (fun _ => (fun w h => .inr (h.sub SubC.h SubC.h))) (fun b59 p59 => ?_)
       refine wpd_p 21 rfl zz7 trivial (q64_intN Tryd.underlying23 Tryd.underlying2 rfl zz31) rfl (fun w h => .inr (h.sub SubC.h SubC.h)) ?_
       refine wpd_p 22 rfl zz7 trivial (q_build (cs := [.int .i64 ((rdNum ((fT b17.tr).getD 2 Tr.z) 3 1099511627776).1.toNat : Int), .int .i64 ((rdNum ((fT b17.tr).getD 3 Tr.z) 4 1099511627776).1.toNat : Int)]) rfl zz7) rfl (fun w h => .inr (h.sub SubC.h SubC.h)) ?_
       refine wpd_p 23 rfl zz7 trivial (q_build (cs := [str (rdStr ((fT b17.tr).getD 0 Tr.z) 1 40).1, .int .u64 ((rdNum ((fT b17.tr).getD 1 Tr.z) 2 18446744073709551615).1.toNat : Int), .int .i64 ((rdNum ((fT b17.tr).getD 2 Tr.z) 3 1099511627776).1.toNat : Int), .int .i64 ((rdNum ((fT b17.tr).getD 3 Tr.z) 4 1099511627776).1.toNat : Int), nl, .int .i64 0, nl, nl]) rfl zz7) rfl (fun w h => .inr (h.sub SubC.h SubC.h)) ?_
       refine wpd_t0 25 rfl zz7 trivial (t_stA Tryd.ti32 rfl rfl LenC.h (OneC.cons rfl (OneC.cons rfl (OneC.cons rfl (OneC.cons rfl (OneC.cons rfl (OneC.cons rfl (OneC.cons rfl (OneC.cons rfl oneC_nil)))))))).h LenC.h) (fun _ => (fun w h => .inr (h.sub SubC.h SubC.h))) (fun _ => ?_)
       refine wpd_done zz7 ?_
       refine ex_mid ⟨b12, trivial⟩ ?_ ?_
       ·
        exact zz9
       ·
        exact fun w h => h.sel
     ·
      refine wpa_t 24 rfl trivial (t_alloc Tryd.ti32 Rv.z.c rfl) rfl (fun _ => (fun w h => .inr (h.sub SubC.h SubC.h))) (fun b12 => ?_)
      refine wpd_tp 14 rfl zz7 trivial (t_callU (.blk b5 24 [.int .i64 (orE (orE (orE (orE (orE (decF xs).2 (((rdSeq b17.tr 135 (2 : Nat) (2 : Nat)).2 : Nat) : Int)) (((rdSeq ((wT b17.tr).getD 0 Tr.z) 134 (5 : Nat) (5 : Nat)).2 : Nat) : Int)) (((rdSeq ((wT b17.tr).getD 1 Tr.z) 131 (3 : Nat) (3 : Nat)).2 : Nat) : Int)) (((rdStr ((fT b17.tr).getD 0 Tr.z) 1 40).2 : Nat) : Int)) (((rdNum ((fT b17.tr).getD 1 Tr.z) 2 18446744073709551615).2 : Nat) : Int))]) (.blk b5 24 [.int .i64 (orE (orE (orE (orE (orE (orE (decF xs).2 (((rdSeq b17.tr 135 (2 : Nat) (2 : Nat)).2 : Nat) : Int)) (((rdSeq ((wT b17.tr).getD 0 Tr.z) 134 (5 : Nat) (5 : Nat)).2 : Nat) : Int)) (((rdSeq ((wT b17.tr).getD 1 Tr.z) 131 (3 : Nat) (3 : Nat)).2 : Nat) : Int)) (((rdStr ((fT b17.tr).getD 0 Tr.z) 1 40).2 : Nat) : Int)) (((rdNum ((fT b17.tr).getD 1 Tr.z) 2 18446744073709551615).2 : Nat) : Int)) (((rdNum ((fT b17.tr).getD 2 Tr.z) 3 1099511627776).2 : Nat) : Int))]) rfl Tryd.hb39 rfl fun w h h2 => rdrNumF b5 (b33.2.getD 2 HT.z) ((fT b17.tr).getD 2 Tr.z) 3 1099511627776 (orE (orE (orE (orE (orE (decF xs).2 (((rdSeq b17.tr 135 (2 : Nat) (2 : Nat)).2 : Nat) : Int)) (((rdSeq ((wT b17.tr).getD 0 Tr.z) 134 (5 : Nat) (5 : Nat)).2 : Nat) : Int)) (((rdSeq ((wT b17.tr).getD 1 Tr.z) 131 (3 : Nat) (3 : Nat)).2 : Nat) : Int)) (((rdStr ((fT b17.tr).getD 0 Tr.z) 1 40).2 : Nat) : Int)) (((rdNum ((fT b17.tr).getD 1 Tr.z) 2 18446744073709551615).2 : Nat) : Int)) w h2 (HSeen.lsK (y := b33) (hseen_rdo h zz4 zz19) zz14) (tr_get (show trs b33.2 = fT b17.tr from p33.1) 2)) rfl (fun _ => (fun w h => .inr (h.sub SubC.h SubC.h))) (fun b53 p53 => ?_)
      refine wpd_p 15 rfl zz7 trivial (q64_intN Tryd.underlying23 Tryd.underlying2 rfl zz37) rfl (fun w h => .inr (h.sub SubC.h SubC.h)) ?_
      refine wpd_tp 20 rfl zz7 trivial (t_callU (.blk b5 24 [.int .i64 (orE (orE (orE (orE (orE (orE (decF xs).2 (((rdSeq b17.tr 135 (2 : Nat) (2 : Nat)).2 : Nat) : Int)) (((rdSeq ((wT b17.tr).getD 0 Tr.z) 134 (5 : Nat) (5 : Nat)).2 : Nat) : Int)) (((rdSeq ((wT b17.tr).getD 1 Tr.z) 131 (3 : Nat) (3 : Nat)).2 : Nat) : Int)) (((rdStr ((fT b17.tr).getD 0 Tr.z) 1 40).2 : Nat) : Int)) (((rdNum ((fT b17.tr).getD 1 Tr.z) 2 18446744073709551615).2 : Nat) : Int)) (((rdNum ((fT b17.tr).getD 2 Tr.z) 3 1099511627776).2 : Nat) : Int))]) (.blk b5 24 [.int .i64 (orE (orE (orE (orE (orE (orE (orE (decF xs).2 (((rdSeq b17.tr 135 (2 : Nat) (2 : Nat)).2 : Nat) : Int)) (((rdSeq ((wT b17.tr).getD 0 Tr.z) 134 (5 : Nat) (5 : Nat)).2 : Nat) : Int)) (((rdSeq ((wT b17.tr).getD 1 Tr.z) 131 (3 : Nat) (3 : Nat)).2 : Nat) : Int)) (((rdStr ((fT b17.tr).getD 0 Tr.z) 1 40).2 : Nat) : Int)) (((rdNum ((fT b17.tr).getD 1 Tr.z) 2 18446744073709551615).2 : Nat) : Int)) (((rdNum ((fT b17.tr).getD 2 Tr.z) 3 1099511627776).2 : Nat) : Int)) (((rdNum ((fT b17.tr).getD 3 Tr.z) 4 1099511627776).2 : Nat) : Int))]) rfl Tryd.hb39 rfl fun w h h2 => rdrNumF b5 (b33.2.getD 3 HT.z) ((fT b17.tr).getD 3 Tr.z) 4 1099511627776 (orE (orE (orE (orE (orE (orE (decF xs).2 (((rdSeq b17.tr 135 (2 : Nat) (2 : Nat)).2 : Nat) : Int)) (((rdSeq ((wT b17.tr).getD 0 Tr.z) 134 (5 : Nat) (5 : Nat)).2 : Nat) : Int)) (((rdSeq ((wT b17.tr).getD 1 Tr.z) 131 (3 : Nat) (3 : Nat)).2 : Nat) : Int)) (((rdStr ((fT b17.tr).getD 0 Tr.z) 1 40).2 : Nat) : Int)) (((rdNum ((fT b17.tr).getD 1 Tr.z) 2 18446744073709551615).2 : Nat) : Int)) (((rdNum ((fT b17.tr).getD 2 Tr.z) 3 1099511627776).2 : Nat) : Int)) w h2 (HSeen.lsK (y := b33) (hseen_rdo h zz4 zz19) zz14) (tr_get (show trs b33.2 = fT b17.tr from p33.1) 3)) rfl (fun _ => (fun w h => .inr (h.sub SubC.h SubC.h))) (fun b59 p59 => ?_)
      refine wpd_p 21 rfl zz7 trivial (q64_intN Tryd.underlying23 Tryd.underlying2 rfl zz31) rfl (fun w h => .inr (h.sub SubC.h SubC.h)) ?_
      refine wpd_p 22 rfl zz7 trivial (q_build (cs := [.int .i64 ((rdNum ((fT b17.tr).getD 2 Tr.z) 3 1099511627776).1.toNat : Int), .int .i64 ((rdNum ((fT b17.tr).getD 3 Tr.z) 4 1099511627776).1.toNat : Int)]) rfl zz7) rfl (fun w h => .inr (h.sub SubC.h SubC.h)) ?_
      refine wpd_p 23 rfl zz7 trivial (q_build (cs := [str (rdStr ((fT b17.tr).getD 0 Tr.z) 1 40).1, .int .u64 ((rdNum ((fT b17.tr).getD 1 Tr.z) 2 18446744073709551615).1.toNat : Int), .int .i64 ((rdNum ((fT b17.tr).getD 2 Tr.z) 3 1099511627776).1.toNat : Int), .int .i64 ((rdNum ((fT b17.tr).getD 3 Tr.z) 4 1099511627776).1.toNat : Int), nl, .int .i64 0, nl, nl]) rfl zz7) rfl (fun w h => .inr (h.sub SubC.h SubC.h)) ?_
      refine wpd_t0 25 rfl zz7 trivial (t_stA Tryd.ti32 rfl rfl LenC.h (OneC.cons rfl (OneC.cons rfl (OneC.cons rfl (OneC.cons rfl (OneC.cons rfl (OneC.cons rfl (OneC.cons rfl (OneC.cons rfl oneC_nil)))))))).h LenC.h) (fun _ => (fun w h => .inr (h.sub SubC.h SubC.h))) (fun _ => ?_)
      refine wpd_done zz7 ?_
      refine ex_mid ⟨b12, trivial⟩ ?_ ?_
      ·
       exact zz9
      ·
       exact fun w h => h.sel
    ·
     refine wpa_t 24 rfl trivial (t_alloc Tryd.ti32 Rv.z.c rfl) rfl (fun _ => (fun w h => .inr (h.sub SubC.h SubC.h))) (fun b12 => ?_)
     refine wpd_tp 9 rfl zz7 trivial (t_callU (.blk b5 24 [.int .i64 (orE (orE (orE (orE (decF xs).2 (((rdSeq b17.tr 135 (2 : Nat) (2 : Nat)).2 : Nat) : Int)) (((rdSeq ((wT b17.tr).getD 0 Tr.z) 134 (5 : Nat) (5 : Nat)).2 : Nat) : Int)) (((rdSeq ((wT b17.tr).getD 1 Tr.z) 131 (3 : Nat) (3 : Nat)).2 : Nat) : Int)) (((rdStr ((fT b17.tr).getD 0 Tr.z) 1 40).2 : Nat) : Int))]) (.blk b5 24 [.int .i64 (orE (orE (orE (orE (orE (decF xs).2 (((rdSeq b17.tr 135 (2 : Nat) (2 : Nat)).2 : Nat) : Int)) (((rdSeq ((wT b17.tr).getD 0 Tr.z) 134 (5 : Nat) (5 : Nat)).2 : Nat) : Int)) (((rdSeq ((wT b17.tr).getD 1 Tr.z) 131 (3 : Nat) (3 : Nat)).2 : Nat) : Int)) (((rdStr ((fT b17.tr).getD 0 Tr.z) 1 40).2 : Nat) : Int)) (((rdNum ((fT b17.tr).getD 1 Tr.z) 2 18446744073709551615).2 : Nat) : Int))]) rfl Tryd.hb39 rfl fun w h h2 => rdrNumF b5 (b33.2.getD 1 HT.z) ((fT b17.tr).getD 1 Tr.z) 2 18446744073709551615 (orE (orE (orE (orE (decF xs).2 (((rdSeq b17.tr 135 (2 : Nat) (2 : Nat)).2 : Nat) : Int)) (((rdSeq ((wT b17.tr).getD 0 Tr.z) 134 (5 : Nat) (5 : Nat)).2 : Nat) : Int)) (((rdSeq ((wT b17.tr).getD 1 Tr.z) 131 (3 : Nat) (3 : Nat)).2 : Nat) : Int)) (((rdStr ((fT b17.tr).getD 0 Tr.z) 1 40).2 : Nat) : Int)) w h2 (HSeen.lsK (y := b33) (hseen_rdo h zz4 zz19) zz14) (tr_get (show trs b33.2 = fT b17.tr from p33.1) 1)) rfl (fun _ => (fun w h => .inr (h.sub SubC.h SubC.h))) (fun b48 p48 => ?_)
     refine wpd_tp 14 rfl zz7 trivial (t_callU (.blk b5 24 [.int .i64 (orE (orE (orE (orE (orE (decF xs).2 (((rdSeq b17.tr 135 (2 : Nat) (2 : Nat)).2 : Nat) : Int)) (((rdSeq ((wT b17.tr).getD 0 Tr.z) 134 (5 : Nat) (5 : Nat)).2 : Nat) : Int)) (((rdSeq ((wT b17.tr).getD 1 Tr.z) 131 (3 : Nat) (3 : Nat)).2 : Nat) : Int)) (((rdStr ((fT b17.tr).getD 0 Tr.z) 1 40).2 : Nat) : Int)) (((rdNum ((fT b17.tr).getD 1 Tr.z) 2 18446744073709551615).2 : Nat) : Int))]) (.blk b5 24 [.int .i64 (orE (orE (orE (orE (orE (orE (decF xs).2 (((rdSeq b17.tr 135 (2 : Nat) (2 : Nat)).2 : Nat) : Int)) (((rdSeq ((wT b17.tr).getD 0 Tr.z) 134 (5 : Nat) (5 : Nat)).2 : Nat) : Int)) (((rdSeq ((wT b17.tr).getD 1 Tr.z) 131 (3 : Nat) (3 : Nat)).2 : Nat) : Int)) (((rdStr ((fT b17.tr).getD 0 Tr.z) 1 40).2 : Nat) : Int)) (((rdNum ((fT b17.tr).getD 1 Tr.z) 2 18446744073709551615).2 : Nat) : Int)) (((rdNum ((fT b17.tr).getD 2 Tr.z) 3 1099511627776).2 : Nat) : Int))]) rfl Tryd.hb39 rfl fun w h h2 => rdrNumF b5 (b33.2.getD 2 HT.z) ((fT b17.tr).getD 2 Tr.z) 3 1099511627776 (orE (orE (orE (orE (orE (decF xs).2 (((rdSeq b17.tr 135 (2 : Nat) (2 : Nat)).2 : Nat) : Int)) (((rdSeq ((wT b17.tr).getD 0 Tr.z) 134 (5 : Nat) (5 : Nat)).2 : Nat) : Int)) (((rdSeq ((wT b17.tr).getD 1 Tr.z) 131 (3 : Nat) (3 : Nat)).2 : Nat) : Int)) (((rdStr ((fT b17.tr).getD 0 Tr.z) 1 40).2 : Nat) : Int)) (((rdNum ((fT b17.tr).getD 1 Tr.z) 2 18446744073709551615).2 : Nat) : Int)) w h2 (HSeen.lsK (y := b33) (hseen_rdo h zz4 zz19) zz14) (tr_get (show trs b33.2 = fT b17.tr from p33.1) 2)) rfl (fun _ => (fun w h => .inr (h.sub SubC.h SubC.h))) (fun b53 p53 => ?_)
     refine wpd_p 15 rfl zz7 trivial (q64_intN Tryd.underlying23 Tryd.underlying2 rfl zz37) rfl (fun w h => .inr (h.sub SubC.h SubC.h)) ?_
     refine wpd_tp 20 rfl zz7 trivial (t_callU (.blk b5 24 [.int .i64 (orE (orE (orE (orE (orE (orE (decF xs).2 (((rdSeq b17.tr 135 (2 : Nat) (2 : Nat)).2 : Nat) : Int)) (((rdSeq ((wT b17.tr).getD 0 Tr.z) 134 (5 : Nat) (5 : Nat)).2 : Nat) : Int)) (((rdSeq ((wT b17.tr).getD 1 Tr.z) 131 (3 : Nat) (3 : Nat)).2 : Nat) : Int)) (((rdStr ((fT b17.tr).getD 0 Tr.z) 1 40).2 : Nat) : Int)) (((rdNum ((fT b17.tr).getD 1 Tr.z) 2 18446744073709551615).2 : Nat) : Int)) (((rdNum ((fT b17.tr).getD 2 Tr.z) 3 1099511627776).2 : Nat) : Int))]) (.blk b5 24 [.int .i64 (orE (orE (orE (orE (orE (orE (orE (decF xs).2 (((rdSeq b17.tr 135 (2 : Nat) (2 : Nat)).2 : Nat) : Int)) (((rdSeq ((wT b17.tr).getD 0 Tr.z) 134 (5 : Nat) (5 : Nat)).2 : Nat) : Int)) (((rdSeq ((wT b17.tr).getD 1 Tr.z) 131 (3 : Nat) (3 : Nat)).2 : Nat) : Int)) (((rdStr ((fT b17.tr).getD 0 Tr.z) 1 40).2 : Nat) : Int)) (((rdNum ((fT b17.tr).getD 1 Tr.z) 2 18446744073709551615).2 : Nat) : Int)) (((rdNum ((fT b17.tr).getD 2 Tr.z) 3 1099511627776).2 : Nat) : Int)) (((rdNum ((fT b17.tr).getD 3 Tr.z) 4 1099511627776).2 : Nat) : Int))]) rfl Tryd.hb39 rfl fun w h h2 => rdrNumF b5 (b33.2.getD 3 HT.z) ((fT b17.tr).getD 3 Tr.z) 4 1099511627776 (orE (orE (orE (orE (orE (orE (decF xs).2 (((rdSeq b17.tr 135 (2 : Nat) (2 : Nat)).2 : Nat) : Int)) (((rdSeq ((wT b17.tr).getD 0 Tr.z) 134 (5 : Nat) (5 : Nat)).2 : Nat) : Int)) (((rdSeq ((wT b17.tr).getD 1 Tr.z) 131 (3 : Nat) (3 : Nat)).2 : Nat) : Int)) (((rdStr ((fT b17.tr).getD 0 Tr.z) 1 40).2 : Nat) : Int)) (((rdNum ((fT b17.tr).getD 1 Tr.z) 2 18446744073709551615).2 : Nat) : Int)) (((rdNum ((fT b17.tr).getD 2 Tr.z) 3 1099511627776).2 : Nat) : Int)) w h2 (HSeen.lsK (y := b33) (hseen_rdo h zz4 zz19) zz14) (tr_get (show trs b33.2 = fT b17.tr from p33.1) 3)) rfl (fun _ => (fun w h => .inr (h.sub SubC.h SubC.h))) (fun b59 p59 => ?_)
     refine wpd_p 21 rfl zz7 trivial (q64_intN Tryd.underlying23 Tryd.underlying2 rfl zz31) rfl (fun w h => .inr (h.sub SubC.h SubC.h)) ?_
     refine wpd_p 22 rfl zz7 trivial (q_build (cs := [.int .i64 ((rdNum ((fT b17.tr).getD 2 Tr.z) 3 1099511627776).1.toNat : Int), .int .i64 ((rdNum ((fT b17.tr).getD 3 Tr.z) 4 1099511627776).1.toNat : Int)]) rfl zz7) rfl (fun w h => .inr (h.sub SubC.h SubC.h)) ?_
     refine wpd_p 23 rfl zz7 trivial (q_build (cs := [str (rdStr ((fT b17.tr).getD 0 Tr.z) 1 40).1, .int .u64 ((rdNum ((fT b17.tr).getD 1 Tr.z) 2 18446744073709551615).1.toNat : Int), .int .i64 ((rdNum ((fT b17.tr).getD 2 Tr.z) 3 1099511627776).1.toNat : Int), .int .i64 ((rdNum ((fT b17.tr).getD 3 Tr.z) 4 1099511627776).1.toNat : Int), nl, .int .i64 0, nl, nl]) rfl zz7) rfl (fun w h => .inr (h.sub SubC.h SubC.h)) ?_
     refine wpd_t0 25 rfl zz7 trivial (t_stA Tryd.ti32 rfl rfl LenC.h (OneC.cons rfl (OneC.cons rfl (OneC.cons rfl (OneC.cons rfl (OneC.cons rfl (OneC.cons rfl (OneC.cons rfl (OneC.cons rfl oneC_nil)))))))).h LenC.h) (fun _ => (fun w h => .inr (h.sub SubC.h SubC.h))) (fun _ => ?_)
     refine wpd_done zz7 ?_
     refine ex_mid ⟨b12, trivial⟩ ?_ ?_
     ·
      exact zz9
     ·
      exact fun w h => h.sel
   ·
    refine wpa_t 24 rfl trivial (t_alloc Tryd.ti32 Rv.z.c rfl) rfl (fun _ => (fun w h => .inr (h.sub SubC.h SubC.h))) (fun b12 => ?_)
    refine wpd_tp 4 rfl zz7 trivial (t_callU (.blk b5 24 [.int .i64 (orE (orE (orE (decF xs).2 (((rdSeq b17.tr 135 (2 : Nat) (2 : Nat)).2 : Nat) : Int)) (((rdSeq ((wT b17.tr).getD 0 Tr.z) 134 (5 : Nat) (5 : Nat)).2 : Nat) : Int)) (((rdSeq ((wT b17.tr).getD 1 Tr.z) 131 (3 : Nat) (3 : Nat)).2 : Nat) : Int))]) (.blk b5 24 [.int .i64 (orE (orE (orE (orE (decF xs).2 (((rdSeq b17.tr 135 (2 : Nat) (2 : Nat)).2 : Nat) : Int)) (((rdSeq ((wT b17.tr).getD 0 Tr.z) 134 (5 : Nat) (5 : Nat)).2 : Nat) : Int)) (((rdSeq ((wT b17.tr).getD 1 Tr.z) 131 (3 : Nat) (3 : Nat)).2 : Nat) : Int)) (((rdStr ((fT b17.tr).getD 0 Tr.z) 1 40).2 : Nat) : Int))]) rfl Tryd.hb41 rfl fun w h h2 => rdrStrF b5 (b33.2.getD 0 HT.z) ((fT b17.tr).getD 0 Tr.z) 1 40 (orE (orE (orE (decF xs).2 (((rdSeq b17.tr 135 (2 : Nat) (2 : Nat)).2 : Nat) : Int)) (((rdSeq ((wT b17.tr).getD 0 Tr.z) 134 (5 : Nat) (5 : Nat)).2 : Nat) : Int)) (((rdSeq ((wT b17.tr).getD 1 Tr.z) 131 (3 : Nat) (3 : Nat)).2 : Nat) : Int)) w h2 (HSeen.lsK (y := b33) (hseen_rdo h zz4 zz19) zz14) (tr_get (show trs b33.2 = fT b17.tr from p33.1) 0)) rfl (fun _ => (fun w h => .inr (h.sub SubC.h SubC.h))) (fun b43 p43 => ?_)
    refine wpd_tp 9 rfl zz7 trivial (t_callU (.blk b5 24 [.int .i64 (orE (orE (orE (orE (decF xs).2 (((rdSeq b17.tr 135 (2 : Nat) (2 : Nat)).2 : Nat) : Int)) (((rdSeq ((wT b17.tr).getD 0 Tr.z) 134 (5 : Nat) (5 : Nat)).2 : Nat) : Int)) (((rdSeq ((wT b17.tr).getD 1 Tr.z) 131 (3 : Nat) (3 : Nat)).2 : Nat) : Int)) (((rdStr ((fT b17.tr).getD 0 Tr.z) 1 40).2 : Nat) : Int))]) (.blk b5 24 [.int .i64 (orE (orE (orE (orE (orE (decF xs).2 (((rdSeq b17.tr 135 (2 : Nat) (2 : Nat)).2 : Nat) : Int)) (((rdSeq ((wT b17.tr).getD 0 Tr.z) 134 (5 : Nat) (5 : Nat)).2 : Nat) : Int)) (((rdSeq ((wT b17.tr).getD 1 Tr.z) 131 (3 : Nat) (3 : Nat)).2 : Nat) : Int)) (((rdStr ((fT b17.tr).getD 0 Tr.z) 1 40).2 : Nat) : Int)) (((rdNum ((fT b17.tr).getD 1 Tr.z) 2 18446744073709551615).2 : Nat) : Int))]) rfl Tryd.hb39 rfl fun w h h2 => rdrNumF b5 (b33.2.getD 1 HT.z) ((fT b17.tr).getD 1 Tr.z) 2 18446744073709551615 (orE (orE (orE (orE (decF xs).2 (((rdSeq b17.tr 135 (2 : Nat) (2 : Nat)).2 : Nat) : Int)) (((rdSeq ((wT b17.tr).getD 0 Tr.z) 134 (5 : Nat) (5 : Nat)).2 : Nat) : Int)) (((rdSeq ((wT b17.tr).getD 1 Tr.z) 131 (3 : Nat) (3 : Nat)).2 : Nat) : Int)) (((rdStr ((fT b17.tr).getD 0 Tr.z) 1 40).2 : Nat) : Int)) w h2 (HSeen.lsK (y := b33) (hseen_rdo h zz4 zz19) zz14) (tr_get (show trs b33.2 = fT b17.tr from p33.1) 1)) rfl (fun _ => (fun w h => .inr (h.sub SubC.h SubC.h))) (fun b48 p48 => ?_)
    refine wpd_tp 14 rfl zz7 trivial (t_callU (.blk b5 24 [.int .i64 (orE (orE (orE (orE (orE (decF xs).2 (((rdSeq b17.tr 135 (2 : Nat) (2 : Nat)).2 : Nat) : Int)) (((rdSeq ((wT b17.tr).getD 0 Tr.z) 134 (5 : Nat) (5 : Nat)).2 : Nat) : Int)) (((rdSeq ((wT b17.tr).getD 1 Tr.z) 131 (3 : Nat) (3 : Nat)).2 : Nat) : Int)) (((rdStr ((fT b17.tr).getD 0 Tr.z) 1 40).2 : Nat) : Int)) (((rdNum ((fT b17.tr).getD 1 Tr.z) 2 18446744073709551615).2 : Nat) : Int))]) (.blk b5 24 [.int .i64 (orE (orE (orE (orE (orE (orE (decF xs).2 (((rdSeq b17.tr 135 (2 : Nat) (2 : Nat)).2 : Nat) : Int)) (((rdSeq ((wT b17.tr).getD 0 Tr.z) 134 (5 : Nat) (5 : Nat)).2 : Nat) : Int)) (((rdSeq ((wT b17.tr).getD 1 Tr.z) 131 (3 : Nat) (3 : Nat)).2 : Nat) : Int)) (((rdStr ((fT b17.tr).getD 0 Tr.z) 1 40).2 : Nat) : Int)) (((rdNum ((fT b17.tr).getD 1 Tr.z) 2 18446744073709551615).2 : Nat) : Int)) (((rdNum ((fT b17.tr).getD 2 Tr.z) 3 1099511627776).2 : Nat) : Int))]) rfl Tryd.hb39 rfl fun w h h2 => rdrNumF b5 (b33.2.getD 2 HT.z) ((fT b17.tr).getD 2 Tr.z) 3 1099511627776 (orE (orE (orE (orE (orE (decF xs).2 (((rdSeq b17.tr 135 (2 : Nat) (2 : Nat)).2 : Nat) : Int)) (((rdSeq ((wT b17.tr).getD 0 Tr.z) 134 (5 : Nat) (5 : Nat)).2 : Nat) : Int)) (((rdSeq ((wT b17.tr).getD 1 Tr.z) 131 (3 : Nat) (3 : Nat)).2 : Nat) : Int)) (((rdStr ((fT b17.tr).getD 0 Tr.z) 1 40).2 : Nat) : Int)) (((rdNum ((fT b17.tr).getD 1 Tr.z) 2 18446744073709551615).2 : Nat) : Int)) w h2 (HSeen.lsK (y := b33) (hseen_rdo h zz4 zz19) zz14) (tr_get (show trs b33.2 = fT b17.tr from p33.1) 2)) rfl (fun _ => (fun w h => .inr (h.sub SubC.h SubC.h))) (fun b53 p53 => ?_)
    refine wpd_p 15 rfl zz7 trivial (q64_intN Tryd.underlying23 Tryd.underlying2 rfl zz37) rfl (fun w h => .inr (h.sub SubC.h SubC.h)) ?_
    refine wpd_tp 20 rfl zz7 trivial (t_callU (.blk b5 24 [.int .i64 (orE (orE (orE (orE (orE (orE (decF xs).2 (((rdSeq b17.tr 135 (2 : Nat) (2 : Nat)).2 : Nat) : Int)) (((rdSeq ((wT b17.tr).getD 0 Tr.z) 134 (5 : Nat) (5 : Nat)).2 : Nat) : Int)) (((rdSeq ((wT b17.tr).getD 1 Tr.z) 131 (3 : Nat) (3 : Nat)).2 : Nat) : Int)) (((rdStr ((fT b17.tr).getD 0 Tr.z) 1 40).2 : Nat) : Int)) (((rdNum ((fT b17.tr).getD 1 Tr.z) 2 18446744073709551615).2 : Nat) : Int)) (((rdNum ((fT b17.tr).getD 2 Tr.z) 3 1099511627776).2 : Nat) : Int))]) (.blk b5 24 [.int .i64 (orE (orE (orE (orE (orE (orE (orE (decF xs).2 (((rdSeq b17.tr 135 (2 : Nat) (2 : Nat)).2 : Nat) : Int)) (((rdSeq ((wT b17.tr).getD 0 Tr.z) 134 (5 : Nat) (5 : Nat)).2 : Nat) : Int)) (((rdSeq ((wT b17.tr).getD 1 Tr.z) 131 (3 : Nat) (3 : Nat)).2 : Nat) : Int)) (((rdStr ((fT b17.tr).getD 0 Tr.z) 1 40).2 : Nat) : Int)) (((rdNum ((fT b17.tr).getD 1 Tr.z) 2 18446744073709551615).2 : Nat) : Int)) (((rdNum ((fT b17.tr).getD 2 Tr.z) 3 1099511627776).2 : Nat) : Int)) (((rdNum ((fT b17.tr).getD 3 Tr.z) 4 1099511627776).2 : Nat) : Int))]) rfl Tryd.hb39 rfl fun w h h2 => rdrNumF b5 (b33.2.getD 3 HT.z) ((fT b17.tr).getD 3 Tr.z) 4 1099511627776 (orE (orE (orE (orE (orE (orE (decF xs).2 (((rdSeq b17.tr 135 (2 : Nat) (2 : Nat)).2 : Nat) : Int)) (((rdSeq ((wT b17.tr).getD 0 Tr.z) 134 (5 : Nat) (5 : Nat)).2 : Nat) : Int)) (((rdSeq ((wT b17.tr).getD 1 Tr.z) 131 (3 : Nat) (3 : Nat)).2 : Nat) : Int)) (((rdStr ((fT b17.tr).getD 0 Tr.z) 1 40).2 : Nat) : Int)) (((rdNum ((fT b17.tr).getD 1 Tr.z) 2 18446744073709551615).2 : Nat) : Int)) (((rdNum ((fT b17.tr).getD 2 Tr.z) 3 1099511627776).2 : Nat) : Int)) w h2 (HSeen.lsK (y := b33) (hseen_rdo h zz4 zz19) zz14) (tr_get (show trs b33.2 = fT b17.tr from p33.1) 3)) rfl (fun _ => (fun w h => .inr (h.sub SubC.h SubC.h))) (fun b59 p59 => ?_)
    refine wpd_p 21 rfl zz7 trivial (q64_intN Tryd.underlying23 Tryd.underlying2 rfl zz31) rfl (fun w h => .inr (h.sub SubC.h SubC.h)) ?_
    refine wpd_p 22 rfl zz7 trivial (q_build (cs := [.int .i64 ((rdNum ((fT b17.tr).getD 2 Tr.z) 3 1099511627776).1.toNat : Int), .int .i64 ((rdNum ((fT b17.tr).getD 3 Tr.z) 4 1099511627776).1.toNat : Int)]) rfl zz7) rfl (fun w h => .inr (h.sub SubC.h SubC.h)) ?_
    refine wpd_p 23 rfl zz7 trivial (q_build (cs := [str (rdStr ((fT b17.tr).getD 0 Tr.z) 1 40).1, .int .u64 ((rdNum ((fT b17.tr).getD 1 Tr.z) 2 18446744073709551615).1.toNat : Int), .int .i64 ((rdNum ((fT b17.tr).getD 2 Tr.z) 3 1099511627776).1.toNat : Int), .int .i64 ((rdNum ((fT b17.tr).getD 3 Tr.z) 4 1099511627776).1.toNat : Int), nl, .int .i64 0, nl, nl]) rfl zz7) rfl (fun w h => .inr (h.sub SubC.h SubC.h)) ?_
    refine wpd_t0 25 rfl zz7 trivial (t_stA Tryd.ti32 rfl rfl LenC.h (OneC.cons rfl (OneC.cons rfl (OneC.cons rfl (OneC.cons rfl (OneC.cons rfl (OneC.cons rfl (OneC.cons rfl (OneC.cons rfl oneC_nil)))))))).h LenC.h) (fun _ => (fun w h => .inr (h.sub SubC.h SubC.h))) (fun _ => ?_)
    refine wpd_done zz7 ?_
    refine ex_mid ⟨b12, trivial⟩ ?_ ?_
    ·
     exact zz9
    ·
     exact fun w h => h.sel
  ·
   rintro ⟨b12, _⟩; try dsimp only
   refine wpc_seq <| wpc_seq <| wpc_region <| wpl_q (q_pure rfl) rfl <| wpl_q (q_pure rfl) rfl ?_
   refine wpl_q (q_idxW (j := 4) Tryd.underlying59 Tryd.ti61 rfl rfl zz3 zz1) rfl ?_
   refine wpl_q (q_ldWN Tryd.underlying61 rfl Tryd.ti61 rfl (fun w h => HSeen.lsS (y := b33) (Mem.hseenF h zz4)) (b33.2.getD 4 HT.z).c (hcs_part zz14) LenC.h) rfl ?_
   refine wpl_tp (t_callLS (.blk b5 24 [.int .i64 (orE (orE (orE (orE (orE (orE (orE (decF xs).2 (((rdSeq b17.tr 135 (2 : Nat) (2 : Nat)).2 : Nat) : Int)) (((rdSeq ((wT b17.tr).getD 0 Tr.z) 134 (5 : Nat) (5 : Nat)).2 : Nat) : Int)) (((rdSeq ((wT b17.tr).getD 1 Tr.z) 131 (3 : Nat) (3 : Nat)).2 : Nat) : Int)) (((rdStr ((fT b17.tr).getD 0 Tr.z) 1 40).2 : Nat) : Int)) (((rdNum ((fT b17.tr).getD 1 Tr.z) 2 18446744073709551615).2 : Nat) : Int)) (((rdNum ((fT b17.tr).getD 2 Tr.z) 3 1099511627776).2 : Nat) : Int)) (((rdNum ((fT b17.tr).getD 3 Tr.z) 4 1099511627776).2 : Nat) : Int))]) (.blk b5 24 [.int .i64 (orE (orE (orE (orE (orE (orE (orE (orE (decF xs).2 (((rdSeq b17.tr 135 (2 : Nat) (2 : Nat)).2 : Nat) : Int)) (((rdSeq ((wT b17.tr).getD 0 Tr.z) 134 (5 : Nat) (5 : Nat)).2 : Nat) : Int)) (((rdSeq ((wT b17.tr).getD 1 Tr.z) 131 (3 : Nat) (3 : Nat)).2 : Nat) : Int)) (((rdStr ((fT b17.tr).getD 0 Tr.z) 1 40).2 : Nat) : Int)) (((rdNum ((fT b17.tr).getD 1 Tr.z) 2 18446744073709551615).2 : Nat) : Int)) (((rdNum ((fT b17.tr).getD 2 Tr.z) 3 1099511627776).2 : Nat) : Int)) (((rdNum ((fT b17.tr).getD 3 Tr.z) 4 1099511627776).2 : Nat) : Int)) (((rdSeq ((fT b17.tr).getD 4 Tr.z) 129 (0 : Nat) (500 : Nat)).2 : Nat) : Int))]) rfl Tryd.hb40 rfl fun w h h2 => rdrListF b5 (b33.2.getD 4 HT.z) ((fT b17.tr).getD 4 Tr.z) 129 0 500 (orE (orE (orE (orE (orE (orE (orE (decF xs).2 (((rdSeq b17.tr 135 (2 : Nat) (2 : Nat)).2 : Nat) : Int)) (((rdSeq ((wT b17.tr).getD 0 Tr.z) 134 (5 : Nat) (5 : Nat)).2 : Nat) : Int)) (((rdSeq ((wT b17.tr).getD 1 Tr.z) 131 (3 : Nat) (3 : Nat)).2 : Nat) : Int)) (((rdStr ((fT b17.tr).getD 0 Tr.z) 1 40).2 : Nat) : Int)) (((rdNum ((fT b17.tr).getD 1 Tr.z) 2 18446744073709551615).2 : Nat) : Int)) (((rdNum ((fT b17.tr).getD 2 Tr.z) 3 1099511627776).2 : Nat) : Int)) (((rdNum ((fT b17.tr).getD 3 Tr.z) 4 1099511627776).2 : Nat) : Int)) w h2 (HSeen.lsK (y := b33) (hseen_rdo h zz4 zz19) zz14) (tr_get (show trs b33.2 = fT b17.tr from p33.1) 4) (sm_get (lo := 5) (hi := 5) (sm_get hsmT 0) 4) zz20) rfl (fun b67 p67 => ?_)
   have hl67 : b67.2.length = (lT b17.tr).length := len_trs p67.1
   have hl500 := lT_le b17.tr
   have svl67 := p67.2.1
   refine wpl_q (q_lenW Tryd.underlying59 rfl zz3) rfl ?_
   refine wpl_q (q_pure rfl) rfl <| wpl_nil <| ex_then <| wpc_block ?_
   refine wpc_loopc (ι := { x : Nat × Value // (x.1 ≤ b67.2.length) ∧ (SV x.2 x.1) }) [(2, _), (5, _), (6, _), (7, _), (11, _), (12, _), (67, _), (68, _)] (fun x Lc => (69, .int .i64 ((x.1.1 : Nat) : Int)) :: Lc) (fun x => Mem w [] [.blk b12 32 [str (rdStr ((fT b17.tr).getD 0 Tr.z) 1 40).1, .int .u64 ((rdNum ((fT b17.tr).getD 1 Tr.z) 2 18446744073709551615).1.toNat : Int), .int .i64 ((rdNum ((fT b17.tr).getD 2 Tr.z) 3 1099511627776).1.toNat : Int), .int .i64 ((rdNum ((fT b17.tr).getD 3 Tr.z) 4 1099511627776).1.toNat : Int), x.1.2, .int .i64 0, nl, nl], .row x.1.2 x.1.1 23 1 (v64s (serS ((lT b17.tr).take x.1.1))), .blk b5 24 [.int .i64 (accE (orE (orE (orE (orE (orE (orE (orE (orE (decF xs).2 (((rdSeq b17.tr 135 (2 : Nat) (2 : Nat)).2 : Nat) : Int)) (((rdSeq ((wT b17.tr).getD 0 Tr.z) 134 (5 : Nat) (5 : Nat)).2 : Nat) : Int)) (((rdSeq ((wT b17.tr).getD 1 Tr.z) 131 (3 : Nat) (3 : Nat)).2 : Nat) : Int)) (((rdStr ((fT b17.tr).getD 0 Tr.z) 1 40).2 : Nat) : Int)) (((rdNum ((fT b17.tr).getD 1 Tr.z) 2 18446744073709551615).2 : Nat) : Int)) (((rdNum ((fT b17.tr).getD 2 Tr.z) 3 1099511627776).2 : Nat) : Int)) (((rdNum ((fT b17.tr).getD 3 Tr.z) 4 1099511627776).2 : Nat) : Int)) (((rdSeq ((fT b17.tr).getD 4 Tr.z) 129 (0 : Nat) (500 : Nat)).2 : Nat) : Int)) ((lT b17.tr).take x.1.1))], .blk b6 84 [(.func (.func 37) #[] #[.pointer (some ⟨b5, 0, none⟩)])], .blk b4 61 b17.c, .blk b2 32 Rv.z.c] [Go.Proofs.YtgnablliekgbgaaDoor.hseen (lsH b67), Go.Proofs.YtgnablliekgbgaaDoor.hseen (lsH b38), Go.Proofs.YtgnablliekgbgaaDoor.hseen (lsH b33), Go.Proofs.YtgnablliekgbgaaDoor.hseen (lsH b28), Go.Proofs.YtgnablliekgbgaaDoor.hseen b17]) (fun x => b67.2.length - x.1.1) ⟨(0, nl), ⟨Nat.zero_le _, SV.nil⟩⟩ zz9 ?_ ?_
   ·
    exact fun w h => by
      dsimp only
      rw [List.take_zero, accE_nil, show v64s (serS []) = [] from rfl]
      exact (h.nilRow 23 1).sel
   ·
    rintro ⟨⟨i, sv⟩, ⟨hi0, hi1⟩⟩; try dsimp only
    have hi0 : i ≤ b67.2.length := hi0; have hi1 : SV sv i := hi1
    refine wpc_seq <| wpc_region <| wpl_q (q_pure rfl) rfl <| wpl_nil <| ex_then <| wpc_seq ?_
    refine wpc_cond rfl (fun hc70 => ?_) (fun hc70 => ?_)
    ·
     simp only [decide_eq_true_eq] at hc70
     have hil : i < b67.2.length := by omega
     haveI := (p67.2.2 (b67.2.getD i HT.z) (getD_memH hil)).one
     have hi1 := hi1
     refine wpc_skip <| ex_then <| wpc_seq <| wpc_block <| wpc_seq <| wpc_region ?_
     refine wpl_q (q_idxW Tryd.underlying59 Tryd.ti61 rfl rfl zz3 zz1) rfl ?_
     refine wpl_q (q_ldWN Tryd.underlying61 rfl Tryd.ti61 rfl (fun w h => HSeen.lsS (y := b67) (Mem.hseenF h zz4)) (b67.2.getD i HT.z).c (hcs_part hil) LenC.h) rfl ?_
     refine wpl_t (t_alloc Tryd.ti61 HT.z.c rfl) rfl (fun b14 => ?_)
     refine wpl_t0 (t_stA Tryd.ti61 rfl rfl LenC.h OneC.h LenC.h) (fun _ => ?_)
     refine wpl_nil <| ex_then ?_
     refine wpc_drawM [.blk b14 61 (b67.2.getD i HT.z).c, .blk b12 32 [str (rdStr ((fT b17.tr).getD 0 Tr.z) 1 40).1, .int .u64 ((rdNum ((fT b17.tr).getD 1 Tr.z) 2 18446744073709551615).1.toNat : Int), .int .i64 ((rdNum ((fT b17.tr).getD 2 Tr.z) 3 1099511627776).1.toNat : Int), .int .i64 ((rdNum ((fT b17.tr).getD 3 Tr.z) 4 1099511627776).1.toNat : Int), sv, .int .i64 0, nl, nl]] 6 zz7 zz8 ?_
     refine wpd_p 0 rfl zz7 trivial (q_field Tryd.underlying32 rfl Tryd.ti22 rfl rfl _ rfl) rfl (fun w h => .inr (h.sub SubC.h SubC.h)) ?_
     refine wpd_q 1 rfl zz7 trivial (q_ld Tryd.underlying22 rfl rfl rfl) rfl (fun w h => h.sub SubC.h SubC.h) ?_
     refine wpd_p 2 rfl zz7 trivial (q_pure rfl) rfl (fun w h => .inr (h.sub SubC.h SubC.h)) ?_
     refine wpd_qB 3 [4, 5, 6] rfl zz7 trivial (q_ldN Tryd.underlying61 rfl Tryd.ti61 rfl LenC.h) rfl (fun w h => h.sub SubC.h SubC.h) ?_
     refine wpd_tp 4 rfl zz7 trivial (t_callU (.blk b5 24 [.int .i64 (accE (orE (orE (orE (orE (orE (orE (orE (orE (decF xs).2 (((rdSeq b17.tr 135 (2 : Nat) (2 : Nat)).2 : Nat) : Int)) (((rdSeq ((wT b17.tr).getD 0 Tr.z) 134 (5 : Nat) (5 : Nat)).2 : Nat) : Int)) (((rdSeq ((wT b17.tr).getD 1 Tr.z) 131 (3 : Nat) (3 : Nat)).2 : Nat) : Int)) (((rdStr ((fT b17.tr).getD 0 Tr.z) 1 40).2 : Nat) : Int)) (((rdNum ((fT b17.tr).getD 1 Tr.z) 2 18446744073709551615).2 : Nat) : Int)) (((rdNum ((fT b17.tr).getD 2 Tr.z) 3 1099511627776).2 : Nat) : Int)) (((rdNum ((fT b17.tr).getD 3 Tr.z) 4 1099511627776).2 : Nat) : Int)) (((rdSeq ((fT b17.tr).getD 4 Tr.z) 129 (0 : Nat) (500 : Nat)).2 : Nat) : Int)) ((lT b17.tr).take i))]) (.blk b5 24 [.int .i64 (orE (accE (orE (orE (orE (orE (orE (orE (orE (orE (decF xs).2 (((rdSeq b17.tr 135 (2 : Nat) (2 : Nat)).2 : Nat) : Int)) (((rdSeq ((wT b17.tr).getD 0 Tr.z) 134 (5 : Nat) (5 : Nat)).2 : Nat) : Int)) (((rdSeq ((wT b17.tr).getD 1 Tr.z) 131 (3 : Nat) (3 : Nat)).2 : Nat) : Int)) (((rdStr ((fT b17.tr).getD 0 Tr.z) 1 40).2 : Nat) : Int)) (((rdNum ((fT b17.tr).getD 1 Tr.z) 2 18446744073709551615).2 : Nat) : Int)) (((rdNum ((fT b17.tr).getD 2 Tr.z) 3 1099511627776).2 : Nat) : Int)) (((rdNum ((fT b17.tr).getD 3 Tr.z) 4 1099511627776).2 : Nat) : Int)) (((rdSeq ((fT b17.tr).getD 4 Tr.z) 129 (0 : Nat) (500 : Nat)).2 : Nat) : Int)) ((lT b17.tr).take i)) ((((rdNum ((lT b17.tr).getD i Tr.z) 5 18446744073709551615).2 : Nat)) : Int))]) rfl Tryd.hb39 rfl fun w h h2 => rdrNumF b5 (b67.2.getD i HT.z) ((lT b17.tr).getD i Tr.z) 5 18446744073709551615 (accE (orE (orE (orE (orE (orE (orE (orE (orE (decF xs).2 (((rdSeq b17.tr 135 (2 : Nat) (2 : Nat)).2 : Nat) : Int)) (((rdSeq ((wT b17.tr).getD 0 Tr.z) 134 (5 : Nat) (5 : Nat)).2 : Nat) : Int)) (((rdSeq ((wT b17.tr).getD 1 Tr.z) 131 (3 : Nat) (3 : Nat)).2 : Nat) : Int)) (((rdStr ((fT b17.tr).getD 0 Tr.z) 1 40).2 : Nat) : Int)) (((rdNum ((fT b17.tr).getD 1 Tr.z) 2 18446744073709551615).2 : Nat) : Int)) (((rdNum ((fT b17.tr).getD 2 Tr.z) 3 1099511627776).2 : Nat) : Int)) (((rdNum ((fT b17.tr).getD 3 Tr.z) 4 1099511627776).2 : Nat) : Int)) (((rdSeq ((fT b17.tr).getD 4 Tr.z) 129 (0 : Nat) (500 : Nat)).2 : Nat) : Int)) ((lT b17.tr).take i)) w h2 (HSeen.lsK (y := b67) (hseen_rdo h zz4 zz19) hil) (tr_get (show trs b67.2 = lT b17.tr from p67.1) i)) rfl (fun _ => (fun w h => .inr (h.sub SubC.h SubC.h))) (fun b77 p77 => ?_)
     refine wpd_tp 5 rfl zz7 trivial (t_bsG [.int .u64 ((rdNum ((lT b17.tr).getD i Tr.z) 5 18446744073709551615).1.toNat : Int)] (v64s [(rdNum ((lT b17.tr).getD i Tr.z) 5 18446744073709551615).1]) Tryd.underlying22 Tryd.ti23 rfl zz20 rfl zz20 zz20 rfl (by intro v hv; rw [List.mem_singleton] at hv; subst hv; rfl) rfl) rfl (fun _ => (fun w h => .inr (h.sub SubC.h SubC.h))) (fun b78 p78 => ?_)
     refine wpd_tp 6 rfl zz7 trivial (t_apW Tryd.underlying22 Tryd.ti23 rfl zz20 rfl rfl (fun w h => zz15) (v64s_one _) zz1 zz1 (v64s (serS ((lT b17.tr).take (i + 1)))) (by rw [serS_S (by omega : i < (lT b17.tr).length)]; simp [v64s])) rfl (fun _ => skk rfl) (fun b79 p79 => ?_)
     refine wpd_p 7 rfl zz7 trivial (q_field Tryd.underlying32 rfl Tryd.ti22 rfl rfl _ rfl) rfl (skk rfl) ?_
     refine wpd_t0 8 rfl zz7 trivial (t_st1 Tryd.ti22 rfl rfl (SV.one zz3) zz6 [str (rdStr ((fT b17.tr).getD 0 Tr.z) 1 40).1, .int .u64 ((rdNum ((fT b17.tr).getD 1 Tr.z) 2 18446744073709551615).1.toNat : Int), .int .i64 ((rdNum ((fT b17.tr).getD 2 Tr.z) 3 1099511627776).1.toNat : Int), .int .i64 ((rdNum ((fT b17.tr).getD 3 Tr.z) 4 1099511627776).1.toNat : Int), b79, .int .i64 0, nl, nl] rfl) (fun _ => skk rfl) (fun _ => ?_)
     refine wpd_done zz7 ?_
     refine ex_block <| ex_then <| wpc_region ?_
     refine wpl_q (q_addN (b := 1) rfl rfl zz1) rfl ?_
     refine wpl_q (q_pure rfl) rfl <| wpl_nil ?_
     refine ex_again ⟨(i + 1, b79), ⟨by show i + 1 ≤ b67.2.length; omega, p79⟩⟩ ?_ ?_ ?_
     ·
      exact zz9
     ·
      exact fun w h => (by
        dsimp only
        rw [accE_S (by omega : i < (lT b17.tr).length)]
        exact h.sel)
     ·
      (show b67.2.length - (i + 1) < b67.2.length - i); omega
    ·
     simp only [decide_eq_false_iff_not] at hc70
     obtain rfl : i = (lT b17.tr).length := by omega
     rw [List.take_length]
     have hi1 : SV sv (lT b17.tr).length := hi1
     refine wpc_exit ?_
     refine ex_then_exit ?_
     refine ex_then_exit ?_
     refine ex_block_hit ?_
     refine ex_then <| wpc_seq ?_
     refine wpc_drawM [.blk b6 84 [(.func (.func 37) #[] #[.pointer (some ⟨b5, 0, none⟩)])]] 99 zz7 zz8 ?_
     refine wpd_p 0 rfl zz7 trivial (q_pure rfl) rfl (fun w h => .inr (h.sub SubC.h SubC.h)) ?_
     refine wpd_p 1 rfl zz7 trivial (q_pure rfl) rfl (fun w h => .inr (h.sub SubC.h SubC.h)) ?_
     refine wpd_p 2 rfl zz7 trivial (q_idxW (j := 0) Tryd.underlying59 Tryd.ti61 rfl rfl zz3 zz1) rfl (fun w h => .inr (h.sub SubC.h SubC.h)) ?_
     refine wpd_q 3 rfl zz7 trivial (q_ldWN Tryd.underlying61 rfl Tryd.ti61 rfl (fun w h => HSeen.lsS (y := b38) (Mem.hseenF h zz4)) (b38.2.getD 0 HT.z).c (hcs_part zz14) LenC.h) rfl (fun w h => h.sub SubC.h SubC.h) ?_
     refine wpd_q 6 rfl zz7 trivial (q_ldN Tryd.underlying84 rfl Tryd.ti84 rfl LenC.h) rfl (fun w h => h.sub SubC.h SubC.h) ?_
     refine wpd_p 7 rfl zz7 trivial (q_pure rfl) rfl (fun w h => .inr (h.sub SubC.h SubC.h)) ?_
     refine wpd_p 8 rfl zz7 trivial (q_idxW (j := 1) Tryd.underlying59 Tryd.ti61 rfl rfl zz3 zz1) rfl (fun w h => .inr (h.sub SubC.h SubC.h)) ?_
     refine wpd_q 9 rfl zz7 trivial (q_ldWN Tryd.underlying61 rfl Tryd.ti61 rfl (fun w h => HSeen.lsS (y := b38) (Mem.hseenF h zz4)) (b38.2.getD 1 HT.z).c (hcs_part zz14) LenC.h) rfl (fun w h => h.sub SubC.h SubC.h) ?_
     refine wpd_q 11 rfl zz7 trivial (q_ldN Tryd.underlying84 rfl Tryd.ti84 rfl LenC.h) rfl (fun w h => h.sub SubC.h SubC.h) ?_
     refine wpd_p 12 rfl zz7 trivial (q_pure rfl) rfl (fun w h => .inr (h.sub SubC.h SubC.h)) ?_
     refine wpd_p 13 rfl zz7 trivial (q_idxW (j := 2) Tryd.underlying59 Tryd.ti61 rfl rfl zz3 zz1) rfl (fun w h => .inr (h.sub SubC.h SubC.h)) ?_
     refine wpd_q 14 rfl zz7 trivial (q_ldWN Tryd.underlying61 rfl Tryd.ti61 rfl (fun w h => HSeen.lsS (y := b38) (Mem.hseenF h zz4)) (b38.2.getD 2 HT.z).c (hcs_part zz14) LenC.h) rfl (fun w h => h.sub SubC.h SubC.h) ?_
     refine wpd_tp 4 rfl zz7 trivial (t_callU (.blk b5 24 [.int .i64 (accE (orE (orE (orE (orE (orE (orE (orE (orE (decF xs).2 (((rdSeq b17.tr 135 (2 : Nat) (2 : Nat)).2 : Nat) : Int)) (((rdSeq ((wT b17.tr).getD 0 Tr.z) 134 (5 : Nat) (5 : Nat)).2 : Nat) : Int)) (((rdSeq ((wT b17.tr).getD 1 Tr.z) 131 (3 : Nat) (3 : Nat)).2 : Nat) : Int)) (((rdStr ((fT b17.tr).getD 0 Tr.z) 1 40).2 : Nat) : Int)) (((rdNum ((fT b17.tr).getD 1 Tr.z) 2 18446744073709551615).2 : Nat) : Int)) (((rdNum ((fT b17.tr).getD 2 Tr.z) 3 1099511627776).2 : Nat) : Int)) (((rdNum ((fT b17.tr).getD 3 Tr.z) 4 1099511627776).2 : Nat) : Int)) (((rdSeq ((fT b17.tr).getD 4 Tr.z) 129 (0 : Nat) (500 : Nat)).2 : Nat) : Int)) (lT b17.tr))]) (.blk b5 24 [.int .i64 (orE (accE (orE (orE (orE (orE (orE (orE (orE (orE (decF xs).2 (((rdSeq b17.tr 135 (2 : Nat) (2 : Nat)).2 : Nat) : Int)) (((rdSeq ((wT b17.tr).getD 0 Tr.z) 134 (5 : Nat) (5 : Nat)).2 : Nat) : Int)) (((rdSeq ((wT b17.tr).getD 1 Tr.z) 131 (3 : Nat) (3 : Nat)).2 : Nat) : Int)) (((rdStr ((fT b17.tr).getD 0 Tr.z) 1 40).2 : Nat) : Int)) (((rdNum ((fT b17.tr).getD 1 Tr.z) 2 18446744073709551615).2 : Nat) : Int)) (((rdNum ((fT b17.tr).getD 2 Tr.z) 3 1099511627776).2 : Nat) : Int)) (((rdNum ((fT b17.tr).getD 3 Tr.z) 4 1099511627776).2 : Nat) : Int)) (((rdSeq ((fT b17.tr).getD 4 Tr.z) 129 (0 : Nat) (500 : Nat)).2 : Nat) : Int)) (lT b17.tr)) (((rdNum ((gT b17.tr).getD 0 Tr.z) 1 16).2 : Nat) : Int))]) rfl Tryd.hb39 rfl fun w h h2 => rdrNumF b5 (b38.2.getD 0 HT.z) ((gT b17.tr).getD 0 Tr.z) 1 16 (accE (orE (orE (orE (orE (orE (orE (orE (orE (decF xs).2 (((rdSeq b17.tr 135 (2 : Nat) (2 : Nat)).2 : Nat) : Int)) (((rdSeq ((wT b17.tr).getD 0 Tr.z) 134 (5 : Nat) (5 : Nat)).2 : Nat) : Int)) (((rdSeq ((wT b17.tr).getD 1 Tr.z) 131 (3 : Nat) (3 : Nat)).2 : Nat) : Int)) (((rdStr ((fT b17.tr).getD 0 Tr.z) 1 40).2 : Nat) : Int)) (((rdNum ((fT b17.tr).getD 1 Tr.z) 2 18446744073709551615).2 : Nat) : Int)) (((rdNum ((fT b17.tr).getD 2 Tr.z) 3 1099511627776).2 : Nat) : Int)) (((rdNum ((fT b17.tr).getD 3 Tr.z) 4 1099511627776).2 : Nat) : Int)) (((rdSeq ((fT b17.tr).getD 4 Tr.z) 129 (0 : Nat) (500 : Nat)).2 : Nat) : Int)) (lT b17.tr)) w h2 (HSeen.lsK (y := b38) (hseen_rdo h zz4 zz19) zz14) (tr_get (show trs b38.2 = gT b17.tr from p38.1) 0)) rfl (fun _ => (fun w h => .inr (h.sub SubC.h SubC.h))) (fun b86 p86 => ?_)
     refine wpd_p 5 rfl zz7 trivial (q64_intN Tryd.underlying23 Tryd.underlying3 rfl (by have := rdNum_le ((gT b17.tr).getD 0 Tr.z) 1 16; have e : (16 : UInt64).toNat = 16 := rfl; omega)) rfl (fun w h => .inr (h.sub SubC.h SubC.h)) ?_
     refine wpd_tp 10 rfl zz7 trivial (t_callUR (.blk b5 24 [.int .i64 (orE (accE (orE (orE (orE (orE (orE (orE (orE (orE (decF xs).2 (((rdSeq b17.tr 135 (2 : Nat) (2 : Nat)).2 : Nat) : Int)) (((rdSeq ((wT b17.tr).getD 0 Tr.z) 134 (5 : Nat) (5 : Nat)).2 : Nat) : Int)) (((rdSeq ((wT b17.tr).getD 1 Tr.z) 131 (3 : Nat) (3 : Nat)).2 : Nat) : Int)) (((rdStr ((fT b17.tr).getD 0 Tr.z) 1 40).2 : Nat) : Int)) (((rdNum ((fT b17.tr).getD 1 Tr.z) 2 18446744073709551615).2 : Nat) : Int)) (((rdNum ((fT b17.tr).getD 2 Tr.z) 3 1099511627776).2 : Nat) : Int)) (((rdNum ((fT b17.tr).getD 3 Tr.z) 4 1099511627776).2 : Nat) : Int)) (((rdSeq ((fT b17.tr).getD 4 Tr.z) 129 (0 : Nat) (500 : Nat)).2 : Nat) : Int)) (lT b17.tr)) (((rdNum ((gT b17.tr).getD 0 Tr.z) 1 16).2 : Nat) : Int))]) (.blk b5 24 [.int .i64 (orE (orE (orE (accE (orE (orE (orE (orE (orE (orE (orE (orE (decF xs).2 (((rdSeq b17.tr 135 (2 : Nat) (2 : Nat)).2 : Nat) : Int)) (((rdSeq ((wT b17.tr).getD 0 Tr.z) 134 (5 : Nat) (5 : Nat)).2 : Nat) : Int)) (((rdSeq ((wT b17.tr).getD 1 Tr.z) 131 (3 : Nat) (3 : Nat)).2 : Nat) : Int)) (((rdStr ((fT b17.tr).getD 0 Tr.z) 1 40).2 : Nat) : Int)) (((rdNum ((fT b17.tr).getD 1 Tr.z) 2 18446744073709551615).2 : Nat) : Int)) (((rdNum ((fT b17.tr).getD 2 Tr.z) 3 1099511627776).2 : Nat) : Int)) (((rdNum ((fT b17.tr).getD 3 Tr.z) 4 1099511627776).2 : Nat) : Int)) (((rdSeq ((fT b17.tr).getD 4 Tr.z) 129 (0 : Nat) (500 : Nat)).2 : Nat) : Int)) (lT b17.tr)) (((rdNum ((gT b17.tr).getD 0 Tr.z) 1 16).2 : Nat) : Int)) (((rdStr ((gT b17.tr).getD 1 Tr.z) 2 65536).2 : Nat) : Int)) (shE (rdStr ((gT b17.tr).getD 1 Tr.z) 2 65536).1))]) rfl Tryd.hb42 rfl fun w h h2 => rdrShF b5 (b38.2.getD 1 HT.z) ((gT b17.tr).getD 1 Tr.z) 2 (orE (accE (orE (orE (orE (orE (orE (orE (orE (orE (decF xs).2 (((rdSeq b17.tr 135 (2 : Nat) (2 : Nat)).2 : Nat) : Int)) (((rdSeq ((wT b17.tr).getD 0 Tr.z) 134 (5 : Nat) (5 : Nat)).2 : Nat) : Int)) (((rdSeq ((wT b17.tr).getD 1 Tr.z) 131 (3 : Nat) (3 : Nat)).2 : Nat) : Int)) (((rdStr ((fT b17.tr).getD 0 Tr.z) 1 40).2 : Nat) : Int)) (((rdNum ((fT b17.tr).getD 1 Tr.z) 2 18446744073709551615).2 : Nat) : Int)) (((rdNum ((fT b17.tr).getD 2 Tr.z) 3 1099511627776).2 : Nat) : Int)) (((rdNum ((fT b17.tr).getD 3 Tr.z) 4 1099511627776).2 : Nat) : Int)) (((rdSeq ((fT b17.tr).getD 4 Tr.z) 129 (0 : Nat) (500 : Nat)).2 : Nat) : Int)) (lT b17.tr)) (((rdNum ((gT b17.tr).getD 0 Tr.z) 1 16).2 : Nat) : Int)) w h2 (HSeen.lsK (y := b38) (hseen_rdo h zz4 zz19) zz14) (tr_get (show trs b38.2 = gT b17.tr from p38.1) 1) (bs_le (sm_get (lo := 3) (hi := 3) (sm_get hsmT 1) 1))) rfl (fun _ => (fun w h => .inr (h.sub SubC.h SubC.h))) (fun b92 p92 => ?_)
     refine wpd_tp 15 rfl zz7 trivial (t_callUR (.blk b5 24 [.int .i64 (orE (orE (orE (accE (orE (orE (orE (orE (orE (orE (orE (orE (decF xs).2 (((rdSeq b17.tr 135 (2 : Nat) (2 : Nat)).2 : Nat) : Int)) (((rdSeq ((wT b17.tr).getD 0 Tr.z) 134 (5 : Nat) (5 : Nat)).2 : Nat) : Int)) (((rdSeq ((wT b17.tr).getD 1 Tr.z) 131 (3 : Nat) (3 : Nat)).2 : Nat) : Int)) (((rdStr ((fT b17.tr).getD 0 Tr.z) 1 40).2 : Nat) : Int)) (((rdNum ((fT b17.tr).getD 1 Tr.z) 2 18446744073709551615).2 : Nat) : Int)) (((rdNum ((fT b17.tr).getD 2 Tr.z) 3 1099511627776).2 : Nat) : Int)) (((rdNum ((fT b17.tr).getD 3 Tr.z) 4 1099511627776).2 : Nat) : Int)) (((rdSeq ((fT b17.tr).getD 4 Tr.z) 129 (0 : Nat) (500 : Nat)).2 : Nat) : Int)) (lT b17.tr)) (((rdNum ((gT b17.tr).getD 0 Tr.z) 1 16).2 : Nat) : Int)) (((rdStr ((gT b17.tr).getD 1 Tr.z) 2 65536).2 : Nat) : Int)) (shE (rdStr ((gT b17.tr).getD 1 Tr.z) 2 65536).1))]) (.blk b5 24 [.int .i64 (orE (orE (orE (orE (orE (accE (orE (orE (orE (orE (orE (orE (orE (orE (decF xs).2 (((rdSeq b17.tr 135 (2 : Nat) (2 : Nat)).2 : Nat) : Int)) (((rdSeq ((wT b17.tr).getD 0 Tr.z) 134 (5 : Nat) (5 : Nat)).2 : Nat) : Int)) (((rdSeq ((wT b17.tr).getD 1 Tr.z) 131 (3 : Nat) (3 : Nat)).2 : Nat) : Int)) (((rdStr ((fT b17.tr).getD 0 Tr.z) 1 40).2 : Nat) : Int)) (((rdNum ((fT b17.tr).getD 1 Tr.z) 2 18446744073709551615).2 : Nat) : Int)) (((rdNum ((fT b17.tr).getD 2 Tr.z) 3 1099511627776).2 : Nat) : Int)) (((rdNum ((fT b17.tr).getD 3 Tr.z) 4 1099511627776).2 : Nat) : Int)) (((rdSeq ((fT b17.tr).getD 4 Tr.z) 129 (0 : Nat) (500 : Nat)).2 : Nat) : Int)) (lT b17.tr)) (((rdNum ((gT b17.tr).getD 0 Tr.z) 1 16).2 : Nat) : Int)) (((rdStr ((gT b17.tr).getD 1 Tr.z) 2 65536).2 : Nat) : Int)) (shE (rdStr ((gT b17.tr).getD 1 Tr.z) 2 65536).1)) (((rdStr ((gT b17.tr).getD 2 Tr.z) 3 65536).2 : Nat) : Int)) (shE (rdStr ((gT b17.tr).getD 2 Tr.z) 3 65536).1))]) rfl Tryd.hb42 rfl fun w h h2 => rdrShF b5 (b38.2.getD 2 HT.z) ((gT b17.tr).getD 2 Tr.z) 3 (orE (orE (orE (accE (orE (orE (orE (orE (orE (orE (orE (orE (decF xs).2 (((rdSeq b17.tr 135 (2 : Nat) (2 : Nat)).2 : Nat) : Int)) (((rdSeq ((wT b17.tr).getD 0 Tr.z) 134 (5 : Nat) (5 : Nat)).2 : Nat) : Int)) (((rdSeq ((wT b17.tr).getD 1 Tr.z) 131 (3 : Nat) (3 : Nat)).2 : Nat) : Int)) (((rdStr ((fT b17.tr).getD 0 Tr.z) 1 40).2 : Nat) : Int)) (((rdNum ((fT b17.tr).getD 1 Tr.z) 2 18446744073709551615).2 : Nat) : Int)) (((rdNum ((fT b17.tr).getD 2 Tr.z) 3 1099511627776).2 : Nat) : Int)) (((rdNum ((fT b17.tr).getD 3 Tr.z) 4 1099511627776).2 : Nat) : Int)) (((rdSeq ((fT b17.tr).getD 4 Tr.z) 129 (0 : Nat) (500 : Nat)).2 : Nat) : Int)) (lT b17.tr)) (((rdNum ((gT b17.tr).getD 0 Tr.z) 1 16).2 : Nat) : Int)) (((rdStr ((gT b17.tr).getD 1 Tr.z) 2 65536).2 : Nat) : Int)) (shE (rdStr ((gT b17.tr).getD 1 Tr.z) 2 65536).1)) w h2 (HSeen.lsK (y := b38) (hseen_rdo h zz4 zz19) zz14) (tr_get (show trs b38.2 = gT b17.tr from p38.1) 2) (bs_le (sm_get (lo := 3) (hi := 3) (sm_get hsmT 1) 2))) rfl (fun _ => (fun w h => .inr (h.sub SubC.h SubC.h))) (fun b97 p97 => ?_)
     refine wpd_p 16 rfl zz7 trivial (q_build (cs := [.int .i64 (((rdNum ((gT b17.tr).getD 0 Tr.z) 1 16).1.toNat : Nat) : Int), b92, b97]) rfl (built_sg p92 p97)) rfl (fun w h => .inr (h.sub SubC.h SubC.h)) ?_
     have hnmO : (rdStr ((fT b17.tr).getD 0 Tr.z) 1 40).1.length ≤ maxLen := by
       have q1 := rdStr_le ((fT b17.tr).getD 0 Tr.z) 1 40
       have q2 : (((fT b17.tr).getD 0 Tr.z)).bs.length ≤ 1000000 := bs_le (sm_get (lo := 5) (hi := 5) (sm_get hsmT 0) 0)
       unfold maxLen; omega
     haveI : OneC (outR b17.tr sv b92 b97).c := Rv.svs.one (l := (outR b17.tr sv b92 b97)) ⟨by show SV sv (serS (lT b17.tr)).length; rw [serS_len]; exact hi1, p92, p97⟩
     refine wpd_p 17 rfl zz7 trivial (q_field Tryd.underlying32 rfl Tryd.ti30 rfl rfl _ rfl) rfl (fun w h => .inr (h.sub SubC.h SubC.h)) ?_
     refine wpd_t0 18 rfl zz7 trivial (t_stP Tryd.ti30 rfl rfl zz2 (OneC.cons rfl (OneC.cons (SV.one p92) (OneC.cons (SV.one p97) oneC_nil))).h zz6 (outR b17.tr sv b92 b97).c rfl) (fun _ => (fun w h => .inr (h.sub SubC.h SubC.h))) (fun _ => ?_)
     refine wpd_done zz7 ?_
     refine ex_then <| wpc_seq <| wpc_seq <| wpc_region ?_
     refine wpl_q (q_ld Tryd.underlying24 rfl rfl zz26) rfl ?_
     refine wpl_q (q_pure rfl) rfl <| wpl_q (q_pure rfl) rfl ?_
     refine wpl_bool2 102 101 rfl rfl (fun hb102 => ?_) (fun hb102 => ?_)
     ·
      try simp only [decide_eq_true_eq, decide_eq_false_iff_not, Bool.and_eq_true, Bool.or_eq_true, beq_iff_eq, bne_iff_ne, ne_eq, Bool.not_eq_true', Bool.not_eq_false', Decidable.not_not] at hb102
      refine wpl_off rfl rfl rfl rfl <| wpl_off rfl rfl rfl rfl <| wpl_off rfl rfl rfl rfl <| wpl_q (q_pure rfl) rfl <| wpl_nil <| ex_then ?_
      refine wpc_cond_t rfl ?_
      refine wpc_seq <| wpc_region ?_
      refine wpl_q (q_build (cs := Rv.z.c) rfl built_rz) rfl ?_
      refine wpl_t0 (t_stA Tryd.ti32 rfl rfl LenC.h OneC.h LenC.h) (fun _ => ?_)
      refine wpl_q (q_pure rfl) rfl <| wpl_nil <| ex_then <| wpc_ret ?_
      refine ex_then_ret ?_
      refine retv2 (.inl rfl) rfl (rv_agg Tryd.underlying32 rfl Tryd.ti32 rfl (fun w h => h.atB) zz2) (rv_tmp rfl) ?_
      exact fun w1 h => ⟨(Rv.z, 12), ⟨zz47, Rv.z_svs⟩, rfl, h.below, rvE_z h⟩
     ·
      try simp only [decide_eq_true_eq, decide_eq_false_iff_not, Bool.and_eq_true, Bool.or_eq_true, beq_iff_eq, bne_iff_ne, ne_eq, Bool.not_eq_true', Bool.not_eq_false', Decidable.not_not] at hb102
      refine wpl_on rfl rfl <| wpl_q (q_ldN Tryd.underlying32 rfl Tryd.ti32 rfl LenC.h) rfl <| wpl_on rfl rfl ?_
      refine wpl_t (t_pur Tryd.hb10 rfl fun w h => rvCheck (outR b17.tr sv b92 b97) w ⟨(by rw [show ((outR b17.tr sv b92 b97)).ss.length = (lT b17.tr).length from serS_len _]; exact h.seen_row zz4), h.seen_row zz4, shK_all, h.seen_row zz4, shK_all⟩ hnmO) rfl (fun b104 => ?_)
      refine wpl_on rfl rfl <| wpl_q (q_pure rfl) rfl <| wpl_q (q_pure rfl) rfl <| wpl_nil <| ex_then ?_
      refine wpc_cond rfl (fun hc106 => ?_) (fun hc106 => ?_)
      ·
       try simp only [decide_eq_true_eq, decide_eq_false_iff_not, Bool.and_eq_true, Bool.or_eq_true, beq_iff_eq, bne_iff_ne, ne_eq, Bool.not_eq_true', Bool.not_eq_false', Decidable.not_not] at hc106
       refine wpc_seq <| wpc_region ?_
       refine wpl_q (q_build (cs := Rv.z.c) rfl built_rz) rfl ?_
       refine wpl_t0 (t_stA Tryd.ti32 rfl rfl LenC.h OneC.h LenC.h) (fun _ => ?_)
       refine wpl_q (q_pure rfl) rfl <| wpl_nil <| ex_then <| wpc_ret ?_
       refine ex_then_ret ?_
       refine retv2 (.inl rfl) rfl (rv_agg Tryd.underlying32 rfl Tryd.ti32 rfl (fun w h => h.atB) zz2) (rv_tmp rfl) ?_
       exact fun w1 h => ⟨(Rv.z, 12), ⟨zz47, Rv.z_svs⟩, rfl, h.below, rvE_z h⟩
      ·
       try simp only [decide_eq_true_eq, decide_eq_false_iff_not, Bool.and_eq_true, Bool.or_eq_true, beq_iff_eq, bne_iff_ne, ne_eq, Bool.not_eq_true', Bool.not_eq_false', Decidable.not_not] at hc106
       refine wpc_skip <| ex_then <| wpc_seq <| wpc_region <| wpl_q (q_ldN Tryd.underlying32 rfl Tryd.ti32 rfl LenC.h) rfl ?_
       refine wpl_t0 (t_stA Tryd.ti32 rfl rfl LenC.h OneC.h LenC.h) (fun _ => ?_)
       refine wpl_q (q_pure rfl) rfl <| wpl_nil <| ex_then <| wpc_ret ?_
       refine retv2 (.inl rfl) rfl (rv_agg Tryd.underlying32 rfl Tryd.ti32 rfl (fun w h => h.atB) zz2) (rv_tmp rfl) ?_
       exact fun w1 h => ⟨((outR b17.tr sv b92 b97), 0), ⟨by have q := dec_yes (xs := xs) (sv := sv) (cv := b92) (pv := b97) (by rw [← p17.1]; exact bne_f hb102) (by rw [← p17.1]; first | exact hc106 | exact bne_f hc106); rwa [← p17.1] at q, ⟨by show SV sv (serS (lT b17.tr)).length; rw [serS_len]; exact hi1, p92, p97⟩⟩, rfl, h.below, by
         show New _ [Ent.row sv (serS (lT b17.tr)).length 23 1 (v64s (serS (lT b17.tr))), .row b92 (shF (rdStr ((gT b17.tr).getD 1 Tr.z) 2 65536).1).length 41 16 (v8s (shF (rdStr ((gT b17.tr).getD 1 Tr.z) 2 65536).1).flatten), .row b97 (shF (rdStr ((gT b17.tr).getD 2 Tr.z) 3 65536).1).length 41 16 (v8s (shF (rdStr ((gT b17.tr).getD 2 Tr.z) 3 65536).1).flatten)] [] w1
         rw [serS_len]
         exact (h.sel (M' := [Ent.row sv (lT b17.tr).length 23 1 (v64s (serS (lT b17.tr))), .row b92 (shF (rdStr ((gT b17.tr).getD 1 Tr.z) 2 65536).1).length 41 16 (v8s (shF (rdStr ((gT b17.tr).getD 1 Tr.z) 2 65536).1).flatten), .row b97 (shF (rdStr ((gT b17.tr).getD 2 Tr.z) 3 65536).1).length 41 16 (v8s (shF (rdStr ((gT b17.tr).getD 2 Tr.z) 3 65536).1).flatten)])).made (Sub.refl _) .nil⟩
end Go.Proofs.YtgnablliekgbgaaDoor
namespace Go.Proofs.YtgnablliekgbgaaDoor
open Go Go.PL Go.RowKit
def rvseen (y : Rv) : Fact := ⟨fun r => y.seen r, fun _ _ hr h => h.mono hr⟩
theorem Mem.rvF {w0 w : World} {Ln : List Nat} {M : List Ent} {S : List Fact} (h : Mem w0 Ln M S w) {y : Rv} (hy : Go.Proofs.YtgnablliekgbgaaDoor.rvseen y ∈ S) : y.seen w.cell? := h.fact hy
theorem DecP.len {xs : List UInt8} {y : Rv} {e : Int} (h : DecP xs y e) : (∀ x ∈ y.chs, x.length = 16) ∧ (∀ x ∈ y.ps, x.length = 16) := by
  rcases h with ⟨_, h, _⟩ | ⟨_, h, _⟩
  · exact h.2
  · have h1 : y.chs = [] := h.2.2.2.2.2.1
    have h2 : y.ps = [] := h.2.2.2.2.2.2
    rw [h1, h2]
    constructor <;> (intro x hx; cases hx)
theorem rv_freeze {w0 w : World} {M : List Ent} {S : List Fact} {y : Rv} (hc : ∀ x ∈ y.chs, x.length = 16) (hp : ∀ x ∈ y.ps, x.length = 16) (h : Mem w0 [] (rvE y ++ M) S w) : Mem w0 [] M (Go.Proofs.YtgnablliekgbgaaDoor.rvseen y :: S) w := by
  have h2 := ((h.freezeRow .here).freezeRow .here).freezeRow .here
  exact h2.imp fun r hr f hf => by
    rcases List.mem_cons.1 hf with rfl | hf
    · exact ⟨hr (Go.PL.seen y.sv y.ss.length 1 (v64s y.ss)) zz41, hr (Go.PL.seen y.cv y.chs.length 16 (v8s y.chs.flatten)) zz41, hc, hr (Go.PL.seen y.pv y.ps.length 16 (v8s y.ps.flatten)) zz41, hp⟩
    · exact hr f (by simp [hf])
theorem frzD {P : Program} {k : FuncId} {vs : Array Value} {w : World} {xs : List UInt8} {V : Rv × Int → Value} (h : Calls P k vs w (GivesP w (fun y : Rv × Int => DecP xs y.1 y.2 ∧ y.1.svs) V (fun y => rvE y.1) (fun _ => []))) : Calls P k vs w (GivesP w (fun y : Rv × Int => DecP xs y.1 y.2 ∧ y.1.svs) V (fun _ => []) (fun y => [Go.Proofs.YtgnablliekgbgaaDoor.rvseen y.1])) := by
  refine h.mono ?_
  rintro e w' ⟨y, hp, rfl, hb, hn⟩
  have hm := (Mem.start w).call hb hn
  rw [List.append_nil, List.append_nil] at hm
  exact ⟨y, hp, rfl, hb, (rv_freeze (M := []) hp.1.len.1 hp.1.len.2 (by rw [List.append_nil]; exact hm)).made .nil (Sub.refl _)⟩
theorem lim_no {l : Rv} (h : bigR l = false) : RLim l := by
  obtain ⟨a1, a2, a3, a4⟩ := big_no h
  exact ⟨a1, a2, a3, a4⟩
end Go.Proofs.YtgnablliekgbgaaDoor
namespace Go.Proofs.YtgnablliekgbgaaDoor
open Go Go.PL Go.RowKit
def exR (sv : Value) : Rv := ⟨[97], 2, 0, 9, sv, [5, 7], 0, nl, [], nl, []⟩
theorem ex_eqv (a b : Value) : (exR a).eqv (exR b) := ⟨rfl, rfl, ⟨rfl, rfl⟩, rfl, rfl, rfl, rfl⟩
theorem eqv_bdy {a b : Rv} (h : a.eqv b) : bdyB a = bdyB b := by
  obtain ⟨nm, no, fr, tt, sv, ss, ix, cv, chs, pv, ps⟩ := a
  obtain ⟨nm2, no2, fr2, tt2, sv2, ss2, ix2, cv2, chs2, pv2, ps2⟩ := b
  obtain ⟨e1, e2, ⟨e3, e4⟩, e5, e6, e7, e8⟩ := h
  dsimp only at e1 e2 e3 e4 e5 e6 e7 e8
  subst e1 e2 e3 e4 e5 e6 e7 e8
  rfl
theorem ex_chk (sv : Value) : chkR (exR sv) = 0 := (eqv_chk (ex_eqv sv nl)).trans zz20
theorem ex_lim (sv : Value) : RLim (exR sv) := ⟨by show 1 ≤ 500; omega, by show 2 ≤ 520; omega, by show 0 ≤ 60; omega, by show 0 ≤ 60; omega⟩
theorem ex_ok (sv : Value) : okL (exR sv) := ⟨ex_chk sv, fun x hx => (by cases hx), fun x hx => (by cases hx)⟩
theorem ex_body (sv : Value) : bdyB (exR sv) = [134, 19, 1, 1, 97, 2, 1, 2, 3, 0, 4, 1, 9, 129, 6, 5, 1, 5, 5, 1, 7] := (eqv_bdy (ex_eqv sv nl)).trans (by decide +kernel)
theorem ex_enc (sv : Value) : encB (exR sv) = enc (wholeT (exR sv)) := enc_ok (ex_chk sv)
theorem ex_dec {y : Rv} {e : Int} {sv sv2 : Value} (h : DecP (encB (exR sv)) y e) : e = 0 ∧ y.eqv (exR sv2) := by
  have k : DecP (encB (exR sv)) (exR sv) 0 := .inl ⟨rfl, ex_ok sv, (ex_enc sv).symm⟩
  obtain ⟨h1, h2⟩ := h.uniq k
  exact ⟨h2, eqv_trans h1 (ex_eqv _ _)⟩
theorem ex_seen {r : Rd} {sv : Value} (h : Seen r sv 2 1 (v64s [5, 7])) : (exR sv).seen r := ⟨h, seen_nil _ 0 _, fun x hx => (by cases hx), seen_nil _ 0 _, fun x hx => (by cases hx)⟩
theorem ex_nm (sv : Value) : (exR sv).nm.length ≤ maxLen := by show 1 ≤ maxLen; unfold maxLen; omega
theorem ex_rev5 (sv : Value) : revV (exR sv) 5 = true := by
  unfold revV; rw [ex_chk]; rfl
theorem ex_rev6 (sv : Value) : revV (exR sv) 6 = false := by
  unfold revV; rw [ex_chk]; rfl
theorem ex_svs {sv : Value} (h : SV sv 2) : (exR sv).svs := ⟨h, SV.nil, SV.nil⟩
theorem built_ex {sv : Value} {n : Nat} (h : SV sv n) : Tryd.prog.built 32 [(0, .string ⟨#[97]⟩), (1, .int .u64 2), (2, .agg #[.int .i64 0, .int .i64 9]), (3, sv)] = some (exR sv).c.toArray := by
  obtain ⟨a, cap, rfl, _⟩ := h
  kernel_rfl
theorem exampleR  (w : World)   :
    Calls Tryd.prog 7 [].toArray w (GivesP w (fun sv : Value => SV sv 2) (fun sv => .agg (exR sv).c.toArray) (fun sv => [.row sv 2 23 1 (v64s [5, 7])]) (fun _ => [])) := by
  refine enter (m := 4) (R := Mem w [] [] []) Tryd.func7 rfl rfl (Nat.le_of_ble_eq_true rfl) (Mem.start w) ?_
  refine wpc_seq <| wpc_region ?_
  refine wpl_t (t_alloc Tryd.ti32 Rv.z.c rfl) rfl (fun b0 => ?_)
  refine wpl_nil <| ex_then <| wpc_seq <| wpc_region ?_
  refine wpl_q (q_build (cs := [.int .i64 0, .int .i64 9]) rfl zz7) rfl ?_
  refine wpl_tp (t_bsV (v64s [5, 7]) Tryd.underlying22 Tryd.ti23 rfl rfl zz20 zz20 rfl (v64s_one _)) rfl (fun b2 p2 => ?_)
  haveI : OneC (exR b2).c := (ex_svs p2).one
  refine wpl_q (q_build (cs := (exR b2).c) rfl (built_ex p2)) rfl ?_
  refine wpl_t0 (t_stA Tryd.ti32 rfl rfl LenC.h OneC.h LenC.h) (fun _ => ?_)
  refine wpl_nil <| ex_then <| wpc_ret ?_
  refine retv1 (.inl rfl) rfl (rv_agg Tryd.underlying32 rfl Tryd.ti32 rfl (fun w h => h.atB) LenC.h) ?_
  exact fun w1 h => ⟨b2, p2, rfl, h.below, h.made SubC.h .nil⟩
end Go.Proofs.YtgnablliekgbgaaDoor
namespace Go.Proofs.YtgnablliekgbgaaDoor
open Go Go.PL Go.RowKit
theorem alive11  (w : World)   :
    Calls Tryd.prog 17 [].toArray w (Pur w (.bool true)) := by
  refine enter (m := 71) (R := Mem w [] [] []) Tryd.func17 rfl rfl (Nat.le_of_ble_eq_true rfl) (Mem.start w) ?_
  refine wpc_seq <| wpc_region <| wpl_q (q_pure rfl) rfl <| wpl_nil <| ex_then <| wpc_seq <| wpc_region ?_
  refine wpl_tp (t_callP1 Tryd.hb7 rfl fun w h => exampleR w) rfl (fun b12 p12 => ?_)
  haveI : OneC (exR b12).c := (ex_svs p12).one
  refine wpl_tp (t_callP1 Tryd.hb15 rfl fun w h => rvBodyB (exR b12) w (ex_seen (h.seen_row zz4)) (ex_nm _) (ex_lim _).ss (ex_lim _).nm) rfl (fun b13 p13 => ?_)
  refine wpl_q (q_pure rfl) rfl <| wpl_q (q_pure rfl) rfl <| wpl_q (q_pure rfl) rfl <| wpl_q (q_pure rfl) rfl <| wpl_q (q_pure rfl) rfl <| wpl_nil <| ex_then <| wpc_seq <| wpc_region ?_
  refine wpl_tp (t_callP1 Tryd.hb7 rfl fun w h => exampleR w) rfl (fun b17 p17 => ?_)
  haveI : OneC (exR b17).c := (ex_svs p17).one
  refine wpl_tp (t_callP1 Tryd.hb8 rfl fun w h => rvEncode (exR b17) w (ex_seen (h.seen_row zz4)) (ex_nm _) (ex_lim _)) rfl (fun b18 p18 => ?_)
  refine wpl_q (q_pure rfl) rfl <| wpl_q (q_pure rfl) rfl <| wpl_q (q_pure rfl) rfl <| wpl_q (q_pure rfl) rfl <| wpl_q (q_pure rfl) rfl <| wpl_nil <| ex_then <| wpc_seq <| wpc_region <| wpl_q (q_pure rfl) rfl ?_
  refine wpl_tp (t_callPT Tryd.hb14 rfl fun w h => frzD (decodeR b18 (encB (exR b17)) w (h.seen_row zz4))) rfl (fun b23 p23 => ?_)
  haveI := p23.2.one
  have hd := ex_dec (sv2 := b17) p23.1
  refine wpl_q (q_pure rfl) rfl <| wpl_q (q_pure rfl) rfl <| wpl_q (q_pure rfl) rfl ?_
  refine wpl_t (t_alloc Tryd.ti32 Rv.z.c rfl) rfl (fun b5 => ?_)
  refine wpl_t0 (t_stA Tryd.ti32 rfl rfl LenC.h OneC.h LenC.h) (fun _ => ?_)
  refine wpl_q (q_pure rfl) rfl <| wpl_nil <| ex_then <| wpc_seq <| wpc_region ?_
  refine wpl_tp (t_callP1 Tryd.hb7 rfl fun w h => exampleR w) rfl (fun b27 p27 => ?_)
  haveI : OneC (exR b27).c := (ex_svs p27).one
  refine wpl_t (t_pur (v := .tuple #[.bool true, .int .i64 0]) Tryd.hb9 rfl fun w h => by
    have q := revoked (exR b27) 5 w (ex_seen (h.seen_row zz4)) (ex_nm _)
    rwa [ex_rev5, ex_chk] at q) rfl (fun b28 => ?_)
  refine wpl_q (q_pure rfl) rfl <| wpl_q (q_pure rfl) rfl <| wpl_q (q_pure rfl) rfl <| wpl_q (q_pure rfl) rfl <| wpl_q (q_pure rfl) rfl <| wpl_nil <| ex_then <| wpc_seq <| wpc_region ?_
  refine wpl_tp (t_callP1 Tryd.hb7 rfl fun w h => exampleR w) rfl (fun b32 p32 => ?_)
  haveI : OneC (exR b32).c := (ex_svs p32).one
  refine wpl_t (t_pur (v := .tuple #[.bool false, .int .i64 0]) Tryd.hb9 rfl fun w h => by
    have q := revoked (exR b32) 6 w (ex_seen (h.seen_row zz4)) (ex_nm _)
    rwa [ex_rev6, ex_chk] at q) rfl (fun b33 => ?_)
  refine wpl_q (q_pure rfl) rfl <| wpl_q (q_pure rfl) rfl <| wpl_q (q_pure rfl) rfl <| wpl_q (q_pure rfl) rfl <| wpl_q (q_pure rfl) rfl <| wpl_nil <| ex_then <| wpc_seq ?_
  refine wpc_draw 36 zz7 (fun _ h => h.drew) ?_
  refine wpd_p 0 rfl zz7 trivial (q_pure rfl) rfl sk0 ?_
  refine wpd_p 1 rfl zz7 trivial (q_tru (q_eqI rfl rfl) (ex_chk b12)) rfl sk0 ?_
  refine wpd_p 2 rfl zz7 trivial (q_pure rfl) rfl sk0 ?_
  refine wpd_p 3 rfl zz7 ⟨_, rfl, rfl⟩ (q_pure rfl) rfl sk0 ?_
  refine wpd_p 4 rfl zz7 ⟨_, rfl, rfl⟩ (q_tru (q_eqI rfl rfl) (ex_chk b17)) rfl sk0 ?_
  refine wpd_p 5 rfl zz7 trivial (q_pure rfl) rfl sk0 ?_
  refine wpd_p 6 rfl zz7 trivial (q_pure rfl) rfl sk0 ?_
  refine wpd_p 7 rfl zz7 ⟨_, rfl, rfl⟩ (q_pure rfl) rfl sk0 ?_
  refine wpd_p 8 rfl zz7 ⟨_, rfl, rfl⟩ (q_tru (q_eqI rfl rfl) hd.1) rfl sk0 ?_
  refine wpd_p 9 rfl zz7 trivial (q_pure rfl) rfl sk0 ?_
  refine wpd_p 10 rfl zz7 trivial (q_pure rfl) rfl sk0 ?_
  refine wpd_p 11 rfl zz7 ⟨_, rfl, rfl⟩ (q_pure rfl) rfl sk0 ?_
  refine wpd_p 12 rfl zz7 ⟨_, rfl, rfl⟩ (q_tru (q_eqI rfl rfl) rfl) rfl sk0 ?_
  refine wpd_p 13 rfl zz7 trivial (q_pure rfl) rfl sk0 ?_
  refine wpd_p 14 rfl zz7 trivial (q_pure rfl) rfl sk0 ?_
  refine wpd_p 15 rfl zz7 ⟨_, rfl, rfl⟩ (q_pure rfl) rfl sk0 ?_
  refine wpd_p 16 rfl zz7 ⟨_, rfl, rfl⟩ (q_tru (q_eqI rfl rfl) rfl) rfl sk0 ?_
  refine wpd_p 17 rfl zz7 trivial (q_pure rfl) rfl sk0 ?_
  refine wpd_p 18 rfl zz7 trivial (q_pure rfl) rfl sk0 ?_
  refine wpd_p 19 rfl zz7 ⟨_, rfl, rfl⟩ (q_pure rfl) rfl sk0 ?_
  refine wpd_p 20 rfl zz7 trivial (q_pure rfl) rfl sk0 ?_
  refine wpd_p 21 rfl zz7 trivial (q_pure rfl) rfl sk0 ?_
  refine wpd_bool2 57 29 rfl rfl (fun hb57 => ?_) (fun hb57 => ?_)
  ·
   refine wpd_p 22 rfl zz7 ⟨_, rfl, rfl⟩ (q_pure rfl) rfl sk0 ?_
   refine wpd_p 23 rfl zz7 ⟨_, rfl, rfl⟩ (q_pure rfl) rfl sk0 ?_
   refine wpd_p 24 rfl zz7 trivial (q_pure rfl) rfl sk0 ?_
   refine wpd_p 25 rfl zz7 trivial (q_pure rfl) rfl sk0 ?_
   refine wpd_bool2 61 59 rfl rfl (fun hb61 => ?_) (fun hb61 => ?_)
   ·
    refine wpd_q 26 rfl zz7 ⟨_, rfl, rfl⟩ (q_ldN Tryd.underlying32 rfl Tryd.ti32 rfl LenC.h) rfl (fun _ h => h) ?_
    refine wpd_tp 27 rfl zz7 ⟨_, rfl, rfl⟩ (t_callP1 Tryd.hb7 rfl fun w h => exampleR w) rfl (fun _ => (fun w h => .inr (h.sub SubC.h SubC.h))) (fun b63 p63 => ?_)
    haveI : OneC (exR b63).c := (ex_svs p63).one
    refine wpd_t 28 rfl zz7 ⟨_, rfl, rfl⟩ (t_pur (v := .bool true) Tryd.hb43 rfl fun w h => by
      have q := refRvSame b23.1 (exR b63) w (Mem.rvF h zz4) (ex_seen (h.seen_row zz4))
      rwa [decide_eq_true (eqv_trans hd.2 (ex_eqv _ _))] at q) rfl (fun _ => (fun w h => .inr (h.sub SubC.h SubC.h))) (fun b64 => ?_)
    refine wpd_p 29 rfl zz7 trivial (q_pure rfl) rfl (fun w h => .inr (h.sub SubC.h SubC.h)) ?_
    refine wpd_p 30 rfl zz7 trivial (q_pure rfl) rfl (fun w h => .inr (h.sub SubC.h SubC.h)) ?_
    refine wpd_p 31 rfl zz7 ⟨_, rfl, rfl⟩ (q_pure rfl) rfl (fun w h => .inr (h.sub SubC.h SubC.h)) ?_
    refine wpd_tp 32 rfl zz7 ⟨_, rfl, rfl⟩ (t_bsV (v8s [134, 19, 1, 1, 97, 2, 1, 2, 3, 0, 4, 1, 9, 129, 6, 5, 1, 5, 5, 1, 7]) Tryd.underlying34 Tryd.ti5 rfl rfl zz20 zz20 rfl (v8s_one _)) rfl (fun _ => (fun w h => .inr (h.sub SubC.h SubC.h))) (fun b68 p68 => ?_)
    refine wpd_t 33 rfl zz7 ⟨_, rfl, rfl⟩ (t_pur (v := .bool true) Tryd.hb21 rfl fun w h => by
      have q := sameB b13 (bdyB (exR b12)) b68 [134, 19, 1, 1, 97, 2, 1, 2, 3, 0, 4, 1, 9, 129, 6, 5, 1, 5, 5, 1, 7] w (h.seen_row zz4) (h.seen_row zz4)
      rwa [decide_eq_true (ex_body b12)] at q) rfl (fun _ => (fun w h => .inr (h.sub SubC.h SubC.h))) (fun b69 => ?_)
    refine wpd_p 34 rfl zz7 trivial (q_pure rfl) rfl (fun w h => .inr (h.sub SubC.h SubC.h)) ?_
    refine wpd_p 35 rfl zz7 trivial (q_pure rfl) rfl (fun w h => .inr (h.sub SubC.h SubC.h)) ?_
    refine wpd_done zz7 ?_
    refine ex_then <| wpc_ret ?_
    refine ret1 (.inl rfl) rfl rfl ?_
    exact fun w h => ⟨by first | rfl | simp, h.below⟩
   ·
    exact absurd hb61 zz20
  ·
   exact absurd hb57 zz20
end Go.Proofs.YtgnablliekgbgaaDoor
namespace Go.Proofs.YtgnablliekgbgaaDoor
open Go Go.PL Go.RowKit
theorem decP_b {l : Rv} {y : Rv} {e : Int} (hc : ∀ x ∈ l.chs, x.length = 16) (hp : ∀ x ∈ l.ps, x.length = 16) (h0 : chkR l = 0) (h : DecP (encB l) y e) : e = 0 ∧ l.eqv y := by
  have k : DecP (encB l) l 0 := .inl ⟨rfl, ⟨h0, hc, hp⟩, (enc_ok h0).symm⟩
  obtain ⟨h1, h2⟩ := h.uniq k
  exact ⟨h2, eqv_symm h1⟩
theorem nm_max {l : Rv} (h : RLim l) : l.nm.length ≤ maxLen := by have := h.nm; unfold maxLen; omega
end Go.Proofs.YtgnablliekgbgaaDoor
namespace Go.Proofs.YtgnablliekgbgaaDoor
open Go Go.PL Go.RowKit
theorem Rv.c_len (l : Rv) : l.c.length = 8 := rfl
end Go.Proofs.YtgnablliekgbgaaDoor
namespace Go.Proofs.YtgnablliekgbgaaDoor
open Go Go.PL Go.RowKit
def rotlF (x : UInt32) (k : Int) : UInt32 :=
  sl32 x (((of64 k &&& 31).toNat : Nat) : Int).toNat ||| sr32 x (((32 - (of64 k &&& 31)).toNat : Nat) : Int).toNat
theorem rotl (x : UInt32) (k : Int) (w : World) :
    Calls Tryd.prog 105 [.int .u32 x.toNat, .int .i64 k].toArray w (Pur w (.int .u32 (rotlF x k).toNat)) := by
  refine enter (m := 17) (R := Mem w [] [] []) Tryd.func105 rfl rfl (Nat.le_of_ble_eq_true rfl) (Mem.start w) ?_
  refine wpc_seq <| wpc_region <| wpl_q (q_pure rfl) rfl <| wpl_nil <| ex_then <| wpc_seq <| wpc_region <| wpl_q (q_pure rfl) rfl <| wpl_q (q64_conv Tryd.underlying3 Tryd.underlying100 rfl) rfl ?_
  refine wpl_q (q64_and (b := (31 : UInt64)) rfl rfl) rfl ?_
  refine wpl_q (q_pure rfl) rfl <| wpl_nil <| ex_then <| wpc_seq <| wpc_region <| wpl_q (q_pure rfl) rfl <| wpl_q (q_pure rfl) rfl ?_
  refine wpl_q (q32_shl rfl rfl zz23 _ rfl) rfl ?_
  refine wpl_q (q_pure rfl) rfl <| wpl_q (q_pure rfl) rfl ?_
  refine wpl_q (q64_sub (a := (32 : UInt64)) rfl rfl) rfl ?_
  refine wpl_q (q32_shr rfl rfl zz23 _ rfl) rfl ?_
  refine wpl_q (q32_or rfl rfl) rfl <| wpl_q (q_pure rfl) rfl <| wpl_nil <| ex_then <| wpc_ret ?_
  refine ret1 (.inl rfl) rfl rfl ?_
  exact fun w h => ⟨rfl, h.below⟩
theorem turn (x : UInt32) (k : Int) (h0 : -64 ≤ k) (h1 : k ≤ 64) (w : World) :
    Calls Tryd.prog 103 [.int .u32 x.toNat, .int .i64 k].toArray w (Pur w (.int .u32 (rotlF x (-k)).toNat)) := by
  refine enter (m := 9) (R := Mem w [] [] []) Tryd.func103 rfl rfl (Nat.le_of_ble_eq_true rfl) (Mem.start w) ?_
  refine wpc_seq <| wpc_region <| wpl_q (q_pure rfl) rfl <| wpl_nil <| ex_then <| wpc_seq <| wpc_region <| wpl_q (q_pure rfl) rfl <| wpl_q (q_pure rfl) rfl ?_
  first | refine wpl_q (qop_eq (q_pure rfl) (congrArg (Value.int .i64) (wk_i64 zz14 zz14))) rfl ?_ | refine wpl_q (q_pure rfl) rfl ?_
  refine wpl_t (t_pur Tryd.hb105 rfl fun w h => rotl _ _ _) rfl ?_
  intro b8
  refine wpl_q (q_pure rfl) rfl <| wpl_nil <| ex_then <| wpc_ret ?_
  refine ret1 (.inl rfl) rfl rfl ?_
  exact fun w h => ⟨rfl, h.below⟩
end Go.Proofs.YtgnablliekgbgaaDoor
namespace Go.Proofs.YtgnablliekgbgaaDoor
open Go Go.PL Go.RowKit
def wordF (bs : List UInt8) (i : Nat) : UInt32 :=
  sl32 (of32 (bs.getD (4 * i) 0).toNat) 24 ||| sl32 (of32 (bs.getD (4 * i + 1) 0).toNat) 16 ||| sl32 (of32 (bs.getD (4 * i + 2) 0).toNat) 8 ||| of32 (bs.getD (4 * i + 3) 0).toNat
def mixF (ws : List UInt32) (i : Nat) : UInt32 :=
  (rotlF (ws.getD (i - 2) 0) (-17) ^^^ rotlF (ws.getD (i - 2) 0) (-19) ^^^ sr32 (ws.getD (i - 2) 0) 10) + ws.getD (i - 7) 0 + (rotlF (ws.getD (i - 15) 0) (-7) ^^^ rotlF (ws.getD (i - 15) 0) (-18) ^^^ sr32 (ws.getD (i - 15) 0) 3) + ws.getD (i - 16) 0
def wsF (bs : List UInt8) : Nat → List UInt32
  | 0 => []
  | i + 1 => wsF bs i ++ [if i < 16 then wordF bs i else mixF (wsF bs i) i]
theorem wsF_length (bs : List UInt8) : ∀ i, (wsF bs i).length = i
  | 0 => rfl
  | i + 1 => by simp [wsF, wsF_length bs i]
def stF (bs : List UInt8) (i : Nat) : List UInt32 := wsF bs i ++ List.replicate (64 - i) 0
theorem stF_length (bs : List UInt8) (i : Nat) (h : i ≤ 64) : (stF bs i).length = 64 := by simp [stF, wsF_length]; omega
theorem stF_get (bs : List UInt8) (i j : Nat) (h : j < i) : (stF bs i).getD j 0 = (wsF bs i).getD j 0 := by
  simp only [stF, List.getD_eq_getElem?_getD]; rw [List.getElem?_append_left (by rw [wsF_length]; exact h)]
theorem stF_set (bs : List UInt8) (i : Nat) (h : i < 64) (x : UInt32) (hx : x = if i < 16 then wordF bs i else mixF (wsF bs i) i) : (stF bs i).set i x = stF bs (i + 1) := by
  subst hx
  have e : List.replicate (64 - i) (0 : UInt32) = 0 :: List.replicate (64 - (i + 1)) 0 := by
    rw [show 64 - i = (64 - (i + 1)) + 1 from zz14, List.replicate_succ]
  simp only [stF, e, wsF]
  rw [List.set_append_right _ _ (by rw [wsF_length]; exact Nat.le_refl _), wsF_length, Nat.sub_self]
  simp
theorem mix_st (bs : List UInt8) (i : Nat) (h : 16 ≤ i) : mixF (stF bs i) i = mixF (wsF bs i) i := by
  unfold mixF
  rw [stF_get _ _ _ zz14, stF_get _ _ _ zz14, stF_get _ _ _ zz14, stF_get _ _ _ zz14]
theorem word (bs : List UInt8) (hl : bs.length = 64) (bb i : Nat) (hi : i < 16) (w : World) (hb : CellsAt w.cell? ⟨bb, 0, none⟩ (v8s bs)) :
    Calls Tryd.prog 104 [.pointer (some ⟨bb, 0, none⟩), .int .i64 i].toArray w (Pur w (.int .u32 (wordF bs i).toNat)) := by
  refine enter (m := 42) (R := Mem w [] [] []) Tryd.func104 rfl rfl (Nat.le_of_ble_eq_true rfl) (Mem.start w) ?_
  refine wpc_seq <| wpc_region <| wpl_q (q_pure rfl) rfl <| wpl_nil <| ex_then <| wpc_seq ?_
  refine wpc_draw 38 zz7 (fun _ h => h.drew) ?_
  refine wpd_p 0 rfl zz7 trivial (q_pure rfl) rfl sk0 ?_
  refine wpd_p 1 rfl zz7 trivial (q_pure rfl) rfl sk0 ?_
  first | refine wpd_p 2 rfl zz7 trivial (qop_eq (q_pure rfl) (congrArg (Value.int .i64) (wk_i64 zz14 zz14))) rfl sk0 ?_ | refine wpd_p 2 rfl zz7 trivial (q_pure rfl) rfl sk0 ?_
  refine wpd_p 3 rfl zz7 trivial (q_pure rfl) rfl sk0 ?_
  refine wpd_p 4 rfl zz7 trivial (q_idxA Tryd.underlying170 Tryd.ti5 rfl rfl zz14 zz14 (4 * i) zz14) rfl sk0 ?_
  refine wpd_q 5 rfl zz7 trivial (q_load1 Tryd.underlying5 rfl rfl (fun w h => h.cell_old (hb.at_ (v8s_get zz14)))) rfl (fun _ h => h) ?_
  refine wpd_p 6 rfl zz7 trivial (q32_conv Tryd.underlying5 Tryd.underlying159 rfl) rfl sk0 ?_
  refine wpd_p 7 rfl zz7 trivial (q32_shl rfl rfl zz23 _ rfl) rfl sk0 ?_
  refine wpd_p 8 rfl zz7 trivial (q_pure rfl) rfl sk0 ?_
  refine wpd_p 9 rfl zz7 trivial (q_pure rfl) rfl sk0 ?_
  first | refine wpd_p 10 rfl zz7 trivial (qop_eq (q_pure rfl) (congrArg (Value.int .i64) (wk_i64 zz14 zz14))) rfl sk0 ?_ | refine wpd_p 10 rfl zz7 trivial (q_pure rfl) rfl sk0 ?_
  first | refine wpd_p 11 rfl zz7 trivial (qop_eq (q_pure rfl) (congrArg (Value.int .i64) (wk_i64 zz14 zz14))) rfl sk0 ?_ | refine wpd_p 11 rfl zz7 trivial (q_pure rfl) rfl sk0 ?_
  refine wpd_p 12 rfl zz7 trivial (q_pure rfl) rfl sk0 ?_
  refine wpd_p 13 rfl zz7 trivial (q_idxA Tryd.underlying170 Tryd.ti5 rfl rfl zz14 zz14 (4 * i + 1) zz14) rfl sk0 ?_
  refine wpd_q 14 rfl zz7 trivial (q_load1 Tryd.underlying5 rfl rfl (fun w h => h.cell_old (hb.at_ (v8s_get zz14)))) rfl (fun _ h => h) ?_
  refine wpd_p 15 rfl zz7 trivial (q32_conv Tryd.underlying5 Tryd.underlying159 rfl) rfl sk0 ?_
  refine wpd_p 16 rfl zz7 trivial (q32_shl rfl rfl zz23 _ rfl) rfl sk0 ?_
  refine wpd_p 17 rfl zz7 trivial (q32_or rfl rfl) rfl sk0 ?_
  refine wpd_p 18 rfl zz7 trivial (q_pure rfl) rfl sk0 ?_
  refine wpd_p 19 rfl zz7 trivial (q_pure rfl) rfl sk0 ?_
  first | refine wpd_p 20 rfl zz7 trivial (qop_eq (q_pure rfl) (congrArg (Value.int .i64) (wk_i64 zz14 zz14))) rfl sk0 ?_ | refine wpd_p 20 rfl zz7 trivial (q_pure rfl) rfl sk0 ?_
  first | refine wpd_p 21 rfl zz7 trivial (qop_eq (q_pure rfl) (congrArg (Value.int .i64) (wk_i64 zz14 zz14))) rfl sk0 ?_ | refine wpd_p 21 rfl zz7 trivial (q_pure rfl) rfl sk0 ?_
  refine wpd_p 22 rfl zz7 trivial (q_pure rfl) rfl sk0 ?_
  refine wpd_p 23 rfl zz7 trivial (q_idxA Tryd.underlying170 Tryd.ti5 rfl rfl zz14 zz14 (4 * i + 2) zz14) rfl sk0 ?_
  refine wpd_q 24 rfl zz7 trivial (q_load1 Tryd.underlying5 rfl rfl (fun w h => h.cell_old (hb.at_ (v8s_get zz14)))) rfl (fun _ h => h) ?_
  refine wpd_p 25 rfl zz7 trivial (q32_conv Tryd.underlying5 Tryd.underlying159 rfl) rfl sk0 ?_
  refine wpd_p 26 rfl zz7 trivial (q32_shl rfl rfl zz23 _ rfl) rfl sk0 ?_
  refine wpd_p 27 rfl zz7 trivial (q32_or rfl rfl) rfl sk0 ?_
  refine wpd_p 28 rfl zz7 trivial (q_pure rfl) rfl sk0 ?_
  refine wpd_p 29 rfl zz7 trivial (q_pure rfl) rfl sk0 ?_
  first | refine wpd_p 30 rfl zz7 trivial (qop_eq (q_pure rfl) (congrArg (Value.int .i64) (wk_i64 zz14 zz14))) rfl sk0 ?_ | refine wpd_p 30 rfl zz7 trivial (q_pure rfl) rfl sk0 ?_
  first | refine wpd_p 31 rfl zz7 trivial (qop_eq (q_pure rfl) (congrArg (Value.int .i64) (wk_i64 zz14 zz14))) rfl sk0 ?_ | refine wpd_p 31 rfl zz7 trivial (q_pure rfl) rfl sk0 ?_
  refine wpd_p 32 rfl zz7 trivial (q_pure rfl) rfl sk0 ?_
  refine wpd_p 33 rfl zz7 trivial (q_idxA Tryd.underlying170 Tryd.ti5 rfl rfl zz14 zz14 (4 * i + 3) zz14) rfl sk0 ?_
  refine wpd_q 34 rfl zz7 trivial (q_load1 Tryd.underlying5 rfl rfl (fun w h => h.cell_old (hb.at_ (v8s_get zz14)))) rfl (fun _ h => h) ?_
  refine wpd_p 35 rfl zz7 trivial (q32_conv Tryd.underlying5 Tryd.underlying159 rfl) rfl sk0 ?_
  refine wpd_p 36 rfl zz7 trivial (q32_or rfl rfl) rfl sk0 ?_
  refine wpd_p 37 rfl zz7 trivial (q_pure rfl) rfl sk0 ?_
  refine wpd_done zz7 ?_
  refine ex_then <| wpc_ret ?_
  refine ret1 (.inl rfl) rfl rfl ?_
  exact fun w h => ⟨rfl, h.below⟩
theorem schedule (bs : List UInt8) (hl : bs.length = 64) (bb : Nat) (w : World) (hb : CellsAt w.cell? ⟨bb, 0, none⟩ (v8s bs)) :
    Calls Tryd.prog 102 [.pointer (some ⟨bb, 0, none⟩)].toArray w (Pur w (.agg (v32s (wsF bs 64)).toArray)) := by
  refine enter (m := 56) (R := Mem w [] [] []) Tryd.func102 rfl rfl (Nat.le_of_ble_eq_true rfl) (Mem.start w) ?_
  refine wpc_seq <| wpc_region ?_
  refine wpl_t (t_alloc Tryd.ti173 (v32s (List.replicate 64 0)) (by rfl)) rfl ?_
  intro b2
  refine wpl_nil <| ex_then <| wpc_seq <| wpc_region ?_
  refine wpl_t (t_alloc Tryd.ti173 (v32s (stF bs 0)) (by rfl)) rfl ?_
  intro b3
  refine wpl_nil <| ex_then <| wpc_seq <| wpc_seq <| wpc_region <| wpl_q (q_pure rfl) rfl <| wpl_nil <| ex_then <| wpc_block ?_
  refine wpc_loop (ι := { i : Nat // i ≤ 64 }) (fun i => [(7, .int .i64 (i.1 : Nat)), (3, .pointer (some ⟨b3, 0, none⟩)), (2, .pointer (some ⟨b2, 0, none⟩)), (0, .pointer (some ⟨bb, 0, none⟩))]) (fun i => Mem w [] [.blk b3 173 (v32s (stF bs i.1)), .blk b2 173 (v32s (List.replicate 64 0))] []) (fun i => 64 - i.1) ⟨0, zz14⟩ ?_ ?_ ?_
  · exact by repeat (first | exact trivial | refine ⟨rfl, ?_⟩)
  · exact fun w h => h
  · rintro ⟨i, hi⟩; dsimp only
    have hsl := stF_length bs i hi
    refine wpc_seq <| wpc_region <| wpl_q (q_pure rfl) rfl <| wpl_nil <| ex_then <| wpc_seq ?_
    refine wpc_cond rfl (fun hc8 => ?_) (fun hc8 => ?_)
    ·
      simp only [decide_eq_true_eq, decide_eq_false_iff_not, Bool.and_eq_true, Bool.or_eq_true, beq_iff_eq, bne_iff_ne, ne_eq] at hc8
      refine wpc_skip <| ex_then <| wpc_seq <| wpc_block <| wpc_seq <| wpc_region <| wpl_q (q_pure rfl) rfl <| wpl_q (q_pure rfl) rfl <| wpl_nil <| ex_then <| wpc_seq <| wpc_seq ?_
      refine wpc_region <| wpl_q (q_pure rfl) rfl <| wpl_q (q_pure rfl) rfl <| wpl_nil <| ex_then ?_
      refine wpc_cond rfl (fun hc11 => ?_) (fun hc11 => ?_)
      ·
        simp only [decide_eq_true_eq, decide_eq_false_iff_not, Bool.and_eq_true, Bool.or_eq_true, beq_iff_eq, bne_iff_ne, ne_eq] at hc11
        refine wpc_seq <| wpc_region <| wpl_q (q_pure rfl) rfl <| wpl_q (q_pure rfl) rfl <| wpl_q (q_pure rfl) rfl ?_
        refine wpl_t (t_pur Tryd.hb104 rfl fun w' h => word bs hl bb i zz14 w' (hb.mono fun _ _ hv => h.cell_old hv)) rfl ?_
        intro b15
        refine wpl_q (q_idxA Tryd.underlying173 Tryd.ti159 rfl rfl zz14 zz14 (i) zz14) rfl ?_
        refine wpl_t0 (t_st1 Tryd.ti159 rfl rfl rfl zz36 _ (by first | exact v32s_set _ | rfl)) ?_
        intro _
        refine wpl_nil <| ex_then ?_
        refine wpc_exit ?_
        refine ex_then_exit ?_
        refine ex_block_hit ?_
        refine ex_then <| wpc_region ?_
        first | refine wpl_q (qop_eq (q_pure rfl) (congrArg (Value.int .i64) (wk_i64 zz14 zz14))) rfl ?_ | refine wpl_q (q_pure rfl) rfl ?_
        refine wpl_q (q_pure rfl) rfl <| wpl_nil ?_
        refine ex_again ⟨i + 1, zz14⟩ ?_ ?_ ?_
        · exact zz9
        · exact fun w h => by
            first
            | exact (stF_set bs i zz14 _ (by rw [if_pos zz14])) ▸ h
            | exact (stF_set bs i zz14 _ ((mix_st bs i zz14).trans (by rw [if_neg zz14]))) ▸ h
        · show 64 - (i + 1) < 64 - i; omega
      ·
        simp only [decide_eq_true_eq, decide_eq_false_iff_not, Bool.and_eq_true, Bool.or_eq_true, beq_iff_eq, bne_iff_ne, ne_eq] at hc11
        refine wpc_skip <| ex_then <| wpc_seq ?_
        refine wpc_draw 10 zz7 (fun _ h => h.drew) ?_
        refine wpd_p 0 rfl zz7 trivial (q_pure rfl) rfl sk0 ?_
        first | refine wpd_p 1 rfl zz7 trivial (qop_eq (q_pure rfl) (congrArg (Value.int .i64) (wk_i64 zz14 zz14))) rfl sk0 ?_ | refine wpd_p 1 rfl zz7 trivial (q_pure rfl) rfl sk0 ?_
        refine wpd_p 2 rfl zz7 trivial (q_idxA Tryd.underlying173 Tryd.ti159 rfl rfl zz14 zz14 (i - 15) zz14) rfl sk0 ?_
        refine wpd_q 3 rfl zz7 trivial (q_ld Tryd.underlying159 rfl rfl zz24) rfl (fun _ h => h) ?_
        refine wpd_p 4 rfl zz7 trivial (q_pure rfl) rfl sk0 ?_
        first | refine wpd_p 5 rfl zz7 trivial (qop_eq (q_pure rfl) (congrArg (Value.int .i64) (wk_i64 zz14 zz14))) rfl sk0 ?_ | refine wpd_p 5 rfl zz7 trivial (q_pure rfl) rfl sk0 ?_
        refine wpd_p 6 rfl zz7 trivial (q_idxA Tryd.underlying173 Tryd.ti159 rfl rfl zz14 zz14 (i - 2) zz14) rfl sk0 ?_
        refine wpd_q 7 rfl zz7 trivial (q_ld Tryd.underlying159 rfl rfl zz24) rfl (fun _ h => h) ?_
        refine wpd_p 8 rfl zz7 trivial (q_pure rfl) rfl sk0 ?_
        refine wpd_p 9 rfl zz7 trivial (q_pure rfl) rfl sk0 ?_
        refine wpd_done zz7 ?_
        refine ex_then ?_
        refine wpc_draw 29 zz7 (fun _ h => h.drew) ?_
        refine wpd_p 0 rfl zz7 trivial (q_pure rfl) rfl sk0 ?_
        refine wpd_p 1 rfl zz7 trivial (q_pure rfl) rfl sk0 ?_
        refine wpd_p 3 rfl zz7 trivial (q_pure rfl) rfl sk0 ?_
        refine wpd_p 6 rfl zz7 trivial (q_pure rfl) rfl sk0 ?_
        refine wpd_p 7 rfl zz7 trivial (q32_shr rfl rfl zz23 _ rfl) rfl sk0 ?_
        refine wpd_p 9 rfl zz7 trivial (q_pure rfl) rfl sk0 ?_
        first | refine wpd_p 10 rfl zz7 trivial (qop_eq (q_pure rfl) (congrArg (Value.int .i64) (wk_i64 zz14 zz14))) rfl sk0 ?_ | refine wpd_p 10 rfl zz7 trivial (q_pure rfl) rfl sk0 ?_
        refine wpd_p 11 rfl zz7 trivial (q_idxA Tryd.underlying173 Tryd.ti159 rfl rfl zz14 zz14 (i - 7) zz14) rfl sk0 ?_
        refine wpd_q 12 rfl zz7 trivial (q_ld Tryd.underlying159 rfl rfl zz24) rfl (fun _ h => h) ?_
        refine wpd_p 14 rfl zz7 trivial (q_pure rfl) rfl sk0 ?_
        refine wpd_p 16 rfl zz7 trivial (q_pure rfl) rfl sk0 ?_
        refine wpd_p 19 rfl zz7 trivial (q_pure rfl) rfl sk0 ?_
        refine wpd_p 20 rfl zz7 trivial (q32_shr rfl rfl zz23 _ rfl) rfl sk0 ?_
        refine wpd_p 23 rfl zz7 trivial (q_pure rfl) rfl sk0 ?_
        first | refine wpd_p 24 rfl zz7 trivial (qop_eq (q_pure rfl) (congrArg (Value.int .i64) (wk_i64 zz14 zz14))) rfl sk0 ?_ | refine wpd_p 24 rfl zz7 trivial (q_pure rfl) rfl sk0 ?_
        refine wpd_p 25 rfl zz7 trivial (q_idxA Tryd.underlying173 Tryd.ti159 rfl rfl zz14 zz14 (i - 16) zz14) rfl sk0 ?_
        refine wpd_q 26 rfl zz7 trivial (q_ld Tryd.underlying159 rfl rfl zz24) rfl (fun _ h => h) ?_
        refine wpd_t 2 rfl zz7 trivial (t_pur Tryd.hb103 rfl fun w h => turn _ _ zz20 zz20 _) rfl (fun _ => sk0) ?_
        intro b27
        refine wpd_t 4 rfl zz7 trivial (t_pur Tryd.hb103 rfl fun w h => turn _ _ zz20 zz20 _) rfl (fun _ => sk0) ?_
        intro b29
        refine wpd_p 5 rfl zz7 trivial (q32_xor rfl rfl) rfl sk0 ?_
        refine wpd_p 8 rfl zz7 trivial (q32_xor rfl rfl) rfl sk0 ?_
        refine wpd_p 13 rfl zz7 trivial (q32_add rfl rfl) rfl sk0 ?_
        refine wpd_t 15 rfl zz7 trivial (t_pur Tryd.hb103 rfl fun w h => turn _ _ zz20 zz20 _) rfl (fun _ => sk0) ?_
        intro b40
        refine wpd_t 17 rfl zz7 trivial (t_pur Tryd.hb103 rfl fun w h => turn _ _ zz20 zz20 _) rfl (fun _ => sk0) ?_
        intro b42
        refine wpd_p 18 rfl zz7 trivial (q32_xor rfl rfl) rfl sk0 ?_
        refine wpd_p 21 rfl zz7 trivial (q32_xor rfl rfl) rfl sk0 ?_
        refine wpd_p 22 rfl zz7 trivial (q32_add rfl rfl) rfl sk0 ?_
        refine wpd_p 27 rfl zz7 trivial (q32_add rfl rfl) rfl sk0 ?_
        refine wpd_p 28 rfl zz7 trivial (q_idxA Tryd.underlying173 Tryd.ti159 rfl rfl zz14 zz14 (i) zz14) rfl sk0 ?_
        refine wpd_t0 29 rfl zz7 trivial (t_st1 Tryd.ti159 rfl rfl rfl zz36 _ (by first | exact v32s_set _ | rfl)) (fun _ => skk rfl) ?_
        intro _
        refine wpd_done zz7 ?_
        refine ex_block <| ex_then <| wpc_region ?_
        first | refine wpl_q (qop_eq (q_pure rfl) (congrArg (Value.int .i64) (wk_i64 zz14 zz14))) rfl ?_ | refine wpl_q (q_pure rfl) rfl ?_
        refine wpl_q (q_pure rfl) rfl <| wpl_nil ?_
        refine ex_again ⟨i + 1, zz14⟩ ?_ ?_ ?_
        · exact zz9
        · exact fun w h => by
            first
            | exact (stF_set bs i zz14 _ (by rw [if_pos zz14])) ▸ h
            | exact (stF_set bs i zz14 _ ((mix_st bs i zz14).trans (by rw [if_neg zz14]))) ▸ h
        · show 64 - (i + 1) < 64 - i; omega
    ·
      simp only [decide_eq_true_eq, decide_eq_false_iff_not, Bool.and_eq_true, Bool.or_eq_true, beq_iff_eq, bne_iff_ne, ne_eq] at hc8
      refine wpc_exit ?_
      refine ex_then_exit ?_
      refine ex_then_exit ?_
      refine ex_block_hit ?_
      refine ex_then <| wpc_seq <| wpc_region ?_
      refine wpl_q (q_ldN Tryd.underlying173 rfl Tryd.ti173 rfl zz22) rfl ?_
      refine wpl_t0 (t_stA Tryd.ti173 rfl rfl zz22 (v32s_one _) zz22) ?_
      intro _
      refine wpl_nil <| ex_then <| wpc_ret ?_
      refine retv1 (.inl rfl) rfl (rv_agg Tryd.underlying173 rfl Tryd.ti173 rfl (fun w h => h.cells_blk zz4) zz22) ?_
      have e : stF bs 64 = wsF bs 64 := by simp [stF]
      obtain rfl : i = 64 := by omega
      exact fun w h => ⟨by rw [e], h.below⟩
end Go.Proofs.YtgnablliekgbgaaDoor
namespace Go.Proofs.YtgnablliekgbgaaDoor
open Go Go.PL Go.RowKit
def rootsL : List UInt32 := [1116352408, 1899447441, 3049323471, 3921009573, 961987163, 1508970993, 2453635748, 2870763221, 3624381080, 310598401, 607225278, 1426881987, 1925078388, 2162078206, 2614888103, 3248222580, 3835390401, 4022224774, 264347078, 604807628, 770255983, 1249150122, 1555081692, 1996064986, 2554220882, 2821834349, 2952996808, 3210313671, 3336571891, 3584528711, 113926993, 338241895, 666307205, 773529912, 1294757372, 1396182291, 1695183700, 1986661051, 2177026350, 2456956037, 2730485921, 2820302411, 3259730800, 3345764771, 3516065817, 3600352804, 4094571909, 275423344, 430227734, 506948616, 659060556, 883997877, 958139571, 1322822218, 1537002063, 1747873779, 1955562222, 2024104815, 2227730452, 2361852424, 2428436474, 2756734187, 3204031479, 3329325298]
theorem rootsL_length : rootsL.length = 64 := rfl
def tF (k w : UInt32) (r : List UInt32) : UInt32 :=
  r.getD 7 0 + (rotlF (r.getD 4 0) (-6) ^^^ rotlF (r.getD 4 0) (-11) ^^^ rotlF (r.getD 4 0) (-25)) + ((r.getD 4 0 &&& r.getD 5 0) ^^^ (~~~ r.getD 4 0 &&& r.getD 6 0)) + k + w
def uF (r : List UInt32) : UInt32 :=
  (rotlF (r.getD 0 0) (-2) ^^^ rotlF (r.getD 0 0) (-13) ^^^ rotlF (r.getD 0 0) (-22)) + ((r.getD 0 0 &&& r.getD 1 0) ^^^ (r.getD 0 0 &&& r.getD 2 0) ^^^ (r.getD 1 0 &&& r.getD 2 0))
def roundF (k w : UInt32) (r : List UInt32) : List UInt32 :=
  [tF k w r + uF r, r.getD 0 0, r.getD 1 0, r.getD 2 0, r.getD 3 0 + tF k w r, r.getD 4 0, r.getD 5 0, r.getD 6 0]
def roundsF (ws st : List UInt32) : Nat → List UInt32
  | 0 => st
  | i + 1 => roundF (rootsL.getD i 0) (ws.getD i 0) (roundsF ws st i)
theorem roundsF_length (ws st : List UInt32) (h : st.length = 8) : ∀ i, (roundsF ws st i).length = 8
  | 0 => h
  | i + 1 => rfl
def sumN (st r : List UInt32) : Nat → List UInt32
  | 0 => st
  | i + 1 => (sumN st r i).set i ((sumN st r i).getD i 0 + r.getD i 0)
theorem sumN_length (st r : List UInt32) : ∀ i, (sumN st r i).length = st.length
  | 0 => rfl
  | i + 1 => by simp [sumN, sumN_length st r i]
def addF (st : List UInt32) (bs : List UInt8) : List UInt32 := sumN st (roundsF (wsF bs 64) st 64) 8
theorem addF_length (st : List UInt32) (bs : List UInt8) : (addF st bs).length = st.length := sumN_length _ _ _
theorem add (sb bb : Nat) (st : List UInt32) (bs : List UInt8) (hst : st.length = 8) (hbs : bs.length = 64) (w : World) (hs : w.heap[sb]? = some (.cells (v32s st).toArray 162 (0, 0))) (hb : CellsAt w.cell? ⟨bb, 0, none⟩ (v8s bs)) (hne : bb ≠ sb) (hro : CellsAt w.cell? ⟨0, 0, none⟩ (v32s rootsL)) (h0 : 0 ≠ sb) :
    Calls Tryd.prog 99 [.pointer (some ⟨sb, 0, none⟩), .pointer (some ⟨bb, 0, none⟩)].toArray w (GivesL w [sb] (fun _ : Unit => .tuple #[]) fun _ => [.blk sb 162 (v32s (addF st bs))]) := by
  refine enter (m := 111) (R := Mem w [sb] [.blk sb 162 (v32s st)] []) Tryd.func99 rfl rfl (Nat.le_of_ble_eq_true rfl) (Mem.start1 w hs) ?_
  refine wpc_seq <| wpc_region <| wpl_q (q_pure rfl) rfl <| wpl_q (q_pure rfl) rfl ?_
  refine wpl_q (q_ldN Tryd.underlying162 rfl Tryd.ti162 rfl zz22) rfl ?_
  refine wpl_t (t_alloc Tryd.ti162 _ rfl) rfl ?_
  intro b4
  refine wpl_t0 (t_stA Tryd.ti162 rfl rfl zz22 (v32s_one _) zz22) ?_
  intro _
  refine wpl_nil <| ex_then <| wpc_seq <| wpc_seq <| wpc_region <| wpl_q (q_pure rfl) rfl ?_
  refine wpl_t (t_pur Tryd.hb102 rfl fun w' h => schedule bs hbs bb w' (h.at_oldL hb (by simpa using hne))) rfl ?_
  intro b16
  refine wpl_q (q_pure rfl) rfl <| wpl_nil <| ex_then <| wpc_block ?_
  refine wpc_loop (ι := { i : Nat // i ≤ 64 }) (fun i => [(17, .int .i64 (i.1 : Nat)), (16, .agg (v32s (wsF bs 64)).toArray), (4, .pointer (some ⟨b4, 0, none⟩)), (0, .pointer (some ⟨sb, 0, none⟩))]) (fun i => Mem w [sb] [.blk b4 162 (v32s (roundsF (wsF bs 64) st i.1)), .blk sb 162 (v32s st)] []) (fun i => 64 - i.1) ⟨0, zz14⟩ ?_ ?_ ?_
  · exact by repeat (first | exact trivial | refine ⟨rfl, ?_⟩)
  · exact fun w h => h
  · rintro ⟨i, hi⟩; dsimp only
    have hrl := roundsF_length (wsF bs 64) st hst i
    have hwl := wsF_length bs 64
    refine wpc_seq <| wpc_region <| wpl_q (q_pure rfl) rfl <| wpl_nil <| ex_then <| wpc_seq ?_
    refine wpc_cond rfl (fun hc18 => ?_) (fun hc18 => ?_)
    ·
      simp only [decide_eq_true_eq, decide_eq_false_iff_not, Bool.and_eq_true, Bool.or_eq_true, beq_iff_eq, bne_iff_ne, ne_eq] at hc18
      refine wpc_skip <| ex_then <| wpc_seq <| wpc_block <| wpc_seq <| wpc_region <| wpl_q (q_pure rfl) rfl ?_
      refine wpl_q (q_idxV Tryd.underlying173 Tryd.ti159 Tryd.underlying159 rfl rfl rfl zz14 zz14 (i) zz14 zz24) rfl ?_
      refine wpl_q (q_pure rfl) rfl <| wpl_q (q_pure rfl) rfl <| wpl_nil <| ex_then <| wpc_seq ?_
      refine wpc_draw 6 zz7 (fun _ h => h.drew) ?_
      refine wpd_p 0 rfl zz7 trivial (q_idxA Tryd.underlying162 Tryd.ti159 rfl rfl zz14 zz14 0 rfl) rfl sk0 ?_
      refine wpd_q 1 rfl zz7 trivial (q_ld Tryd.underlying159 rfl rfl zz24) rfl (fun _ h => h) ?_
      refine wpd_p 2 rfl zz7 trivial (q_idxA Tryd.underlying162 Tryd.ti159 rfl rfl zz14 zz14 4 rfl) rfl sk0 ?_
      refine wpd_q 3 rfl zz7 trivial (q_ld Tryd.underlying159 rfl rfl zz24) rfl (fun _ h => h) ?_
      refine wpd_p 4 rfl zz7 trivial (q_pure rfl) rfl sk0 ?_
      refine wpd_p 5 rfl zz7 trivial (q_pure rfl) rfl sk0 ?_
      refine wpd_done zz7 ?_
      refine ex_then <| wpc_seq ?_
      refine wpc_draw 29 zz7 (fun _ h => h.drew) ?_
      refine wpd_p 0 rfl zz7 trivial (q_idxA Tryd.underlying162 Tryd.ti159 rfl rfl zz14 zz14 7 rfl) rfl sk0 ?_
      refine wpd_q 1 rfl zz7 trivial (q_ld Tryd.underlying159 rfl rfl zz24) rfl (fun _ h => h) ?_
      refine wpd_p 2 rfl zz7 trivial (q_pure rfl) rfl sk0 ?_
      refine wpd_p 4 rfl zz7 trivial (q_pure rfl) rfl sk0 ?_
      refine wpd_p 7 rfl zz7 trivial (q_pure rfl) rfl sk0 ?_
      refine wpd_p 11 rfl zz7 trivial (q_pure rfl) rfl sk0 ?_
      refine wpd_p 12 rfl zz7 trivial (q_idxA Tryd.underlying162 Tryd.ti159 rfl rfl zz14 zz14 5 rfl) rfl sk0 ?_
      refine wpd_q 13 rfl zz7 trivial (q_ld Tryd.underlying159 rfl rfl zz24) rfl (fun _ h => h) ?_
      refine wpd_p 14 rfl zz7 trivial (q32_and rfl rfl) rfl sk0 ?_
      refine wpd_p 15 rfl zz7 trivial (q_pure rfl) rfl sk0 ?_
      refine wpd_p 16 rfl zz7 trivial (q32_not rfl) rfl sk0 ?_
      refine wpd_p 17 rfl zz7 trivial (q_idxA Tryd.underlying162 Tryd.ti159 rfl rfl zz14 zz14 6 rfl) rfl sk0 ?_
      refine wpd_q 18 rfl zz7 trivial (q_ld Tryd.underlying159 rfl rfl zz24) rfl (fun _ h => h) ?_
      refine wpd_p 19 rfl zz7 trivial (q32_and rfl rfl) rfl sk0 ?_
      refine wpd_p 20 rfl zz7 trivial (q32_xor rfl rfl) rfl sk0 ?_
      refine wpd_p 22 rfl zz7 trivial (q_pure rfl) rfl sk0 ?_
      refine wpd_p 23 rfl zz7 trivial (q_idxA Tryd.underlying173 Tryd.ti159 rfl rfl zz14 zz14 (i) zz14) rfl sk0 ?_
      refine wpd_q 24 rfl zz7 trivial (q_load1 Tryd.underlying159 rfl rfl (fun w h => h.cell_oldL (hro.at_ (v32s_get (by rw [rootsL_length]; omega))) (by simpa using h0))) rfl (fun _ h => h) ?_
      refine wpd_p 26 rfl zz7 trivial (q_pure rfl) rfl sk0 ?_
      refine wpd_t 3 rfl zz7 trivial (t_pur Tryd.hb103 rfl fun w h => turn _ _ zz20 zz20 _) rfl (fun _ => sk0) ?_
      intro b28
      refine wpd_t 5 rfl zz7 trivial (t_pur Tryd.hb103 rfl fun w h => turn _ _ zz20 zz20 _) rfl (fun _ => sk0) ?_
      intro b30
      refine wpd_p 6 rfl zz7 trivial (q32_xor rfl rfl) rfl sk0 ?_
      refine wpd_t 8 rfl zz7 trivial (t_pur Tryd.hb103 rfl fun w h => turn _ _ zz20 zz20 _) rfl (fun _ => sk0) ?_
      intro b33
      refine wpd_p 9 rfl zz7 trivial (q32_xor rfl rfl) rfl sk0 ?_
      refine wpd_p 10 rfl zz7 trivial (q32_add rfl rfl) rfl sk0 ?_
      refine wpd_p 21 rfl zz7 trivial (q32_add rfl rfl) rfl sk0 ?_
      refine wpd_p 25 rfl zz7 trivial (q32_add rfl rfl) rfl sk0 ?_
      refine wpd_p 27 rfl zz7 trivial (q32_add rfl rfl) rfl sk0 ?_
      refine wpd_p 28 rfl zz7 trivial (q_pure rfl) rfl sk0 ?_
      refine wpd_done zz7 ?_
      refine ex_then <| wpc_seq ?_
      refine wpc_draw 25 zz7 (fun _ h => h.drew) ?_
      refine wpd_p 0 rfl zz7 trivial (q_pure rfl) rfl sk0 ?_
      refine wpd_p 2 rfl zz7 trivial (q_pure rfl) rfl sk0 ?_
      refine wpd_p 5 rfl zz7 trivial (q_pure rfl) rfl sk0 ?_
      refine wpd_p 8 rfl zz7 trivial (q_pure rfl) rfl sk0 ?_
      refine wpd_p 9 rfl zz7 trivial (q_idxA Tryd.underlying162 Tryd.ti159 rfl rfl zz14 zz14 1 rfl) rfl sk0 ?_
      refine wpd_q 10 rfl zz7 trivial (q_ld Tryd.underlying159 rfl rfl zz24) rfl (fun _ h => h) ?_
      refine wpd_p 11 rfl zz7 trivial (q32_and rfl rfl) rfl sk0 ?_
      refine wpd_p 12 rfl zz7 trivial (q_pure rfl) rfl sk0 ?_
      refine wpd_p 13 rfl zz7 trivial (q_idxA Tryd.underlying162 Tryd.ti159 rfl rfl zz14 zz14 2 rfl) rfl sk0 ?_
      refine wpd_q 14 rfl zz7 trivial (q_ld Tryd.underlying159 rfl rfl zz24) rfl (fun _ h => h) ?_
      refine wpd_p 15 rfl zz7 trivial (q32_and rfl rfl) rfl sk0 ?_
      refine wpd_p 16 rfl zz7 trivial (q32_xor rfl rfl) rfl sk0 ?_
      refine wpd_p 17 rfl zz7 trivial (q_idxA Tryd.underlying162 Tryd.ti159 rfl rfl zz14 zz14 1 rfl) rfl sk0 ?_
      refine wpd_q 18 rfl zz7 trivial (q_ld Tryd.underlying159 rfl rfl zz24) rfl (fun _ h => h) ?_
      refine wpd_p 19 rfl zz7 trivial (q_idxA Tryd.underlying162 Tryd.ti159 rfl rfl zz14 zz14 2 rfl) rfl sk0 ?_
      refine wpd_q 20 rfl zz7 trivial (q_ld Tryd.underlying159 rfl rfl zz24) rfl (fun _ h => h) ?_
      refine wpd_p 21 rfl zz7 trivial (q32_and rfl rfl) rfl sk0 ?_
      refine wpd_p 22 rfl zz7 trivial (q32_xor rfl rfl) rfl sk0 ?_
      refine wpd_t 1 rfl zz7 trivial (t_pur Tryd.hb103 rfl fun w h => turn _ _ zz20 zz20 _) rfl (fun _ => sk0) ?_
      intro b54
      refine wpd_t 3 rfl zz7 trivial (t_pur Tryd.hb103 rfl fun w h => turn _ _ zz20 zz20 _) rfl (fun _ => sk0) ?_
      intro b56
      refine wpd_p 4 rfl zz7 trivial (q32_xor rfl rfl) rfl sk0 ?_
      refine wpd_t 6 rfl zz7 trivial (t_pur Tryd.hb103 rfl fun w h => turn _ _ zz20 zz20 _) rfl (fun _ => sk0) ?_
      intro b59
      refine wpd_p 7 rfl zz7 trivial (q32_xor rfl rfl) rfl sk0 ?_
      refine wpd_p 23 rfl zz7 trivial (q32_add rfl rfl) rfl sk0 ?_
      refine wpd_p 24 rfl zz7 trivial (q_pure rfl) rfl sk0 ?_
      refine wpd_done zz7 ?_
      refine ex_then <| wpc_region <| wpl_q (q_pure rfl) rfl <| wpl_q (q_pure rfl) rfl <| wpl_q (q32_add rfl rfl) rfl <| wpl_q (q_pure rfl) rfl ?_
      refine wpl_q (q_idxA Tryd.underlying162 Tryd.ti159 rfl rfl zz14 zz14 1 rfl) rfl ?_
      refine wpl_q (q_ld Tryd.underlying159 rfl rfl zz24) rfl ?_
      refine wpl_q (q_idxA Tryd.underlying162 Tryd.ti159 rfl rfl zz14 zz14 2 rfl) rfl ?_
      refine wpl_q (q_ld Tryd.underlying159 rfl rfl zz24) rfl ?_
      refine wpl_q (q_idxA Tryd.underlying162 Tryd.ti159 rfl rfl zz14 zz14 3 rfl) rfl ?_
      refine wpl_q (q_ld Tryd.underlying159 rfl rfl zz24) rfl ?_
      refine wpl_q (q_pure rfl) rfl <| wpl_q (q32_add rfl rfl) rfl <| wpl_q (q_pure rfl) rfl ?_
      refine wpl_q (q_idxA Tryd.underlying162 Tryd.ti159 rfl rfl zz14 zz14 5 rfl) rfl ?_
      refine wpl_q (q_ld Tryd.underlying159 rfl rfl zz24) rfl ?_
      refine wpl_q (q_idxA Tryd.underlying162 Tryd.ti159 rfl rfl zz14 zz14 6 rfl) rfl ?_
      refine wpl_q (q_ld Tryd.underlying159 rfl rfl zz24) rfl ?_
      refine wpl_q (q_buildFull (v32s (roundF (rootsL.getD i 0) ((wsF bs 64).getD i 0) (roundsF (wsF bs 64) st i))) Tryd.underlying162 Tryd.ti162 Tryd.ti159 rfl rfl (v32s_one _) rfl) rfl ?_
      refine wpl_t0 (t_stA Tryd.ti162 rfl rfl (v32s_length _) (v32s_one _) ((v32s_length _).trans hrl)) ?_
      intro _
      refine wpl_nil <| ex_block <| ex_then <| wpc_region ?_
      first | refine wpl_q (qop_eq (q_pure rfl) (congrArg (Value.int .i64) (wk_i64 zz14 zz14))) rfl ?_ | refine wpl_q (q_pure rfl) rfl ?_
      refine wpl_q (q_pure rfl) rfl <| wpl_nil ?_
      refine ex_again ⟨i + 1, zz14⟩ ?_ ?_ ?_
      · exact zz9
      · exact fun w h => h
      · show 64 - (i + 1) < 64 - i; omega
    ·
      simp only [decide_eq_false_iff_not] at hc18
      obtain rfl : i = 64 := by omega
      have hrl := roundsF_length (wsF bs 64) st hst 64
      refine wpc_exit ?_
      refine ex_then_exit ?_
      refine ex_then_exit ?_
      refine ex_block_hit ?_
      refine ex_then <| wpc_seq <| wpc_region <| wpl_q (q_pure rfl) rfl <| wpl_nil <| ex_then <| wpc_block ?_
      refine wpc_loop (ι := { j : Nat // j ≤ 8 }) (fun i => [(96, .int .i64 (i.1 : Nat)), (4, .pointer (some ⟨b4, 0, none⟩)), (0, .pointer (some ⟨sb, 0, none⟩))]) (fun j => Mem w [sb] [.blk b4 162 (v32s (roundsF (wsF bs 64) st 64)), .blk sb 162 (v32s (sumN st (roundsF (wsF bs 64) st 64) j.1))] []) (fun j => 8 - j.1) ⟨0, zz14⟩ ?_ ?_ ?_
      · exact by repeat (first | exact trivial | refine ⟨rfl, ?_⟩)
      · exact fun w h => h
      · rintro ⟨j, hj⟩; dsimp only
        have hsl := (sumN_length st (roundsF (wsF bs 64) st 64) j).trans hst
        refine wpc_seq <| wpc_region <| wpl_q (q_pure rfl) rfl <| wpl_nil <| ex_then <| wpc_seq ?_
        refine wpc_cond rfl (fun hc97 => ?_) (fun hc97 => ?_)
        ·
          simp only [decide_eq_true_eq, decide_eq_false_iff_not, Bool.and_eq_true, Bool.or_eq_true, beq_iff_eq, bne_iff_ne, ne_eq] at hc97
          refine wpc_skip <| ex_then <| wpc_seq <| wpc_block <| wpc_seq <| wpc_region <| wpl_q (q_pure rfl) rfl <| wpl_q (q_pure rfl) rfl <| wpl_nil <| ex_then ?_
          refine wpc_draw 11 zz7 (fun _ h => h.drew) ?_
          refine wpd_p 0 rfl zz7 trivial (q_pure rfl) rfl sk0 ?_
          refine wpd_p 1 rfl zz7 trivial (q_pure rfl) rfl sk0 ?_
          refine wpd_p 2 rfl zz7 trivial (q_pure rfl) rfl sk0 ?_
          refine wpd_p 3 rfl zz7 trivial (q_idxA Tryd.underlying162 Tryd.ti159 rfl rfl zz14 zz14 (j) zz14) rfl sk0 ?_
          refine wpd_q 4 rfl zz7 trivial (q_ld Tryd.underlying159 rfl rfl zz24) rfl (fun _ h => h) ?_
          refine wpd_p 5 rfl zz7 trivial (q_pure rfl) rfl sk0 ?_
          refine wpd_p 6 rfl zz7 trivial (q_idxA Tryd.underlying162 Tryd.ti159 rfl rfl zz14 zz14 (j) zz14) rfl sk0 ?_
          refine wpd_q 7 rfl zz7 trivial (q_ld Tryd.underlying159 rfl rfl zz24) rfl (fun _ h => h) ?_
          refine wpd_p 8 rfl zz7 trivial (q32_add rfl rfl) rfl sk0 ?_
          refine wpd_p 9 rfl zz7 trivial (q_pure rfl) rfl sk0 ?_
          refine wpd_p 10 rfl zz7 trivial (q_idxA Tryd.underlying162 Tryd.ti159 rfl rfl zz14 zz14 (j) zz14) rfl sk0 ?_
          refine wpd_t0 11 rfl zz7 trivial (t_st1 Tryd.ti159 rfl rfl rfl zz36 _ (by first | exact v32s_set _ | rfl)) (fun _ => skk rfl) ?_
          intro _
          refine wpd_done zz7 ?_
          refine ex_block <| ex_then <| wpc_region ?_
          first | refine wpl_q (qop_eq (q_pure rfl) (congrArg (Value.int .i64) (wk_i64 zz14 zz14))) rfl ?_ | refine wpl_q (q_pure rfl) rfl ?_
          refine wpl_q (q_pure rfl) rfl <| wpl_nil ?_
          refine ex_again ⟨j + 1, zz14⟩ ?_ ?_ ?_
          · exact zz9
          · exact fun w h => h
          · show 8 - (j + 1) < 8 - j; omega
        ·
          simp only [decide_eq_true_eq, decide_eq_false_iff_not, Bool.and_eq_true, Bool.or_eq_true, beq_iff_eq, bne_iff_ne, ne_eq] at hc97
          refine wpc_exit ?_
          refine ex_then_exit ?_
          refine ex_then_exit ?_
          refine ex_block_hit ?_
          refine ret0 (.inr rfl) rfl ?_
          obtain rfl : j = 8 := by omega
          exact fun w h => ⟨(), rfl, h.sub (.drop (Sub.refl _)) .nil⟩
end Go.Proofs.YtgnablliekgbgaaDoor
namespace Go.Proofs.YtgnablliekgbgaaDoor
open Go Go.PL Go.RowKit
def chunksF (c : List UInt8) : List (List UInt8) := (List.range (c.length / 64)).map fun i => (c.drop (64 * i)).take 64
def bufF (c : List UInt8) : List UInt8 := c.drop (64 * (c.length / 64)) ++ List.replicate (64 - c.length % 64) 0
theorem bufF_length (c : List UInt8) : (bufF c).length = 64 := by
  simp only [bufF, List.length_append, List.length_drop, List.length_replicate]
  omega
theorem bufF_zero (c : List UInt8) (h : c.length % 64 = 0) : bufF c = List.replicate 64 0 := by
  unfold bufF
  rw [h, List.drop_of_length_le zz14]; rfl
theorem buf_take (c : List UInt8) : (bufF c).take (c.length % 64) = c.drop (64 * (c.length / 64)) := by
  unfold bufF
  rw [List.take_append_of_le_length zz39]
  exact List.take_of_length_le zz39
theorem buf_drop (c : List UInt8) (k : Nat) : (bufF c).drop (c.length % 64 + k) = List.replicate (64 - (c.length % 64 + k)) 0 := by
  unfold bufF
  have e : (c.drop (64 * (c.length / 64))).length = c.length % 64 := by rw [List.length_drop]; omega
  rw [List.drop_append, e, show c.length % 64 + k - c.length % 64 = k from zz14, List.drop_of_length_le zz14, List.nil_append, List.drop_replicate]
  congr 1; omega
theorem put_part (c x : List UInt8) (h : c.length % 64 + x.length < 64) : chunksF (c ++ x) = chunksF c ∧ (bufF c).take (c.length % 64) ++ x ++ (bufF c).drop (c.length % 64 + x.length) = bufF (c ++ x) := by
  have hq : (c ++ x).length / 64 = c.length / 64 := by rw [List.length_append]; omega
  have hm : (c ++ x).length % 64 = c.length % 64 + x.length := by rw [List.length_append]; omega
  constructor
  · unfold chunksF
    rw [hq]
    apply List.map_congr_left
    intro i hi
    have hi' := List.mem_range.1 hi
    rw [List.drop_append_of_le_length zz14, List.take_append_of_le_length zz39]
  · rw [buf_take, buf_drop]
    unfold bufF
    rw [hq, hm, List.drop_append_of_le_length zz14]
theorem put_full (c x : List UInt8) (h : c.length % 64 + x.length = 64) : chunksF (c ++ x) = chunksF c ++ [(bufF c).take (c.length % 64) ++ x ++ (bufF c).drop (c.length % 64 + x.length)] ∧ (c ++ x).length % 64 = 0 := by
  have hq : (c ++ x).length / 64 = c.length / 64 + 1 := by rw [List.length_append]; omega
  have hm : (c ++ x).length % 64 = 0 := by rw [List.length_append]; omega
  refine ⟨?_, hm⟩
  unfold chunksF
  rw [hq, List.range_succ, List.map_append, buf_take, buf_drop]
  congr 1
  · apply List.map_congr_left
    intro i hi
    have hi' := List.mem_range.1 hi
    rw [List.drop_append_of_le_length zz14, List.take_append_of_le_length zz39]
  · simp only [List.map_cons, List.map_nil]
    rw [List.drop_append_of_le_length zz14, List.take_of_length_le (by rw [List.length_append, List.length_drop]; omega), h]
    simp
abbrev Jt := List Nat → List (List UInt8) → World → Prop
structure PutInv (J : Jt) (T : List Nat) (c p : List UInt8) (p0 : Value) (b nb y l : Nat) (wS : World) (j : Nat) (v : Value) (wb : World) : Prop where
  le : j ≤ p.length
  J : J T (chunksF (c ++ p.take j)) wb
  v : ∀ r, Seen r p0 p.length 1 (v8s p) → Seen r v (p.length - j) 1 (v8s (p.drop j))
  seen : Seen wb.cell? p0 p.length 1 (v8s p)
  yv : wb.heap[y]? = some (.cells #[.func (.yield l) #[] #[]] 168 (0, 0))
  keep : ∀ k, k ∈ T → k ≠ b → k ≠ nb → wb.heap[k]? = wS.heap[k]?
  size : wS.heap.size ≤ wb.heap.size
def PutPost (J : Jt) (T : List Nat) (c : List UInt8) (b nb : Nat) (wS : World) (e : Ending) (w : World) : Prop :=
  e = .returned (.tuple #[]) ∧ J T (chunksF c) w ∧ w.heap[b]? = some (.cells (v8s (bufF c)).toArray 170 (0, 0)) ∧ w.heap[nb]? = some (.cells #[.int .i64 ((c.length % 64 : Nat) : Int)] 3 (0, 0)) ∧
    (∀ k, k ∈ T → k ≠ b → k ≠ nb → w.heap[k]? = wS.heap[k]?) ∧ wS.heap.size ≤ w.heap.size
instance nop_put {P : Program} {fn : Func} {J : Jt} {T : List Nat} {c : List UInt8} {b nb : Nat} {wS : World} : NoP (bodyPost P fn (PutPost J T c b nb wS)) := nop_post fun c w' h => by cases h.1
def putM (c : List UInt8) (b nb : Nat) : List Ent := [.blk b 170 (v8s (bufF c)), .blk nb 3 [.int .i64 ((c.length % 64 : Nat) : Int)]]
section
variable (J : Jt) (T : List Nat) (c p : List UInt8) (p0 : Value) (b nb y l : Nat) (wS : World)
theorem slice_v {j q : Nat} {a : Option Addr} {cap : Nat} (hv : ∀ r, Seen r p0 p.length 1 (v8s p) → Seen r (.slice a (p.length - j) cap) (p.length - j) 1 (v8s (p.drop j))) (hj : j + q ≤ p.length) :
    ∀ r, Seen r p0 p.length 1 (v8s p) → Seen r (sliced a q (p.length - j) cap 1) (p.length - (j + q)) 1 (v8s (p.drop (j + q))) := fun r hr => by
  have h1 := (hv r hr).slice q (p.length - j) zz14 (Nat.le_refl _)
  have e1 : (p.length - j - q) = p.length - (j + q) := by omega
  have e2 : ((v8s (p.drop j)).drop (q * 1)).take ((p.length - j - q) * 1) = v8s (p.drop (j + q)) := by
    rw [Nat.mul_one, Nat.mul_one, v8s_drop, v8s_take, List.drop_drop, List.take_of_length_le zz39]
  rw [e2] at h1
  rw [← e1]
  exact h1
theorem PutInv.step {j q : Nat} {a : Option Addr} {cap : Nat} {wb : World} (h : PutInv J T c p p0 b nb y l wS j (.slice a (p.length - j) cap) wb) (hj : j + q ≤ p.length) (hJ : J T (chunksF (c ++ p.take (j + q))) wb) :
    PutInv J T c p p0 b nb y l wS (j + q) (sliced a q (p.length - j) cap 1) wb := ⟨hj, hJ, slice_v p p0 h.v hj, h.seen, h.yv, h.keep, h.size⟩
theorem take_plus (j q : Nat) : p.take (j + q) = p.take j ++ (p.drop j).take q := List.take_add ..
end
theorem cell_of_heap {w : World} {y : Nat} {cs : Array Value} {t : TypeId} (h : w.heap[y]? = some (.cells cs t (0, 0))) {off : Nat} {v : Value} (hv : cs[off]? = some v) : w.cell? ⟨y, off, none⟩ = some v := by simp [World.cell?, h, hv]
theorem chunks_prefix (c x : List UInt8) : chunksF c <+: chunksF (c ++ x) := by
  have hle : c.length / 64 ≤ (c ++ x).length / 64 := Nat.div_le_div_right zz41
  have e : chunksF c = (chunksF (c ++ x)).take (c.length / 64) := by
    unfold chunksF
    rw [← List.map_take, List.take_range, Nat.min_eq_left hle]
    apply List.map_congr_left
    intro i hi
    have hi' := List.mem_range.1 hi
    rw [List.drop_append_of_le_length zz14, List.take_append_of_le_length zz39]
  rw [e]; exact List.take_prefix ..
section
variable (J : Jt) (T : List Nat) (c p : List UInt8) (p0 : Value) (b nb y l : Nat) (wS : World) (ALL : List (List UInt8))
def YieldOk (P : Program) (J : Jt) (T : List Nat) (b l : Nat) (ALL : List (List UInt8)) : Prop :=
  ∀ pre x w1, J T pre w1 → (pre ++ [x]) <+: ALL → w1.heap[b]? = some (.cells (v8s x).toArray 170 (0, 0)) → YieldAt Fence.wide 0 P l #[.pointer (some ⟨b, 0, none⟩)] w1 fun e w' =>
    e = .returned (.bool true) ∧ J T (pre ++ [x]) w' ∧ w1.heap.size ≤ w'.heap.size ∧ ∀ k, k ∈ T → w'.heap[k]? = w1.heap[k]?
theorem put_yield (hst : ∀ pre w1 w2, J T pre w1 → Mem w1 T [] [] w2 → (∀ k, k ∈ T → k < w2.heap.size) → J T pre w2) (hyl : YieldOk Tryd.prog J T b l ALL)
    (hp : ∀ pre (w1 w2 : World), Seen w1.cell? p0 p.length 1 (v8s p) → J T pre w2 → (∀ k, k ∈ T → w2.heap[k]? = w1.heap[k]?) → Seen w2.cell? p0 p.length 1 (v8s p)) (hpre : chunksF (c ++ p) <+: ALL) (hTl : ∀ k, k ∈ T → k < wS.heap.size)
    (hpb : ∀ k, p0.ownBlock = some k → v8s p ≠ [] → k ≠ b ∧ k ≠ nb) (hbT : b ∈ T) (hnT : nb ∈ T) (hyT : y ∈ T) (hbn : b ≠ nb) (hby : b ≠ y) (hny : nb ≠ y)
    {j q : Nat} {a : Option Addr} {cap : Nat} {wb w : World} {full : List UInt8} {n' : Int} (hI : PutInv J T c p p0 b nb y l wS j (.slice a (p.length - j) cap) wb) (hjq : j + q ≤ p.length) (e1 : chunksF (c ++ p.take (j + q)) = chunksF (c ++ p.take j) ++ [full])
    (h : Mem wb [b, nb] [.blk b 170 (v8s full), .blk nb 3 [.int .i64 n']] [] w) :
    YieldAt Fence.wide 0 Tryd.prog l #[.pointer (some ⟨b, 0, none⟩)] w fun e w' => ∃ u : { u : World // PutInv J T c p p0 b nb y l wS (j + q) (sliced a q (p.length - j) cap 1) u }, e = .returned (.bool true) ∧ Mem u.1 [b, nb] [.blk b 170 (v8s full), .blk nb 3 [.int .i64 n']] [] w' := by
  have hb1 : w.heap[b]? = some (.cells (v8s full).toArray 170 (0, 0)) := h.own _ (List.mem_cons_self ..)
  have hb2 : w.heap[nb]? = some (.cells #[.int .i64 n'] 3 (0, 0)) := h.own (.blk nb 3 [.int .i64 n']) zz41
  have hm0 : Mem wb T [] [] w := (h.sub .nil .nil).lend (by intro k hk; simp at hk; rcases hk with rfl | rfl <;> assumption)
  have hJ := hst _ _ _ hI.J hm0 (fun k hk => Nat.lt_of_lt_of_le (hTl k hk) (Nat.le_trans hI.size h.size))
  have hpx : chunksF (c ++ p.take j) ++ [full] <+: ALL := by
    rw [← e1]
    refine List.IsPrefix.trans ?_ hpre
    have := chunks_prefix (c ++ p.take (j + q)) (p.drop (j + q))
    rwa [List.append_assoc, List.take_append_drop] at this
  obtain ⟨fn, tmps, assign, body, hrun, hround⟩ := hyl _ _ _ hJ hpx hb1
  refine ⟨fn, tmps, assign, body, hrun, hround.mono ?_⟩
  rintro e w' ⟨rfl, hJ', hsz, hT⟩
  have hseen := hp _ w w' (h.at2 hI.seen hpb) hJ' hT
  have hyw : w'.heap[y]? = some (.cells #[.func (.yield l) #[] #[]] 168 (0, 0)) := by
    rw [hT y hyT, h.old y (Array.getElem?_eq_some_iff.1 hI.yv).1 (by simp; exact ⟨fun e => hby e.symm, fun e => hny e.symm⟩)]; exact hI.yv
  refine ⟨⟨w', hjq, by rw [e1]; exact hJ', slice_v p p0 hI.v hjq, hseen, hyw, fun k hk h1 h2 => ?_, Nat.le_trans hI.size (Nat.le_trans h.size hsz)⟩, rfl, ?_⟩
  · rw [hT k hk, h.old k (Nat.lt_of_lt_of_le (hTl k hk) hI.size) (by simp; exact ⟨h1, h2⟩)]; exact hI.keep k hk h1 h2
  · exact Mem.startL (Ms := [.blk b 170 (v8s full), .blk nb 3 [.int .i64 n']]) w' (by
      intro e he
      simp at he
      rcases he with rfl | rfl
      · exact (hT b hbT).trans hb1
      · exact (hT nb hnT).trans hb2) (by simp [Ent.num]; exact fun e => hbn e.symm)
theorem put_fin (hst : ∀ pre w1 w2, J T pre w1 → Mem w1 T [] [] w2 → (∀ k, k ∈ T → k < w2.heap.size) → J T pre w2) (hTl : ∀ k, k ∈ T → k < wS.heap.size) (hbT : b ∈ T) (hnT : nb ∈ T) {v : Value} {wb w : World} (hI : PutInv J T c p p0 b nb y l wS p.length v wb)
    (h : Mem wb [b, nb] (putM (c ++ p.take p.length) b nb) [] w) : PutPost J T (c ++ p) b nb wS (.returned (.tuple #[])) w := by
  rw [List.take_length] at h
  have hm0 : Mem wb T [] [] w := (h.sub .nil .nil).lend (by intro k hk; simp at hk; rcases hk with rfl | rfl <;> assumption)
  have hJ := hst _ _ _ hI.J hm0 (fun k hk => Nat.lt_of_lt_of_le (hTl k hk) (Nat.le_trans hI.size h.size))
  rw [List.take_length] at hJ
  refine ⟨rfl, hJ, h.own _ (List.mem_cons_self ..), h.own _ (List.mem_cons_of_mem _ (List.mem_cons_self ..)), fun k hk h1 h2 => ?_, Nat.le_trans hI.size h.size⟩
  rw [h.old k (Nat.lt_of_lt_of_le (hTl k hk) hI.size) (by simp; exact ⟨h1, h2⟩)]; exact hI.keep k hk h1 h2
end
end Go.Proofs.YtgnablliekgbgaaDoor
namespace Go.Proofs.YtgnablliekgbgaaDoor
open Go Go.PL Go.RowKit
theorem putMm (J : Jt) (T : List Nat) (c p : List UInt8) (p0 : Value) (b nb y l : Nat) (wS : World) (ALL : List (List UInt8)) (hst : ∀ pre w1 w2, J T pre w1 → Mem w1 T [] [] w2 → (∀ k, k ∈ T → k < w2.heap.size) → J T pre w2) (hyl : YieldOk Tryd.prog J T b l ALL)
    (hp : ∀ pre (w1 w2 : World), Seen w1.cell? p0 p.length 1 (v8s p) → J T pre w2 → (∀ k, k ∈ T → w2.heap[k]? = w1.heap[k]?) → Seen w2.cell? p0 p.length 1 (v8s p)) (hpre : chunksF (c ++ p) <+: ALL) (hTl : ∀ k, k ∈ T → k < wS.heap.size)
    (hpb : ∀ k, p0.ownBlock = some k → v8s p ≠ [] → k ≠ b ∧ k ≠ nb) (hbT : b ∈ T) (hnT : nb ∈ T) (hyT : y ∈ T) (hbn : b ≠ nb) (hby : b ≠ y) (hny : nb ≠ y)
    (hJ : J T (chunksF c) wS) (hs : Seen wS.cell? p0 p.length 1 (v8s p)) (hb : wS.heap[b]? = some (.cells (v8s (bufF c)).toArray 170 (0, 0))) (hn : wS.heap[nb]? = some (.cells #[.int .i64 ((c.length % 64 : Nat) : Int)] 3 (0, 0))) (hyv : wS.heap[y]? = some (.cells #[.func (.yield l) #[] #[]] 168 (0, 0))) :
    Calls Tryd.prog 101 [p0, .pointer (some ⟨b, 0, none⟩), .pointer (some ⟨nb, 0, none⟩), .pointer (some ⟨y, 0, none⟩)].toArray wS (PutPost J T (c ++ p) b nb wS) := by
  have hI0 : PutInv J T c p p0 b nb y l wS 0 p0 wS := ⟨Nat.zero_le _, by simpa using hJ, fun r h => by simpa using h, hs, hyv, fun _ _ _ _ => rfl, Nat.le_refl _⟩
  have hyb : (⟨y, 0, none⟩ : Addr).block ∉ [b, nb] := by simp; exact ⟨fun e => hby e.symm, fun e => hny e.symm⟩
  refine enter (m := 24) (R := Mem wS [b, nb] (putM c b nb) []) Tryd.func101 rfl rfl (Nat.le_of_ble_eq_true rfl) (Mem.startL (Ms := putM c b nb) wS (by
    intro e he
    simp [putM] at he
    rcases he with rfl | rfl
    · exact hb
    · exact hn) (by simp [putM, Ent.num]; exact fun e => hbn e.symm)) ?_
  refine wpc_block ?_
  refine wpc_loop (ι := { x : Nat × Value × World // PutInv J T c p p0 b nb y l wS x.1 x.2.1 x.2.2 }) (fun x => [(0, x.1.2.1), (1, .pointer (some ⟨b, 0, none⟩)), (2, .pointer (some ⟨nb, 0, none⟩)), (3, .pointer (some ⟨y, 0, none⟩))]) (fun x => Mem x.1.2.2 [b, nb] (putM (c ++ p.take x.1.1) b nb) []) (fun x => p.length - x.1.1) ⟨(0, p0, wS), hI0⟩ ?_ ?_ ?_
  · exact by repeat (first | exact trivial | refine ⟨rfl, ?_⟩)
  · exact fun w h => by have e : c ++ p.take 0 = c := by simp
                        rw [e]; exact h
  · rintro ⟨⟨j, v, wb⟩, hI⟩; dsimp only
    have hI : PutInv J T c p p0 b nb y l wS j v wb := hI
    obtain ⟨a, cap, rfl, hc1, hc2, hc3⟩ := (hI.v _ hI.seen).form
    have hjl := hI.le
    have hbl := bufF_length (c ++ p.take j)
    have hnl : (c ++ p.take j).length % 64 < 64 := Nat.mod_lt _ zz20
    simp only [putM]
    refine wpc_seq <| wpc_seq <| wpc_region <| wpl_q (q_pure rfl) rfl <| wpl_q (q_len Tryd.underlying34 rfl) rfl <| wpl_q (q_pure rfl) rfl <| wpl_nil <| ex_then ?_
    refine wpc_cond rfl (fun hc8 => ?_) (fun hc8 => ?_)
    ·
      simp only [decide_eq_true_eq] at hc8
      obtain ⟨q, hq⟩ : ∃ q, min (p.length - j) (64 - (c ++ p.take j).length % 64) = q := ⟨_, rfl⟩
      have hql : ((p.drop j).take q).length = q := by rw [List.length_take, List.length_drop]; omega
      have eT : c ++ p.take (j + q) = (c ++ p.take j) ++ (p.drop j).take q := by rw [take_plus, List.append_assoc]
      have hfl : ((bufF (c ++ p.take j)).take ((c ++ p.take j).length % 64) ++ (p.drop j).take q ++ (bufF (c ++ p.take j)).drop ((c ++ p.take j).length % 64 + q)).length = 64 := by rw [List.length_append, List.length_append, List.length_take, List.length_drop, hbl, hql]; omega
      refine wpc_skip <| ex_then <| wpc_block <| wpc_seq <| wpc_region <| wpl_q (q_ld Tryd.underlying3 rfl rfl rfl) rfl ?_
      refine wpl_q (qop_eq (q_ar_l Tryd.underlying170 Tryd.ti5 rfl rfl zz14 zz14 ((c ++ p.take j).length % 64) zz14) (slicedAt_lt _ _ _ _ hnl)) rfl ?_
      refine wpl_q (q_pure rfl) rfl ?_
      refine wpl_t (t_copy Tryd.underlying34 Tryd.ti5 rfl rfl (fun w h => hI.v _ (h.at2 hI.seen hpb)) (v8s_one _) (by rw [v8s_length]; omega) q hq (v8s ((bufF (c ++ p.take j)).take ((c ++ p.take j).length % 64) ++ (p.drop j).take q ++ (bufF (c ++ p.take j)).drop ((c ++ p.take j).length % 64 + q))) (by rw [v8s_take, v8s_take, v8s_drop, ← v8s_append, ← v8s_append])) rfl ?_
      intro b12
      refine wpl_q (q_pure rfl) rfl <| wpl_nil <| ex_then <| wpc_seq ?_
      refine wpc_draw 7 zz7 (fun _ h => h.drew) ?_
      refine wpd_p 0 rfl zz7 trivial (q_pure rfl) rfl sk0 ?_
      refine wpd_p 1 rfl zz7 trivial (q_pure rfl) rfl sk0 ?_
      refine wpd_p 2 rfl zz7 trivial (q_sl_l Tryd.underlying34 Tryd.ti5 rfl rfl zz14 zz14 q zz14) rfl sk0 ?_
      refine wpd_q 3 rfl zz7 trivial (q_ld Tryd.underlying3 rfl rfl rfl) rfl (fun _ h => h) ?_
      refine wpd_p 4 rfl zz7 trivial (q_pure rfl) rfl sk0 ?_
      first | refine wpd_p 5 rfl zz7 trivial (qop_eq (q_pure rfl) (congrArg (Value.int .i64) (wk_i64 zz14 zz14))) rfl sk0 ?_ | refine wpd_p 5 rfl zz7 trivial (q_pure rfl) rfl sk0 ?_
      refine wpd_p 6 rfl zz7 trivial (q_pure rfl) rfl sk0 ?_
      refine wpd_t0 7 rfl zz7 trivial (t_st1 Tryd.ti3 rfl rfl rfl Nat.zero_lt_one _ rfl) (fun _ => skk rfl) ?_
      intro _
      refine wpd_done zz7 ?_
      refine ex_then <| wpc_seq <| wpc_region <| wpl_q (q_ld Tryd.underlying3 rfl rfl rfl) rfl <| wpl_q (q_pure rfl) rfl <| wpl_nil <| ex_then ?_
      refine wpc_cond rfl (fun hc20 => ?_) (fun hc20 => ?_)
      ·
        have hjq : j + q ≤ p.length := by omega
        simp only [beq_iff_eq, decide_eq_true_eq] at hc20
        have hfull : (c ++ p.take j).length % 64 + q = 64 := by omega
        obtain ⟨e1, e2⟩ := put_full (c ++ p.take j) ((p.drop j).take q) (by rw [hql]; exact hfull)
        rw [hql] at e1
        rw [← eT] at e1 e2
        refine wpc_seq ?_
        refine wpc_region_y ?_
        refine wpli_q open_wide (q_load1 Tryd.underlying168 rfl rfl (fun w h => h.cell_oldL (cell_of_heap hI.yv rfl) hyb)) rfl ?_
        refine wpli_yield (l := l) (ι := { u : World // PutInv J T c p p0 b nb y l wS (j + q) (sliced a q (p.length - j) cap 1) u }) (V := fun _ => .bool true) (R' := fun u => Mem u.1 [b, nb] [.blk b 170 (v8s ((bufF (c ++ p.take j)).take ((c ++ p.take j).length % 64) ++ (p.drop j).take q ++ (bufF (c ++ p.take j)).drop ((c ++ p.take j).length % 64 + q))), .blk nb 3 [.int .i64 (((c ++ p.take j).length % 64 : Nat) + (q : Nat) : Int)]] []) rfl rfl ?_ rfl fun u => ?_
        · exact fun w h => put_yield J T c p p0 b nb y l wS ALL hst hyl hp hpre hTl hpb hbT hnT hyT hbn hby hny hI hjq e1 h
        refine wpli_nil ?_
        obtain ⟨wb2, HI⟩ := u
        refine ex_then <| wpc_region ?_
        refine wpl_q (q_build (cs := v8s (List.replicate 64 0)) (vs := []) rfl (built_array Tryd.underlying170 Tryd.ti170 Tryd.ti5 rfl)) rfl ?_
        refine wpl_t0 (t_stA Tryd.ti170 rfl rfl rfl (v8s_one _) (by rw [v8s_length]; exact hfl)) ?_
        intro _
        refine wpl_t0 (t_st1 Tryd.ti3 rfl rfl rfl Nat.zero_lt_one _ rfl) ?_
        intro _
        refine wpl_nil <| ex_block ?_
        refine ex_again ⟨(j + q, _, _), HI⟩ ?_ ?_ ?_
        · exact zz9
        · exact fun w h => by
            first
            | (show Mem _ _ (putM (c ++ p.take (j + q)) b nb) _ _
               rw [putM, bufF_zero _ e2, e2]; exact h)
            | (show Mem _ _ (putM (c ++ p.take (j + q)) b nb) _ _
               rw [putM, ← e2, show (((c ++ p.take (j + q)).length % 64 : Nat) : Int) = ((c ++ p.take j).length % 64 : Nat) + (q : Nat) by rw [take_plus, ← List.append_assoc, List.length_append, hql]; omega]; exact h)
        · show p.length - (j + q) < p.length - j; omega
      ·
        simp only [beq_eq_false_iff_ne, decide_eq_false_iff_not, ne_eq] at hc20
        obtain ⟨e1, e2⟩ := put_part (c ++ p.take j) ((p.drop j).take q) (by rw [hql]; omega)
        rw [hql] at e2
        rw [← eT] at e1 e2
        have HI := PutInv.step J T c p p0 b nb y l wS hI (q := q) zz14 (by rw [e1]; exact hI.J)
        refine wpc_skip <| ex_block ?_
        refine ex_again ⟨(j + q, _, _), HI⟩ ?_ ?_ ?_
        · exact zz9
        · exact fun w h => by
            first
            | (show Mem _ _ (putM (c ++ p.take (j + q)) b nb) _ _
               rw [putM, bufF_zero _ e2, e2]; exact h)
            | (show Mem _ _ (putM (c ++ p.take (j + q)) b nb) _ _
               rw [putM, ← e2, show (((c ++ p.take (j + q)).length % 64 : Nat) : Int) = ((c ++ p.take j).length % 64 : Nat) + (q : Nat) by rw [take_plus, ← List.append_assoc, List.length_append, hql]; omega]; exact h)
        · show p.length - (j + q) < p.length - j; omega
    ·
      simp only [decide_eq_false_iff_not] at hc8
      obtain rfl : j = p.length := by omega
      refine wpc_exit ?_
      refine ex_then_exit ?_
      refine ex_then_exit ?_
      refine ex_block_hit ?_
      refine ret0 (.inr rfl) rfl ?_
      exact fun w h => put_fin J T c p p0 b nb y l wS hst hTl hbT hnT hI h
end Go.Proofs.YtgnablliekgbgaaDoor
namespace Go.Proofs.YtgnablliekgbgaaDoor
open Go Go.PL Go.RowKit
def setLen (buf : List UInt8) (x : UInt64) : Nat → List UInt8
  | 0 => buf
  | i + 1 => (setLen buf x i).set (56 + i) (of8 (sr64 x (56 - 8 * i)).toNat)
theorem setLen_length (buf : List UInt8) (x : UInt64) : ∀ i, (setLen buf x i).length = buf.length
  | 0 => rfl
  | i + 1 => by simp [setLen, setLen_length buf x i]
def cF (a : List UInt8) : List UInt8 := if (a ++ [128]).length % 64 > 56 then (a ++ [128]) ++ List.replicate (64 - (a ++ [128]).length % 64) 0 else a ++ [128]
def lenN (ps : List (List UInt8)) : Nat → UInt64
  | 0 => 0
  | i + 1 => lenN ps i + of64 (ps.getD i []).length
def blocksF (ps : List (List UInt8)) : List (List UInt8) := chunksF (cF ps.flatten) ++ [setLen (bufF (cF ps.flatten)) (lenN ps ps.length * 8) 8]
def Parts (r : Rd) (v : Value) (ps : List (Value × List UInt8)) : Prop := Seen r v ps.length 1 (ps.map Prod.fst) ∧ ∀ q ∈ ps, Seen r q.1 q.2.length 1 (v8s q.2)
def encBMm (_ : List UInt8) (b : Nat) : Array Value := #[.pointer (some ⟨b, 0, none⟩)]
def AtB (T : List Nat) (x : List UInt8) (b : Nat) (w : World) : Prop := b ∈ T ∧ w.heap[b]? = some (.cells (v8s x).toArray 170 (0, 0))
def InvB (pb : Nat) (v : Value) (ps : List (Value × List UInt8)) (w : World) : Prop := w.heap[pb]? = some (.cells #[v] 160 (0, 0)) ∧ Parts w.cell? v ps
def blkM (l : Nat) (c : List UInt8) (b nb y : Nat) : List Ent := [.blk nb 3 [.int .i64 ((c.length % 64 : Nat) : Int)], .blk b 170 (v8s (bufF c)), .blk y 168 [.func (.yield l) #[] #[]]]
structure ItInv (J : Jt) (W : World) (c : List UInt8) (b nb y l : Nat) (wb : World) : Prop where
  J : J [nb, b, y] (chunksF c) wb
  b : W.heap.size ≤ b
  nb : W.heap.size ≤ nb
  y : W.heap.size ≤ y
def Stab (J : Jt) : Prop := ∀ T T' pre w1 w2, J T pre w1 → Mem w1 T [] [] w2 → (∀ k, k ∈ T' → (k ∈ T ∨ w1.heap.size ≤ k) ∧ k < w2.heap.size) → J T' pre w2
theorem put_at (J : Jt) (W : World) (l : Nat) (ALL : List (List UInt8)) (pb : Nat) (pv : Value) (ps : List (Value × List UInt8)) (hst : Stab J) (hyl : ∀ T b, b ∈ T → YieldOk Tryd.prog J T b l ALL)
    {c p : List UInt8} {p0 : Value} {b nb y : Nat} {wb w : World} {X : List Ent} (hI : ItInv J W c b nb y l wb) (h : Mem wb [nb, b, y] (X ++ blkM l c b nb y) [] w)
    (hpre : chunksF (c ++ p) <+: ALL) (hs : Seen w.cell? p0 p.length 1 (v8s p)) (hpb : ∀ k, p0.ownBlock = some k → v8s p ≠ [] → k ≠ b ∧ k ≠ nb)
    (hp : ∀ pre (w1 w2 : World), Seen w1.cell? p0 p.length 1 (v8s p) → J (nums X ++ [nb, b, y]) pre w2 → (∀ k, k ∈ nums X ++ [nb, b, y] → w2.heap[k]? = w1.heap[k]?) → Seen w2.cell? p0 p.length 1 (v8s p)) :
    Calls Tryd.prog 101 #[p0, .pointer (some ⟨b, 0, none⟩), .pointer (some ⟨nb, 0, none⟩), .pointer (some ⟨y, 0, none⟩)] w fun e w' =>
      ∃ u : { u : World // ItInv J W (c ++ p) b nb y l u }, e = .returned (.tuple #[]) ∧ Mem u.1 [nb, b, y] (blkM l (c ++ p) b nb y) [] w' := by
  have hn : w.heap[nb]? = some (.cells #[.int .i64 ((c.length % 64 : Nat) : Int)] 3 (0, 0)) := h.own (.blk nb 3 [.int .i64 ((c.length % 64 : Nat) : Int)]) (by simp [blkM])
  have hb : w.heap[b]? = some (.cells (v8s (bufF c)).toArray 170 (0, 0)) := h.own (.blk b 170 (v8s (bufF c))) (by simp [blkM])
  have hy : w.heap[y]? = some (.cells #[.func (.yield l) #[] #[]] 168 (0, 0)) := h.own (.blk y 168 [.func (.yield l) #[] #[]]) (by simp [blkM])
  have hap := (List.pairwise_append.1 h.apart).2.1
  simp only [blkM, List.pairwise_cons, List.mem_cons, List.mem_nil_iff, or_false, Ent.num, Option.some.injEq, forall_eq_or_imp, forall_eq] at hap
  have hnb : nb ≠ b := fun e => (hap.1.1 nb rfl) (congrArg some e.symm)
  have hny : nb ≠ y := fun e => (hap.1.2 nb rfl) (congrArg some e.symm)
  have hby : b ≠ y := fun e => (hap.2.1 b rfl) (congrArg some e.symm)
  have hTl : ∀ k, k ∈ nums X ++ [nb, b, y] → k < w.heap.size := by
    intro k hk
    rcases List.mem_append.1 hk with hk | hk
    · obtain ⟨e, he, hne⟩ := mem_nums.1 hk
      exact Ent.lt (h.own e (List.mem_append_left _ he)) hne
    · simp at hk
      rcases hk with rfl | rfl | rfl
      · exact (Array.getElem?_eq_some_iff.1 hn).1
      · exact (Array.getElem?_eq_some_iff.1 hb).1
      · exact (Array.getElem?_eq_some_iff.1 hy).1
  have hX : ∀ k, k ∈ nums X → wb.heap.size ≤ k := fun k hk => by
    obtain ⟨e, he, hne⟩ := mem_nums.1 hk
    rcases h.new e (List.mem_append_left _ he) k hne with h1 | h1
    · exact h1
    · have hxx := (List.pairwise_append.1 h.apart).2.2 e he
      simp at h1
      rcases h1 with rfl | rfl | rfl
      · exact absurd rfl (hxx (.blk k 3 [.int .i64 ((c.length % 64 : Nat) : Int)]) (by simp [blkM]) k hne)
      · exact absurd rfl (hxx (.blk k 170 (v8s (bufF c))) (by simp [blkM]) k hne)
      · exact absurd rfl (hxx (.blk k 168 [.func (.yield l) #[] #[]]) (by simp [blkM]) k hne)
  have hJ : J (nums X ++ [nb, b, y]) (chunksF c) w := hst _ _ _ _ _ hI.J (h.sub .nil .nil) fun k hk => ⟨(List.mem_append.1 hk).symm.imp id (hX k), hTl k hk⟩
  refine (putMm J (nums X ++ [nb, b, y]) c p p0 b nb y l w ALL (fun pre w1 w2 h1 h2 h3 => hst _ _ _ _ _ h1 h2 fun k hk => ⟨.inl hk, h3 k hk⟩) (hyl _ _ zz41) hp hpre hTl hpb zz41 zz41 zz41 hnb.symm hby hny hJ hs hb hn hy).mono ?_
  rintro e w' ⟨rfl, j1, j2, j3, j4, j5⟩
  have hy' : w'.heap[y]? = some (.cells #[.func (.yield l) #[] #[]] 168 (0, 0)) := (j4 y zz41 hby.symm hny.symm).trans hy
  refine ⟨⟨w', hst _ _ _ _ _ j1 ((Mem.start w').lend zz41) (fun k hk => ⟨.inl (List.mem_append_right _ hk), ?_⟩), hI.b, hI.nb, hI.y⟩, rfl, ?_⟩
  · exact Nat.lt_of_lt_of_le (hTl k (List.mem_append_right _ hk)) j5
  · exact Mem.startL (Ms := blkM l (c ++ p) b nb y) w' (by
      intro e he
      simp only [blkM, List.mem_cons, List.mem_nil_iff, or_false] at he
      rcases he with rfl | rfl | rfl
      · exact j3
      · exact j2
      · exact hy') (by simp [blkM, Ent.num]; exact ⟨⟨hnb.symm, hny.symm⟩, hby.symm⟩)
theorem addr_block (a : Addr) (i : Nat) : (a.add i).block = a.block := by unfold Addr.add; split <;> rfl
theorem cF_pre (a : List UInt8) : ∃ x, a ++ [128] ++ x = cF a := by
  unfold cF
  split
  · exact ⟨_, rfl⟩
  · exact ⟨[], zz41⟩
theorem pre_all (ps : List (List UInt8)) (c : List UInt8) (h : ∃ x, c ++ x = cF ps.flatten) : chunksF c <+: blocksF ps := by
  obtain ⟨x, hx⟩ := h
  unfold blocksF
  rw [← hx]
  exact (chunks_prefix c x).trans (List.prefix_append _ _)
theorem pre_take (ps : List (List UInt8)) (i : Nat) : ∃ x, (ps.take i).flatten ++ x = cF ps.flatten := by
  obtain ⟨x, hx⟩ := cF_pre ps.flatten
  refine ⟨(ps.drop i).flatten ++ ([128] ++ x), ?_⟩
  rw [← hx, ← List.append_assoc, ← List.flatten_append, List.take_append_drop, List.append_assoc]
theorem take_succ_flatMm (ps : List (List UInt8)) (i : Nat) (h : i < ps.length) : (ps.take (i + 1)).flatten = (ps.take i).flatten ++ ps.getD i [] := by
  have e : ps.take (i + 1) = ps.take i ++ [ps.getD i []] := by rw [List.take_add_one]; simp [h]
  rw [e]; simp
theorem cF_full (a : List UInt8) (h : (a ++ [128]).length % 64 > 56) : cF a = (a ++ [128]) ++ List.replicate (64 - (a ++ [128]).length % 64) 0 := if_pos h
theorem cF_room (a : List UInt8) (h : ¬ (a ++ [128]).length % 64 > 56) : cF a = a ++ [128] := if_neg h
end Go.Proofs.YtgnablliekgbgaaDoor
namespace Go.Proofs.YtgnablliekgbgaaDoor
open Go Go.PL Go.RowKit
theorem mem_c {u w : World} {T : List Nat} {l b nb y : Nat} {c c' : List UInt8} (e : c = c') (h : Mem u T (blkM l c' b nb y) [] w) : Mem u T (blkM l c b nb y) [] w := e ▸ h
theorem zeros_flat (k : Nat) : (List.replicate k (Value.int .u8 0).cells.toList).flatten = v8s (List.replicate k 0) := by
  induction k with
  | zero => rfl
  | succ k ih => rw [List.replicate_succ, List.flatten_cons, ih, List.replicate_succ]; rfl
theorem put_row (J : Jt) (W : World) (l : Nat) (ALL : List (List UInt8)) (pb : Nat) (pv : Value) (ps : List (Value × List UInt8)) (hst : Stab J) (hyl : ∀ T b, b ∈ T → YieldOk Tryd.prog J T b l ALL)
    {c p : List UInt8} {r m cap : Nat} {b nb y : Nat} {wb w : World} (hI : ItInv J W c b nb y l wb) (h : Mem wb [nb, b, y] (.row (.slice (some ⟨r, 0, none⟩) m cap) m 5 1 (v8s p) :: blkM l c b nb y) [] w) (hpre : chunksF (c ++ p) <+: ALL) :
    Calls Tryd.prog 101 #[.slice (some ⟨r, 0, none⟩) m cap, .pointer (some ⟨b, 0, none⟩), .pointer (some ⟨nb, 0, none⟩), .pointer (some ⟨y, 0, none⟩)] w fun e w' =>
      ∃ u : { u : World // ItInv J W (c ++ p) b nb y l u }, e = .returned (.tuple #[]) ∧ Mem u.1 [nb, b, y] (blkM l (c ++ p) b nb y) [] w' := by
  have hlen : m = p.length := by have := h.row_len (List.mem_cons_self ..); simpa using this.symm
  subst hlen
  have hap := (List.pairwise_cons.1 h.apart).1
  have hrb : r ≠ b := fun e => hap (.blk b 170 (v8s (bufF c))) (by simp [blkM]) r rfl (by rw [e]; rfl)
  have hrn : r ≠ nb := fun e => hap (.blk nb 3 [.int .i64 ((c.length % 64 : Nat) : Int)]) (by simp [blkM]) r rfl (by rw [e]; rfl)
  refine put_at J W l ALL pb pv ps hst hyl (X := [.row (.slice (some ⟨r, 0, none⟩) p.length cap) p.length 5 1 (v8s p)]) hI h hpre (h.seen_row (List.mem_cons_self ..)) (fun k hk _ => by
    simp [Value.ownBlock] at hk; subst hk; exact ⟨hrb, hrn⟩) (fun pre w1 w2 h1 _ hT => ?_)
  have hrT := hT r (by simp [nums, Ent.num, Value.ownBlock])
  obtain ⟨q1, a, cp, q2, q3, q4, q5⟩ := h1
  simp at q2
  obtain ⟨rfl, rfl⟩ := q2
  refine ⟨q1, _, _, rfl, q3, q4, ?_⟩
  rcases q5 with q5 | ⟨ad, q5, q6⟩
  · cases q5.1
  · cases q5
    refine .inr ⟨_, rfl, fun j u hj => ?_⟩
    have := q6 j u hj
    rw [add_lit] at this ⊢
    exact (World.cell?_of_block hrT).trans this
theorem last_yield (J : Jt) (W : World) (l : Nat) (ALL : List (List UInt8)) (ps : List (Value × List UInt8)) (hst : Stab J) (hyl : ∀ T b, b ∈ T → YieldOk Tryd.prog J T b l ALL) (hALL : blocksF (ps.map Prod.snd) = ALL)
    {b nb y : Nat} {n' : Int} {wb w : World} (hI : ItInv J W (cF (ps.map Prod.snd).flatten) b nb y l wb)
    (h : Mem wb [nb, b, y] [.blk nb 3 [.int .i64 n'], .blk b 170 (v8s (setLen (bufF (cF (ps.map Prod.snd).flatten)) (lenN (ps.map Prod.snd) ps.length * 8) 8)), .blk y 168 [.func (.yield l) #[] #[]]] [] w) :
    YieldAt Fence.wide 0 Tryd.prog l #[.pointer (some ⟨b, 0, none⟩)] w fun e w' => ∃ u : { u : World // ∃ T, J T ALL u }, e = .returned (.bool true) ∧ w' = u.1 := by
  have hlt : ∀ k, k ∈ [nb, b, y] → k < w.heap.size := fun k hk => by
    have hk' : k ∈ nums [.blk nb 3 [.int .i64 n'], .blk b 170 (v8s (setLen (bufF (cF (ps.map Prod.snd).flatten)) (lenN (ps.map Prod.snd) ps.length * 8) 8)), .blk y 168 [.func (.yield l) #[] #[]]] := hk
    obtain ⟨e, he, hn⟩ := mem_nums.1 hk'
    exact Ent.lt (h.own e he) hn
  have hJ := hst _ [nb, b, y] _ _ _ hI.J (h.sub .nil .nil) (fun k hk => ⟨.inl hk, hlt k hk⟩)
  have hb : w.heap[b]? = some (.cells (v8s (setLen (bufF (cF (ps.map Prod.snd).flatten)) (lenN (ps.map Prod.snd) ps.length * 8) 8)).toArray 170 (0, 0)) := h.own (.blk b 170 (v8s (setLen (bufF (cF (ps.map Prod.snd).flatten)) (lenN (ps.map Prod.snd) ps.length * 8) 8))) zz41
  have hall : chunksF (cF (ps.map Prod.snd).flatten) ++ [setLen (bufF (cF (ps.map Prod.snd).flatten)) (lenN (ps.map Prod.snd) ps.length * 8) 8] = ALL := by rw [← hALL]; unfold blocksF; rw [List.length_map]
  obtain ⟨fn, tmps, assign, body, hrun, hround⟩ := hyl [nb, b, y] b zz41 _ _ w hJ (by rw [hall]; exact List.prefix_refl _) hb
  refine ⟨fn, tmps, assign, body, hrun, hround.mono ?_⟩
  rintro e w' ⟨rfl, hJ', _⟩
  rw [hall] at hJ'
  exact ⟨⟨w', _, hJ'⟩, rfl, rfl⟩
def ItPost (J : Jt) (ALL : List (List UInt8)) (e : Ending) (w : World) : Prop := (∃ v, e = .returned v) ∧ ∃ T, J T ALL w
theorem iter (J : Jt) (W : World) (l : Nat) (ALL : List (List UInt8)) (pb : Nat) (pv : Value) (ps : List (Value × List UInt8)) (hst : Stab J) (hyl : ∀ T b, b ∈ T → YieldOk Tryd.prog J T b l ALL) (hALL : blocksF (ps.map Prod.snd) = ALL)
    (hinv : ∀ T pre w1, J T pre w1 → InvB pb pv ps w1) (hJ0 : J [] [] W) :
    Calls Tryd.prog 100 [.func (.yield l) #[] #[], .pointer (some ⟨pb, 0, none⟩)].toArray W (ItPost J ALL) := by
  obtain ⟨a, cap, rfl, hlc, hcm, hz⟩ := (hinv _ _ _ hJ0).2.1.form
  have hpbW : pb < W.heap.size := (Array.getElem?_eq_some_iff.1 (hinv _ _ _ hJ0).1).1
  have hmL : cap ≤ 9223372036854775807 := by simp only [maxLen] at hcm; omega
  refine enter (m := 53) (R := Mem W [] [] []) Tryd.func100 rfl rfl (Nat.le_of_ble_eq_true rfl) (Mem.start W) ?_
  refine wpc_seq <| wpc_region ?_
  refine wpl_t (t_box rfl _ rfl) rfl ?_
  intro b2
  refine wpl_nil <| ex_then <| wpc_seq <| wpc_region ?_
  refine wpl_t (t_alloc Tryd.ti170 (v8s (bufF [])) (by rfl)) rfl ?_
  intro b3
  refine wpl_nil <| ex_then <| wpc_seq <| wpc_region ?_
  refine wpl_t (t_alloc Tryd.ti3 _ rfl) rfl ?_
  intro b4
  refine wpl_t0 (t_st1 Tryd.ti3 rfl rfl rfl Nat.zero_lt_one _ rfl) ?_
  intro _
  refine wpl_q (q_pure rfl) rfl <| wpl_nil <| ex_then <| wpc_seq <| wpc_region ?_
  refine wpl_q (q_fn (us := []) (vs := [.pointer (some ⟨b3, 0, none⟩), .pointer (some ⟨b4, 0, none⟩), .pointer (some ⟨b2, 0, none⟩)]) rfl rfl) rfl ?_
  refine wpl_q (q_pure rfl) rfl <| wpl_nil <| ex_then <| wpc_seq <| wpc_seq ?_
  refine wpc_ex (p := ItInv J W [] b3 b4 b2 l) (R' := fun wb => Mem wb [b4, b3, b2] (blkM l [] b3 b4 b2) []) (fun w h => ?_) (fun wb0 hI0 => ?_)
  · have h2 : Mem W [] (blkM l [] b3 b4 b2) [] w := h
    have hlt : ∀ k, k ∈ [b4, b3, b2] → W.heap.size ≤ k ∧ k < w.heap.size := fun k hk => by
      have hk' : k ∈ nums (blkM l [] b3 b4 b2) := hk
      obtain ⟨e, he, hn⟩ := mem_nums.1 hk'
      exact ⟨(h2.new e he k hn).resolve_right zz41, Ent.lt (h2.own e he) hn⟩
    exact ⟨w, ⟨hst [] _ _ _ _ hJ0 (h2.sub .nil .nil) (fun k hk => ⟨.inr (hlt k hk).1, (hlt k hk).2⟩), (hlt b3 zz41).1, (hlt b4 zz41).1, (hlt b2 zz41).1⟩, h2.base⟩
  refine wpc_region ?_
  refine wpl_q (q_load1 Tryd.underlying160 rfl rfl (fun w h => h.cell_oldL (cell_of_heap (hinv _ _ _ hI0.J).1 rfl) (by have := hI0.b; have := hI0.nb; have := hI0.y; simp; omega))) rfl ?_
  refine wpl_q (q_len Tryd.underlying160 rfl) rfl <| wpl_q (q_pure rfl) rfl <| wpl_nil <| ex_then <| wpc_block ?_
  refine wpc_loop (ι := { x : Nat × World // x.1 ≤ ps.length ∧ ItInv J W ((ps.map Prod.snd).take x.1).flatten b3 b4 b2 l x.2 }) (fun x => [(13, .int .i64 (x.1.1 : Nat)), (12, .int .i64 (ps.length : Nat)), (11, .slice a ps.length cap), (6, .func (.func 101) #[] #[.pointer (some ⟨b3, 0, none⟩), .pointer (some ⟨b4, 0, none⟩), .pointer (some ⟨b2, 0, none⟩)]), (5, .int .u64 (lenN (ps.map Prod.snd) x.1.1).toNat), (2, .pointer (some ⟨b2, 0, none⟩)), (3, .pointer (some ⟨b3, 0, none⟩)), (4, .pointer (some ⟨b4, 0, none⟩))]) (fun x => Mem x.1.2 [b4, b3, b2] (blkM l ((ps.map Prod.snd).take x.1.1).flatten b3 b4 b2) []) (fun x => ps.length - x.1.1) ⟨(0, wb0), Nat.zero_le _, hI0⟩ ?_ ?_ ?_
  · exact by repeat (first | exact trivial | refine ⟨rfl, ?_⟩)
  · exact fun w h => h
  · rintro ⟨⟨i, wb⟩, hi, hI⟩; dsimp only
    have hi : i ≤ ps.length := hi
    have hI : ItInv J W ((ps.map Prod.snd).take i).flatten b3 b4 b2 l wb := hI
    have hP := hinv _ _ _ hI.J
    refine wpc_seq <| wpc_region <| wpl_q (q_pure rfl) rfl <| wpl_nil <| ex_then <| wpc_seq ?_
    refine wpc_cond rfl (fun hc14 => ?_) (fun hc14 => ?_)
    ·
      simp only [decide_eq_true_eq] at hc14
      obtain ⟨ad, rfl⟩ : ∃ ad, a = some ad := by
        cases a with
        | none => have := hz rfl; omega
        | some ad => exact ⟨ad, rfl⟩
      obtain ⟨⟨qv, qb⟩, hq⟩ : ∃ q, ps[i]? = some q := ⟨_, List.getElem?_eq_getElem zz14⟩
      have hqm : (qv, qb) ∈ ps := List.mem_of_getElem? hq
      have hq1 : (ps.map Prod.fst)[i]? = some qv := by rw [List.getElem?_map, hq]; rfl
      have hq2 : (ps.map Prod.snd).getD i [] = qb := by rw [List.getD_eq_getElem?_getD, List.getElem?_map, hq]; rfl
      have hfs : ((ps.map Prod.snd).take (i + 1)).flatten = ((ps.map Prod.snd).take i).flatten ++ qb := by rw [take_succ_flatMm _ _ (by simp; omega), hq2]
      have hqs : Seen wb.cell? qv qb.length 1 (v8s qb) := hP.2.2 _ hqm
      obtain ⟨aq, capq, rfl, hq3, hq4, hq5⟩ := hqs.form
      have hadb : ad.block < W.heap.size := (hinv _ _ _ hJ0).2.1.block_lt (by intro e; rw [List.map_eq_nil_iff] at e; subst e; exact absurd hqm zz41) ad.block rfl
      have hqbl : ∀ k, (Value.slice aq qb.length capq).ownBlock = some k → v8s qb ≠ [] → k < W.heap.size := fun k hk hne => ((hinv _ _ _ hJ0).2.2 _ hqm).block_lt hne k hk
      have hbW := hI.b; have hnW := hI.nb; have hyW := hI.y
      refine wpc_skip <| ex_then <| wpc_seq <| wpc_block <| wpc_seq <| wpc_region ?_
      refine wpl_q (q_idxS Tryd.underlying160 Tryd.ti34 rfl rfl zz14 zz14 (i) zz14) rfl ?_
      refine wpl_q (q_load1 Tryd.underlying34 rfl rfl (fun w h => h.cell_oldL (hP.2.1.cell hq1) (by rw [addr_block]; simp; omega))) rfl ?_
      refine wpl_q (q_pure rfl) rfl <| wpl_nil <| ex_then <| wpc_seq <| wpc_region <| wpl_q (q_pure rfl) rfl <| wpl_q (q_pure rfl) rfl <| wpl_q (q_len Tryd.underlying34 rfl) rfl <| wpl_q (q64_conv Tryd.underlying3 Tryd.underlying23 rfl) rfl ?_
      refine wpl_q (qop_eq (q64_add rfl rfl) (v := .int .u64 (lenN (ps.map Prod.snd) (i + 1)).toNat) (by rw [lenN, hq2])) rfl ?_
      refine wpl_q (q_pure rfl) rfl <| wpl_nil <| ex_then <| wpc_region <| wpl_q (q_pure rfl) rfl <| wpl_q (q_pure rfl) rfl ?_
      refine wpl_t (t_callG (ι := { u : World // ItInv J W (((ps.map Prod.snd).take i).flatten ++ qb) b3 b4 b2 l u }) (V := fun _ => .tuple #[]) (R' := fun u => Mem u.1 [b4, b3, b2] (blkM l (((ps.map Prod.snd).take i).flatten ++ qb) b3 b4 b2) []) (cap := #[.pointer (some ⟨b3, 0, none⟩), .pointer (some ⟨b4, 0, none⟩), .pointer (some ⟨b2, 0, none⟩)]) rfl Tryd.hb101 rfl fun w h => put_at J W l ALL pb (.slice none 0 0) ps hst hyl (X := []) hI h (hALL ▸ pre_all _ _ (hfs ▸ pre_take _ (i + 1))) (h.seen_oldL (hP.2.2 _ hqm) (fun k hk hne => by have := hqbl k hk hne; simp; omega)) (fun k hk hne => by have := hqbl k hk hne; omega) (fun pre w1 w2 _ hJ2 _ => (hinv _ _ _ hJ2).2.2 _ hqm)) rfl ?_
      intro b24
      refine wpl_nil <| ex_block <| ex_then <| wpc_region ?_
      first | refine wpl_q (qop_eq (q_pure rfl) (congrArg (Value.int .i64) (wk_i64 zz14 zz14))) rfl ?_ | refine wpl_q (q_pure rfl) rfl ?_
      refine wpl_q (q_pure rfl) rfl <| wpl_nil ?_
      refine ex_again ⟨(i + 1, b24.1), by show i + 1 ≤ ps.length; omega, by show ItInv J W ((ps.map Prod.snd).take (i + 1)).flatten b3 b4 b2 l b24.1; rw [hfs]; exact b24.2⟩ ?_ ?_ ?_
      · exact zz9
      · exact fun w h => by
          show Mem b24.1 [b4, b3, b2] (blkM l ((ps.map Prod.snd).take (i + 1)).flatten b3 b4 b2) [] w
          rw [hfs]; exact h
      · show ps.length - (i + 1) < ps.length - i; omega
    ·
      simp only [decide_eq_false_iff_not] at hc14
      obtain rfl : i = ps.length := by omega
      have eall : ((ps.map Prod.snd).take ps.length).flatten = (ps.map Prod.snd).flatten := by rw [List.take_of_length_le zz41]
      rw [eall] at hI
      refine wpc_mono (R' := Mem wb [b4, b3, b2] (blkM l (ps.map Prod.snd).flatten b3 b4 b2) []) (fun w h => by rw [← eall]; exact h) ?_
      refine wpc_exit ?_
      refine ex_then_exit ?_
      refine ex_then_exit ?_
      refine ex_block_hit ?_
      refine ex_then <| wpc_seq <| wpc_region <| wpl_q (q_pure rfl) rfl ?_
      refine wpl_t (t_buildSlice (v8s [128]) Tryd.underlying34 Tryd.ti5 rfl zz20 zz20 rfl rfl rfl) rfl ?_
      intro b27
      refine wpl_t (t_callG (ι := { u : World // ItInv J W ((ps.map Prod.snd).flatten ++ [128]) b3 b4 b2 l u }) (V := fun _ => .tuple #[]) (R' := fun u => Mem u.1 [b4, b3, b2] (blkM l ((ps.map Prod.snd).flatten ++ [128]) b3 b4 b2) []) (cap := #[.pointer (some ⟨b3, 0, none⟩), .pointer (some ⟨b4, 0, none⟩), .pointer (some ⟨b2, 0, none⟩)]) rfl Tryd.hb101 rfl fun w h => put_row J W l ALL pb (.slice none 0 0) ps hst hyl hI h (hALL ▸ pre_all _ _ (cF_pre _))) rfl ?_
      intro b28
      refine wpl_nil <| ex_then ?_
      refine wpc_cut { u : World // ItInv J W (cF (ps.map Prod.snd).flatten) b3 b4 b2 l u } (fun _ => [(5, .int .u64 (lenN (ps.map Prod.snd) ps.length).toNat), (2, .pointer (some ⟨b2, 0, none⟩)), (3, .pointer (some ⟨b3, 0, none⟩)), (4, .pointer (some ⟨b4, 0, none⟩))]) (fun u => Mem u.1 [b4, b3, b2] (blkM l (cF (ps.map Prod.snd).flatten) b3 b4 b2) []) ?_ ?_
      ·
        refine wpc_seq ?_
        obtain ⟨wb1, hI1⟩ := b28
        refine wpc_mono (R' := Mem wb1 [b4, b3, b2] [.blk b4 3 [.int .i64 ((((ps.map Prod.snd).flatten ++ [(128 : UInt8)]).length % 64 : Nat) : Int)], .blk b3 170 (v8s (bufF ((ps.map Prod.snd).flatten ++ [(128 : UInt8)]))), .blk b2 168 [.func (.yield l) #[] #[]]] []) (fun w h => h) ?_
        refine wpc_region <| wpl_q (q_ld Tryd.underlying3 rfl rfl rfl) rfl <| wpl_q (q_pure rfl) rfl <| wpl_nil <| ex_then ?_
        refine wpc_cond rfl (fun hc30 => ?_) (fun hc30 => ?_)
        ·
          simp only [decide_eq_true_eq] at hc30
          have hm64 : ((ps.map Prod.snd).flatten ++ [(128 : UInt8)]).length % 64 < 64 := Nat.mod_lt _ zz20
          have ecf := cF_full (ps.map Prod.snd).flatten zz14
          refine wpc_region <| wpl_q (q_pure rfl) rfl <| wpl_q (q_ld Tryd.underlying3 rfl rfl rfl) rfl ?_
          first | refine wpl_q (qop_eq (q_pure rfl) (congrArg (Value.int .i64) (wk_i64 zz14 zz14))) rfl ?_ | refine wpl_q (q_pure rfl) rfl ?_
          refine wpl_t (t_makeSlice Tryd.underlying34 Tryd.ti5 rfl rfl zz14 (Int.le_refl _) zz14 zz14 (64 - ((ps.map Prod.snd).flatten ++ [(128 : UInt8)]).length % 64) (64 - ((ps.map Prod.snd).flatten ++ [(128 : UInt8)]).length % 64) zz14 zz14 (v8s (List.replicate (64 - ((ps.map Prod.snd).flatten ++ [(128 : UInt8)]).length % 64) (0 : UInt8))) rfl (zeros_flat _)) rfl ?_
          intro b34
          refine wpl_t (t_callG (ι := { u : World // ItInv J W (((ps.map Prod.snd).flatten ++ [(128 : UInt8)]) ++ List.replicate (64 - ((ps.map Prod.snd).flatten ++ [(128 : UInt8)]).length % 64) (0 : UInt8)) b3 b4 b2 l u }) (V := fun _ => .tuple #[]) (R' := fun u => Mem u.1 [b4, b3, b2] (blkM l (((ps.map Prod.snd).flatten ++ [(128 : UInt8)]) ++ List.replicate (64 - ((ps.map Prod.snd).flatten ++ [(128 : UInt8)]).length % 64) (0 : UInt8)) b3 b4 b2) []) (cap := #[.pointer (some ⟨b3, 0, none⟩), .pointer (some ⟨b4, 0, none⟩), .pointer (some ⟨b2, 0, none⟩)]) rfl Tryd.hb101 rfl fun w h => put_row J W l ALL pb (.slice none 0 0) ps hst hyl hI1 h (hALL ▸ pre_all _ _ ⟨[], by rw [List.append_nil]; exact ecf.symm⟩)) rfl ?_
          intro b35
          have HI : ItInv J W (cF (ps.map Prod.snd).flatten) b3 b4 b2 l b35.1 := by rw [ecf]; exact b35.2
          refine wpl_nil ?_
          refine ex_mid ⟨_, HI⟩ ?_ ?_
          · exact zz9
          · exact fun w h => mem_c ecf h
        ·
          simp only [decide_eq_false_iff_not] at hc30
          have ecf := cF_room (ps.map Prod.snd).flatten zz14
          have HI : ItInv J W (cF (ps.map Prod.snd).flatten) b3 b4 b2 l wb1 := by rw [ecf]; exact hI1
          refine wpc_skip ?_
          refine ex_mid ⟨_, HI⟩ ?_ ?_
          · exact zz9
          · exact fun w h => mem_c ecf h
      ·
        rintro ⟨wb2, hI2⟩
        dsimp only
        refine wpc_seq <| wpc_region <| wpl_q (q_pure rfl) rfl ?_
        refine wpl_q (q64_mul (b := 8) rfl rfl) rfl ?_
        refine wpl_q (q_pure rfl) rfl <| wpl_nil <| ex_then <| wpc_seq <| wpc_seq <| wpc_region <| wpl_q (q_pure rfl) rfl <| wpl_nil <| ex_then <| wpc_block ?_
        refine wpc_loop (ι := { j : Nat // j ≤ 8 }) (fun j => [(38, .int .i64 (j.1 : Nat)), (5, .int .u64 (lenN (ps.map Prod.snd) ps.length * 8).toNat), (2, .pointer (some ⟨b2, 0, none⟩)), (3, .pointer (some ⟨b3, 0, none⟩)), (4, .pointer (some ⟨b4, 0, none⟩))]) (fun j => Mem wb2 [b4, b3, b2] [.blk b4 3 [.int .i64 (((cF (ps.map Prod.snd).flatten).length % 64 : Nat) : Int)], .blk b3 170 (v8s (setLen (bufF (cF (ps.map Prod.snd).flatten)) (lenN (ps.map Prod.snd) ps.length * 8) j.1)), .blk b2 168 [.func (.yield l) #[] #[]]] []) (fun j => 8 - j.1) ⟨0, zz14⟩ ?_ ?_ ?_
        · exact by repeat (first | exact trivial | refine ⟨rfl, ?_⟩)
        · exact fun w h => h
        · rintro ⟨j, hj⟩; dsimp only
          have hsl := (setLen_length (bufF (cF (ps.map Prod.snd).flatten)) (lenN (ps.map Prod.snd) ps.length * 8) j).trans (bufF_length _)
          refine wpc_seq <| wpc_region <| wpl_q (q_pure rfl) rfl <| wpl_nil <| ex_then <| wpc_seq ?_
          refine wpc_cond rfl (fun hc39 => ?_) (fun hc39 => ?_)
          ·
            simp only [decide_eq_true_eq, decide_eq_false_iff_not, Bool.and_eq_true, Bool.or_eq_true, beq_iff_eq, bne_iff_ne, ne_eq] at hc39
            refine wpc_skip <| ex_then <| wpc_seq <| wpc_block <| wpc_seq <| wpc_region <| wpl_q (q_pure rfl) rfl <| wpl_q (q_pure rfl) rfl <| wpl_nil <| ex_then <| wpc_region <| wpl_q (q_pure rfl) rfl ?_
            first | refine wpl_q (qop_eq (q_pure rfl) (congrArg (Value.int .i64) (wk_i64 zz14 zz14))) rfl ?_ | refine wpl_q (q_pure rfl) rfl ?_
            refine wpl_q (q_pure rfl) rfl <| wpl_q (q_pure rfl) rfl ?_
            first | refine wpl_q (qop_eq (q_pure rfl) (congrArg (Value.int .i64) (wk_i64 zz14 zz14))) rfl ?_ | refine wpl_q (q_pure rfl) rfl ?_
            first | refine wpl_q (qop_eq (q_pure rfl) (congrArg (Value.int .i64) (wk_i64 zz14 zz14))) rfl ?_ | refine wpl_q (q_pure rfl) rfl ?_
            refine wpl_q (q64_shr rfl rfl zz14 (56 - 8 * j) zz14) rfl ?_
            refine wpl_q (q8_conv Tryd.underlying23 Tryd.underlying5 rfl) rfl ?_
            refine wpl_q (q_idxA Tryd.underlying170 Tryd.ti5 rfl rfl zz14 zz14 (56 + j) zz14) rfl ?_
            refine wpl_t0 (t_st1 Tryd.ti5 rfl rfl rfl zz36 _ (by first | exact v8s_set _ | rfl)) ?_
            intro _
            refine wpl_nil <| ex_block <| ex_then <| wpc_region ?_
            first | refine wpl_q (qop_eq (q_pure rfl) (congrArg (Value.int .i64) (wk_i64 zz14 zz14))) rfl ?_ | refine wpl_q (q_pure rfl) rfl ?_
            refine wpl_q (q_pure rfl) rfl <| wpl_nil ?_
            refine ex_again ⟨j + 1, zz14⟩ ?_ ?_ ?_
            · exact zz9
            · exact fun w h => h
            · show 8 - (j + 1) < 8 - j; omega
          ·
            simp only [decide_eq_false_iff_not] at hc39
            obtain rfl : j = 8 := by omega
            refine wpc_exit ?_
            refine ex_then_exit ?_
            refine ex_then_exit ?_
            refine ex_block_hit ?_
            refine ex_then ?_
            refine wpc_region_y ?_
            refine wpli_q open_wide (q_ld Tryd.underlying168 rfl rfl rfl) rfl ?_
            refine wpli_yield (l := l) (ι := { u : World // ∃ T, J T ALL u }) (V := fun _ => .bool true) (R' := fun u w => w = u.1) rfl rfl ?_ rfl fun u => ?_
            · exact fun w h => last_yield J W l ALL ps hst hyl hALL hI2 h
            refine wpli_nil ?_
            refine ret0 (.inr rfl) rfl ?_
            exact fun w h => ⟨⟨_, rfl⟩, h ▸ u.2⟩
end Go.Proofs.YtgnablliekgbgaaDoor
namespace Go.Proofs.YtgnablliekgbgaaDoor
open Go Go.PL Go.RowKit
def initS : List UInt32 := [1779033703, 3144134277, 1013904242, 2773480762, 1359893119, 2600822924, 528734635, 1541459225]
def stF2 (bl : List (List UInt8)) : List UInt32 := bl.foldl addF initS
theorem stF2_length (bl : List (List UInt8)) : (stF2 bl).length = 8 := by
  suffices h : ∀ (bl : List (List UInt8)) (s : List UInt32), s.length = 8 → (bl.foldl addF s).length = 8 from h bl initS rfl
  intro bl
  induction bl with
  | nil => exact fun s h => h
  | cons x r ih => exact fun s h => ih _ ((addF_length s x).trans h)
def outN (st : List UInt32) : Nat → List UInt8
  | 0 => List.replicate 32 0
  | i + 1 => (outN st i).set i (of8 (sr32 (st.getD (i / 4) 0) (24 - 8 * (i % 4))).toNat)
theorem outN_length (st : List UInt32) : ∀ i, (outN st i).length = 32
  | 0 => rfl
  | i + 1 => by simp [outN, outN_length st i]
def joinF (ps : List (List UInt8)) : List UInt8 := outN (stF2 (blocksF ps)) 32
theorem blocksF_64 (ps : List (List UInt8)) : ∀ x ∈ blocksF ps, x.length = 64 := by
  intro x hx
  unfold blocksF at hx
  rcases List.mem_append.1 hx with hx | hx
  · unfold chunksF at hx
    obtain ⟨i, hi, rfl⟩ := List.mem_map.1 hx
    have hi' := List.mem_range.1 hi
    rw [List.length_take, List.length_drop]
    omega
  · simp at hx
    subst hx
    rw [setLen_length, bufF_length]
def joinM (pb b3 b2 : Nat) (pv : Value) (pre : List (List UInt8)) : List Ent := [.blk pb 160 [pv], .blk b3 162 (v32s (stF2 pre)), .blk b2 156 (v8s (List.replicate 32 0))]
theorem join_it (w : World) (pb : Nat) (pv : Value) (ps : List (Value × List UInt8)) : IterOk Tryd.prog 100 #[.pointer (some ⟨pb, 0, none⟩)] encBMm AtB (InvB pb pv ps) (blocksF (ps.map Prod.snd)) w := by
  intro l J hst hinv hy hJ0
  exact iter J w l _ pb pv ps hst (fun T b hb pre x w1 hJ hpre hh => hy T pre x b w1 hJ hpre ⟨hb, hh⟩) rfl hinv hJ0
theorem atB_stab (T : List Nat) (x : List UInt8) (b : Nat) (w w' : World) (h : AtB T x b w) (h2 : ∀ j, j ∈ T → w'.heap[j]? = w.heap[j]?) : AtB T x b w' := ⟨h.1, (h2 b h.1).trans h.2⟩
theorem inv_join {w0 w : World} {pb b3 b2 : Nat} {pv : Value} {ps : List (Value × List UInt8)} {pre : List (List UInt8)} (hP : Parts w0.cell? pv ps) (h : Mem w0 [] (joinM pb b3 b2 pv pre) [] w) : InvB pb pv ps w :=
  ⟨h.own (.blk pb 160 [pv]) (by simp [joinM]), h.seen_old hP.1, fun q hq => h.seen_old (hP.2 q hq)⟩
theorem blocks (pv : Value) (hc : pv.cells.toList = [pv]) (w : World) :
    Calls Tryd.prog 98 [pv].toArray w (Gives w (fun pb : Nat => .func (.func 100) #[] #[.pointer (some ⟨pb, 0, none⟩)]) (fun pb => [.blk pb 160 [pv]]) (fun _ => [])) := by
  refine enter (m := 4) (R := Mem w [] [] []) Tryd.func98 rfl rfl (Nat.le_of_ble_eq_true rfl) (Mem.start w) ?_
  refine wpc_seq <| wpc_region ?_
  refine wpl_t (t_box rfl [pv] hc) rfl ?_
  intro b1
  refine wpl_q (q_pure rfl) rfl <| wpl_nil <| ex_then <| wpc_seq <| wpc_region ?_
  refine wpl_q (q_fn (us := []) (vs := [.pointer (some ⟨b1, 0, none⟩)]) rfl rfl) rfl ?_
  refine wpl_q (q_pure rfl) rfl <| wpl_nil <| ex_then <| wpc_ret ?_
  refine ret1 (.inl rfl) rfl rfl ?_
  exact fun w h => ⟨b1, rfl, h.below, h.made (Sub.refl _) .nil⟩
theorem quo4 (i : Nat) (h : i ≤ 64) : wk .i64 (Int.tdiv (i : Int) 4) = ((i / 4 : Nat) : Int) := by
  have e : Int.tdiv (i : Int) 4 = ((i / 4 : Nat) : Int) := rfl
  rw [e, wk_i64 zz14 zz14]
theorem join (pv : Value) (ps : List (Value × List UInt8)) (w : World) (hP : Parts w.cell? pv ps) (hro : CellsAt w.cell? ⟨0, 0, none⟩ (v32s rootsL)) (hsz : 0 < w.heap.size) :
    Calls Tryd.prog 96 [pv].toArray w (Pur w (.agg (v8s (joinF (ps.map Prod.snd))).toArray)) := by
  have hcell : pv.cells.toList = [pv] := by obtain ⟨_, _, rfl, _⟩ := hP.1.form; rfl
  refine enterM (m := 30) (R := Mem w [] [] []) Tryd.func96 rfl rfl (Nat.le_of_ble_eq_true rfl) (Mem.start w) ?_
  refine wpc_seq <| wpc_region ?_
  refine wpl_t (t_alloc Tryd.ti156 (v8s (List.replicate 32 0)) (by rfl)) rfl ?_
  intro b2
  refine wpl_nil <| ex_then <| wpc_seq <| wpc_region <| wpl_q (q_buildFull (v32s initS) Tryd.underlying162 Tryd.ti162 Tryd.ti159 rfl rfl (v32s_one _) rfl) rfl ?_
  refine wpl_t (t_alloc Tryd.ti162 (v32s (List.replicate 8 0)) (by rfl)) rfl ?_
  intro b3
  refine wpl_t0 (t_stA Tryd.ti162 rfl rfl rfl (v32s_one _) rfl) ?_
  intro _
  refine wpl_nil <| ex_then <| wpc_seq <| wpc_seq <| wpc_region <| wpl_q (q_pure rfl) rfl ?_
  refine wpl_t (t_call Tryd.hb98 rfl fun w h => blocks pv hcell w) rfl ?_
  intro b9
  refine wpl_nil <| ex_then <| wpc_block ?_
  refine wpc_range (xs := blocksF (ps.map Prod.snd)) (At := AtB) (Inv := InvB b9 pv ps) (encs := encBMm) (joinM b9 b3 b2 pv) (fun x b => [(4, .pointer (some ⟨b, 0, none⟩)), (3, .pointer (some ⟨b3, 0, none⟩)), (2, .pointer (some ⟨b2, 0, none⟩))]) rfl Tryd.hb100 (fun w h => join_it w b9 pv ps) (fun pre w h => inv_join hP h) atB_stab (fun _ _ => rfl) zz20 ?_ ?_ ?_
  · intro l x b R K hK
    refine wpci_region ?_
    refine wpli_q (open_round l) (q_pure rfl) rfl ?_
    refine wpli_nil ?_
    exact ex_assign hK zz9
  · intro l pre x b w1 T hpre hm hat hT
    have hx : x.length = 64 := blocksF_64 _ x (hpre.subset zz41)
    have hnew : ∀ k, k ∈ nums (joinM b9 b3 b2 pv pre) → w.heap.size ≤ k := fun k hk => by
      obtain ⟨e, he, hn⟩ := mem_nums.1 hk
      exact (hm.new e he k hn).resolve_right zz41
    have hbn : b ∉ nums (joinM b9 b3 b2 pv pre) := fun hk => by
      obtain ⟨e, he, hn⟩ := mem_nums.1 hk
      exact inM_not (hT b hat.1).2 e he hn
    have h0n : 0 ∉ nums (joinM b9 b3 b2 pv pre) := fun hk => by have := hnew 0 hk; omega
    have hb3 : b3 ∈ nums (joinM b9 b3 b2 pv pre) := by simp [joinM, nums, Ent.num]
    show WPCI _ _ _ _ (Mem w1 (nums (joinM b9 b3 b2 pv pre)) [.blk b9 160 [pv], .blk b3 162 (v32s (stF2 pre)), .blk b2 156 (v8s (List.replicate 32 0))] []) _ _
    refine wpci_block ?_
    refine wpci_region ?_
    refine wpli_q (open_round l) (q_pure rfl) rfl ?_
    have hst : stF2 (pre ++ [x]) = addF (stF2 pre) x := by simp [stF2]
    refine wpli_t (open_round l) (t_turn1 b3 Tryd.hb99 rfl fun w' h hs => add b3 b (stF2 pre) x (stF2_length _) hx w' hs (h.at_oldL (fun j v hj => by rw [add_lit, Nat.zero_add]; exact cell_of_heap hat.2 (by simpa using hj)) hbn) (fun e => hbn (e ▸ hb3)) (h.at_oldL (hm.at_old hro) h0n) (fun e => h0n (e ▸ hb3))) rfl fun _ => ?_
    refine wpli_nil ?_
    refine ex_block ?_
    exact ex_round fun _ h => by
      have e : joinM b9 b3 b2 pv (pre ++ [x]) = [.blk b9 160 [pv], .blk b3 162 (v32s (addF (stF2 pre) x)), .blk b2 156 (v8s (List.replicate 32 0))] := by rw [joinM, hst]
      rw [e]; exact h
  intro D
  refine ex_block <| ex_then <| wpc_seq <| wpc_region ?_
  refine wpl_t (t_alloc Tryd.ti156 (v8s (outN (stF2 (blocksF (ps.map Prod.snd))) 0)) (by rfl)) rfl ?_
  intro b5
  refine wpl_nil <| ex_then <| wpc_seq <| wpc_seq <| wpc_region <| wpl_q (q_pure rfl) rfl <| wpl_nil <| ex_then <| wpc_block ?_
  refine wpc_loop (ι := { i : Nat // i ≤ 32 }) (fun i => [(13, .int .i64 (i.1 : Nat)), (5, .pointer (some ⟨b5, 0, none⟩)), (3, .pointer (some ⟨b3, 0, none⟩)), (2, .pointer (some ⟨b2, 0, none⟩))]) (fun i => Mem w [] (.blk b5 156 (v8s (outN (stF2 (blocksF (ps.map Prod.snd))) i.1)) :: .obj D (.deferred (some [])) :: joinM b9 b3 b2 pv (blocksF (ps.map Prod.snd))) []) (fun i => 32 - i.1) ⟨0, zz14⟩ ?_ ?_ ?_
  · exact by repeat (first | exact trivial | refine ⟨rfl, ?_⟩)
  · exact fun w h => h
  · rintro ⟨i, hi⟩; dsimp only
    have hol := outN_length (stF2 (blocksF (ps.map Prod.snd))) i
    have hsl := stF2_length (blocksF (ps.map Prod.snd))
    simp only [joinM]
    refine wpc_seq <| wpc_region <| wpl_q (q_pure rfl) rfl <| wpl_nil <| ex_then <| wpc_seq ?_
    refine wpc_cond rfl (fun hc14 => ?_) (fun hc14 => ?_)
    ·
      simp only [decide_eq_true_eq, decide_eq_false_iff_not, Bool.and_eq_true, Bool.or_eq_true, beq_iff_eq, bne_iff_ne, ne_eq] at hc14
      refine wpc_skip <| ex_then <| wpc_seq <| wpc_block <| wpc_seq <| wpc_region <| wpl_q (q_pure rfl) rfl <| wpl_q (q_pure rfl) rfl <| wpl_nil <| ex_then <| wpc_region <| wpl_q (q_pure rfl) rfl ?_
      refine wpl_q (q_pure rfl) rfl ?_
      refine wpl_q (qop_eq (q_quo rfl rfl zz20) (v := .int .i64 ((i / 4 : Nat) : Int)) (congrArg (Value.int .i64) (quo4 i zz14))) rfl ?_
      refine wpl_q (q_idxA Tryd.underlying162 Tryd.ti159 rfl rfl zz14 zz14 (i / 4) zz14) rfl ?_
      refine wpl_q (q_ld Tryd.underlying159 rfl rfl zz24) rfl ?_
      refine wpl_q (q_pure rfl) rfl ?_
      refine wpl_q (qop_eq (q_rem rfl rfl zz20) (v := .int .i64 ((i % 4 : Nat) : Int)) rfl) rfl ?_
      first | refine wpl_q (qop_eq (q_pure rfl) (congrArg (Value.int .i64) (wk_i64 zz14 zz14))) rfl ?_ | refine wpl_q (q_pure rfl) rfl ?_
      first | refine wpl_q (qop_eq (q_pure rfl) (congrArg (Value.int .i64) (wk_i64 zz14 zz14))) rfl ?_ | refine wpl_q (q_pure rfl) rfl ?_
      refine wpl_q (q32_shr rfl rfl zz14 (24 - 8 * (i % 4)) zz14) rfl ?_
      refine wpl_q (q8_conv Tryd.underlying159 Tryd.underlying5 rfl) rfl ?_
      refine wpl_q (q_idxA Tryd.underlying156 Tryd.ti5 rfl rfl zz14 zz14 (i) zz14) rfl ?_
      refine wpl_t0 (t_st1 Tryd.ti5 rfl rfl rfl zz36 _ (by first | exact v8s_set _ | rfl)) ?_
      intro _
      refine wpl_nil <| ex_block <| ex_then <| wpc_region ?_
      first | refine wpl_q (qop_eq (q_pure rfl) (congrArg (Value.int .i64) (wk_i64 zz14 zz14))) rfl ?_ | refine wpl_q (q_pure rfl) rfl ?_
      refine wpl_q (q_pure rfl) rfl <| wpl_nil ?_
      refine ex_again ⟨i + 1, zz14⟩ ?_ ?_ ?_
      · exact zz9
      · exact fun w h => h
      · show 32 - (i + 1) < 32 - i; omega
    ·
      simp only [decide_eq_false_iff_not] at hc14
      obtain rfl : i = 32 := by omega
      refine wpc_exit ?_
      refine ex_then_exit ?_
      refine ex_then_exit ?_
      refine ex_block_hit ?_
      refine ex_then <| wpc_seq <| wpc_region <| wpl_q (q_ldN Tryd.underlying156 rfl Tryd.ti156 rfl ((v8s_length _).trans (outN_length _ _))) rfl ?_
      refine wpl_t0 (t_stA Tryd.ti156 rfl rfl ((v8s_length _).trans (outN_length _ _)) (v8s_one _) ((v8s_length _).trans rfl)) ?_
      intro _
      refine wpl_nil <| ex_then <| wpc_ret ?_
      refine ex_mark (.inl rfl) (.there .here) ?_
      refine retv1 (.inl rfl) rfl (rv_agg Tryd.underlying156 rfl Tryd.ti156 rfl (fun w h => h.cells_blk zz4) (by rw [v8s_length]; exact outN_length _ _)) ?_
      exact fun w h => ⟨rfl, h.below⟩
end Go.Proofs.YtgnablliekgbgaaDoor
namespace Go.Proofs.YtgnablliekgbgaaDoor
open Go Go.PL Go.RowKit
theorem joinF_length (ps : List (List UInt8)) : (joinF ps).length = 32 := outN_length _ _
theorem parts_one {w0 w : World} {M : List Ent} {S : List Fact} {g : Nat} {bv : Value} {bs : List UInt8} (h : Mem w0 [] (.row (.slice (some ⟨g, 0, none⟩) 1 1) 1 34 1 [bv] :: M) S w) (hb : Seen w0.cell? bv bs.length 1 (v8s bs)) : Parts w.cell? (.slice (some ⟨g, 0, none⟩) 1 1) [(bv, bs)] :=
  ⟨h.seen_row (List.mem_cons_self ..), fun q hq => by simp at hq; subst hq; exact h.seen_old hb⟩
theorem short (bv : Value) (bs : List UInt8) (w : World) (hb : Seen w.cell? bv bs.length 1 (v8s bs)) (hro : CellsAt w.cell? ⟨0, 0, none⟩ (v32s rootsL)) (hsz : 0 < w.heap.size) :
    Calls Tryd.prog 85 [bv].toArray w (Pur w (.agg (v8s ((joinF [bs]).take 16)).toArray)) := by
  refine enter (m := 10) (R := Mem w [] [] []) Tryd.func85 rfl rfl (Nat.le_of_ble_eq_true rfl) (Mem.start w) ?_
  refine wpc_seq <| wpc_region ?_
  refine wpl_t (t_alloc Tryd.ti41 (v8s (List.replicate 16 0)) (by rfl)) rfl ?_
  intro b2
  refine wpl_nil <| ex_then <| wpc_seq <| wpc_region <| wpl_q (q_pure rfl) rfl ?_
  refine wpl_t (t_buildSlice [bv] Tryd.underlying160 Tryd.ti34 rfl zz20 zz20 rfl (by obtain ⟨_, _, rfl, _⟩ := hb.form; rfl) rfl) rfl ?_
  intro b5
  refine wpl_t (t_pur Tryd.hb96 rfl fun w' h => join _ [(bv, bs)] w' (parts_one h hb) (h.at_old hro) (Nat.lt_of_lt_of_le hsz h.size)) rfl ?_
  intro b6
  refine wpl_t (t_alloc Tryd.ti156 (v8s (List.replicate 32 0)) (by rfl)) rfl ?_
  intro b3
  refine wpl_t0 (t_stA Tryd.ti156 rfl rfl ((v8s_length _).trans (joinF_length _)) (v8s_one _) ((v8s_length _).trans rfl)) ?_
  intro _
  refine wpl_nil <| ex_then <| wpc_seq <| wpc_region ?_
  refine wpl_q (q_ar_h Tryd.underlying156 Tryd.ti5 rfl rfl zz20 zz20 16 rfl) rfl ?_
  refine wpl_q (q_s2a Tryd.underlying41 rfl zz20) rfl ?_
  refine wpl_q (q_ldP Tryd.underlying41 rfl Tryd.ti41 rfl (v8s ((joinF [bs]).take 16)) (by rw [List.drop_zero, v8s_take]; rfl) (by rw [v8s_length, List.length_take, joinF_length]; rfl)) rfl ?_
  refine wpl_t0 (t_stA Tryd.ti41 rfl rfl (by rw [v8s_length, List.length_take, joinF_length]; rfl) (v8s_one _) ((v8s_length _).trans rfl)) ?_
  intro _
  refine wpl_nil <| ex_then <| wpc_ret ?_
  refine retv1 (.inl rfl) rfl (rv_agg Tryd.underlying41 rfl Tryd.ti41 rfl (fun w h => h.cells_blk zz4) (by rw [v8s_length, List.length_take, joinF_length]; rfl)) ?_
  exact fun w h => ⟨rfl, h.below⟩
end Go.Proofs.YtgnablliekgbgaaDoor
namespace Go.Proofs.YtgnablliekgbgaaDoor
open Go Go.PL Go.RowKit
def zc (m : Nat) : Nat := (120 - (m + 1) % 64) % 64
def lenBMm (x : UInt64) : Nat → List UInt8
  | 0 => []
  | j + 1 => lenBMm x j ++ [of8 (sr64 x (8 * (7 - j))).toNat]
theorem lenB_lengthMm (x : UInt64) : ∀ j, (lenBMm x j).length = j
  | 0 => rfl
  | j + 1 => by simp [lenBMm, lenB_lengthMm x j]
def padF (bs : List UInt8) : List UInt8 := (bs ++ [128] ++ List.replicate (zc bs.length) 0) ++ lenBMm (of64 bs.length * 8) 8
end Go.Proofs.YtgnablliekgbgaaDoor
namespace Go.Proofs.YtgnablliekgbgaaDoor
open Go Go.PL Go.RowKit
def sumF (bs : List UInt8) : List UInt8 := outN (stF2 (chunksF (padF bs))) 32
theorem sumF_length (bs : List UInt8) : (sumF bs).length = 32 := outN_length _ _
end Go.Proofs.YtgnablliekgbgaaDoor
namespace Go.Proofs.YtgnablliekgbgaaDoor
open Go Go.PL Go.RowKit
theorem lenN_eq (ps : List (List UInt8)) : ∀ i, i ≤ ps.length → lenN ps i = of64 ((ps.take i).flatten.length : Nat)
  | 0, _ => by simp [lenN, of64]
  | i + 1, h => by
    rw [lenN, lenN_eq ps i zz14, take_succ_flatMm ps i zz14, List.length_append]
    apply UInt64.toNat_inj.1
    have h1 := of64_toNat (((ps.take i).flatten.length : Nat) : Int)
    have h2 := of64_toNat (((ps.getD i []).length : Nat) : Int)
    have h3 := of64_toNat ((((ps.take i).flatten.length + (ps.getD i []).length : Nat) : Nat) : Int)
    rw [UInt64.toNat_add]
    omega
theorem setLen_eq (buf : List UInt8) (x : UInt64) (h : buf.length = 64) : ∀ i, i ≤ 8 → setLen buf x i = buf.take 56 ++ lenBMm x i ++ buf.drop (56 + i)
  | 0, _ => by simp [setLen, lenBMm]
  | i + 1, hi => by
    rw [setLen, setLen_eq buf x h i zz14]
    have hl : (buf.take 56 ++ lenBMm x i).length = 56 + i := by simp [lenB_lengthMm]; omega
    have hd : buf.drop (56 + i) = buf.getD (56 + i) 0 :: buf.drop (56 + (i + 1)) := by
      rw [List.drop_eq_getElem_cons zz14, List.getD_eq_getElem?_getD, List.getElem?_eq_getElem zz14]; rfl
    rw [List.set_append_right (56 + i) _ zz14, hl, Nat.sub_self, hd, List.set_cons_zero, lenBMm]
    simp [show 56 - 8 * i = 8 * (7 - i) from zz14]
theorem blocks_pad (ps : List (List UInt8)) : blocksF ps = chunksF (padF ps.flatten) := by
  unfold blocksF
  rw [lenN_eq ps _ (Nat.le_refl _), List.take_length]
  generalize ps.flatten = a
  have hc : a ++ [(128 : UInt8)] ++ List.replicate (zc a.length) 0 = cF a ++ List.replicate (56 - (cF a).length % 64) 0 ∧ (cF a).length % 64 ≤ 56 := by
    by_cases h : (a ++ [(128 : UInt8)]).length % 64 > 56
    · rw [cF_full a h]
      have hl : (a ++ [(128 : UInt8)] ++ List.replicate (64 - (a ++ [(128 : UInt8)]).length % 64) (0 : UInt8)).length % 64 = 0 := by
        rw [List.length_append, List.length_replicate]; omega
      refine ⟨?_, zz14⟩
      rw [hl, List.append_assoc, List.append_assoc, List.append_assoc, List.replicate_append_replicate]
      congr 3
      simp [zc] at h ⊢; omega
    · rw [cF_room a h]
      refine ⟨?_, zz14⟩
      congr 2
      simp [zc] at h ⊢; omega
  unfold padF
  rw [hc.1]
  generalize cF a = c at hc
  obtain ⟨_, hr⟩ := hc
  rw [setLen_eq _ _ (bufF_length c) 8 zz14, List.append_assoc c]
  have hx : c.length % 64 + (List.replicate (56 - c.length % 64) (0 : UInt8) ++ lenBMm (of64 (a.length : Nat) * 8) 8).length = 64 := by
    rw [List.length_append, List.length_replicate, lenB_lengthMm]; omega
  rw [(put_full c _ hx).1, hx]
  congr 2
  have e1 : (bufF c).drop (56 + 8) = [] := List.drop_of_length_le (by rw [bufF_length]; omega)
  rw [e1, List.append_nil, List.append_nil, ← List.append_assoc]
  congr 1
  rw [buf_take]
  unfold bufF
  have e3 : (c.drop (64 * (c.length / 64))).length = c.length % 64 := by rw [List.length_drop]; omega
  rw [List.take_append, List.take_of_length_le zz14, e3, List.take_replicate]
  congr 2; omega
theorem join_sum (ps : List (List UInt8)) : joinF ps = sumF ps.flatten := by unfold joinF sumF; rw [blocks_pad]
def shortF (bs : List UInt8) : List UInt8 := (sumF bs).take 16
theorem shortF_length (bs : List UInt8) : (shortF bs).length = 16 := by rw [shortF, List.length_take, sumF_length]; rfl
theorem one_flat (bs : List UInt8) : [bs].flatten = bs := by simp
end Go.Proofs.YtgnablliekgbgaaDoor
namespace Go.Proofs.YtgnablliekgbgaaDoor
open Go Go.PL Go.RowKit
def Glb (w : World) : Prop := CellsAt w.cell? ⟨0, 0, none⟩ (v32s rootsL) ∧ 0 < w.heap.size
theorem glob {w0 w : World} {M : List Ent} {S : List Fact} (h : Mem w0 [] M S w) (hG : Glb w0) : Glb w := ⟨h.at_old hG.1, Nat.lt_of_lt_of_le hG.2 h.size⟩
theorem shortW (bv : Value) (bs : List UInt8) (w : World) (hb : Seen w.cell? bv bs.length 1 (v8s bs)) (hG : Glb w) : Calls Tryd.prog 85 [bv].toArray w (Pur w (.agg (v8s (shortF bs)).toArray)) := by
  have := short bv bs w hb hG.1 hG.2
  rwa [join_sum, one_flat] at this
theorem eq8_41Mm : Eq8 Tryd.prog 41 16 := eqc_array Tryd.underlying41 Tryd.ti41 Tryd.ti5 rfl (eqc_int Tryd.underlying5 Tryd.ti5)
end Go.Proofs.YtgnablliekgbgaaDoor
