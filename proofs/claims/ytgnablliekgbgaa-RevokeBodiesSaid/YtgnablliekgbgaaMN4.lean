/- What the statement reaches, in order. -/
import Derived.Test.YtgnablliekgbgaaMNPLL
import Derived.Test.YtgnablliekgbgaaMNTI
import Derived.Lib.BufferRead
import Derived.Lib.ConvBytes
import Derived.Laws.IdiomStrings
import Derived.Test.YtgnablliekgbgaaMNPLH
import Derived.Recover
import Derived.Test.YtgnablliekgbgaaMNPLZ
import Derived.WalkKit
import Derived.ProofKit
import Derived.OpenShut
import Derived.ShutString
import Derived.ChangeOld
import Derived.Below
import Derived.SizedLaws
import Derived.Lib.SmallJoins
import Derived.Carry
import Derived.Test.YtgnablliekgbgaaMN3
set_option linter.unusedSimpArgs false
set_option linter.unusedVariables false
set_option maxRecDepth 100000
namespace Go.Proofs.Ytgnablliekgbgaa
open Go Go.PL Go.RowKit
def okL (l : Rv) : Prop := chkR l = 0 ∧ (∀ x ∈ l.chs, x.length = 16) ∧ (∀ x ∈ l.ps, x.length = 16)
structure ChkI (l : Rv) : Prop where
  nm : l.nm.length ≤ 40
  fr0 : 0 ≤ l.fr
  fr1 : l.fr ≤ 1099511627776
  tt0 : 0 ≤ l.tt
  tt1 : l.tt ≤ 1099511627776
  ss : l.ss.length ≤ 500
  ix0 : 0 ≤ l.ix
  ix1 : l.ix ≤ 16
  c : l.chs.length ≤ 35
  p : l.ps.length ≤ 4
theorem sg_inv {ix : Int} {nc np : Nat} (h : gsigB ix nc np = true) : 0 ≤ ix ∧ ix ≤ 16 ∧ nc ≤ 35 ∧ np ≤ 4 := by
  unfold gsigB at h
  rw [Bool.or_eq_true, decide_eq_true_eq] at h
  rcases h with h | h
  · unfold sigB at h
    simp only [Bool.not_eq_true', Bool.or_eq_false_iff, decide_eq_false_iff_not] at h
    omega
  · unfold sgChk at h
    split at h
    · rename_i h1
      split at h
      · rename_i h2
        rw [Int.toNat_natCast] at h2
        have := pow_le16 (m := np) zz10
        omega
      · cases h
    · cases h
theorem chk_all {l : Rv} (h : chkR l = 0) : ChkI l := by
  unfold chkR at h
  split at h
  · cases h
  · rename_i h1
    split at h
    · rename_i h2
      unfold okR okA at h2
      simp only [Bool.and_eq_true, decide_eq_true_eq] at h2
      obtain ⟨⟨⟨a1, a2⟩, a3⟩, _⟩ := h2
      have a4 := sg_inv a3
      unfold nameF at a1
      unfold winF timeF at a2
      simp only [Bool.and_eq_true, decide_eq_true_eq] at a1 a2
      exact ⟨a1.1.2, a2.1.1.1, a2.1.1.2, a2.1.2.1, a2.1.2.2, zz10, a4.1, a4.2.1, a4.2.2.1, a4.2.2.2⟩
    · cases h
theorem chk_lim {l : Rv} (h : chkR l = 0) : RLim l := by
  have q := chk_all h
  exact ⟨by have := q.nm; omega, by have := q.ss; omega, by have := q.c; omega, by have := q.p; omega⟩
theorem seq_mk {g : UInt8} {ks : List Tr} {lo hi : Nat} (h1 : lo ≤ ks.length) (h2 : ks.length ≤ hi) : (rdSeq (.nd g [] ks) g lo hi).2 = 0 ∧ lsT (.nd g [] ks) g lo hi = ks := by
  have hb : ¬ badL g lo hi (.nd g [] ks) := by
    rintro (h | h | h | h)
    · exact h rfl
    · exact absurd h (by show ¬ 0 < 0; omega)
    · have h : (ks.length : Int) < lo := h
      omega
    · have h : (hi : Int) < ks.length := h
      omega
  exact ⟨by rw [rdSeq, if_neg hb], by rw [lsT, if_neg hb]; rfl⟩
theorem num_mk {g : UInt8} {z mx : UInt64} (h : z.toNat ≤ mx.toNat) : rdNum (.nd g (numB z.toNat) []) g mx = (z, 0) := by
  rw [rdNum_num, if_neg]
  rintro (h | h)
  · exact h rfl
  · omega
theorem str_mk {g : UInt8} {bs : List UInt8} {mx : Int} (h : (bs.length : Int) ≤ mx) : rdStr (.nd g bs []) g mx = (bs, 0) := by
  rw [rdStr_str, if_neg]
  rintro (h | h)
  · exact h rfl
  · omega
theorem flat_inj : ∀ {a b : List (List UInt8)}, (∀ x ∈ a, x.length = 16) → (∀ x ∈ b, x.length = 16) → a.flatten = b.flatten → a = b
  | [], [], _, _, _ => rfl
  | [], y :: b, _, hb, h => by
    have := congrArg List.length h
    rw [List.flatten_cons, List.length_append, hb y (List.mem_cons_self ..)] at this
    first | (simp at this; done) | (simp at this; omega)
  | x :: a, [], ha, _, h => by
    have := congrArg List.length h
    rw [List.flatten_cons, List.length_append, ha x (List.mem_cons_self ..)] at this
    first | (simp at this; done) | (simp at this; omega)
  | x :: a, y :: b, ha, hb, h => by
    rw [List.flatten_cons, List.flatten_cons] at h
    obtain ⟨h1, h2⟩ := List.append_inj h (by rw [ha x (List.mem_cons_self ..), hb y (List.mem_cons_self ..)])
    rw [h1, flat_inj (fun z hz => ha z (List.mem_cons_of_mem _ hz)) (fun z hz => hb z (List.mem_cons_of_mem _ hz)) h2]
theorem shF_of {l : List (List UInt8)} (h : ∀ x ∈ l, x.length = 16) : shE l.flatten = 0 ∧ shF l.flatten = l := by
  have h1 := flat_len l h
  have h2 : shE l.flatten = 0 := by unfold shE; rw [if_neg zz10]
  exact ⟨h2, flat_inj shK_all h (shF_flat h2)⟩
theorem of64_int {i : Int} (h0 : 0 ≤ i) (h1 : i ≤ 1099511627776) : (((of64 i).toNat : Nat) : Int) = i := by
  obtain ⟨n, rfl⟩ : ∃ n : Nat, i = n := ⟨i.toNat, zz10⟩
  rw [of64_nat zz10]
theorem sers_mk (ss : List UInt64) : serS (sersT ss) = ss ∧ ∀ t ∈ sersT ss, (rdNum t 5 18446744073709551615).2 = 0 := by
  induction ss with
  | nil => exact ⟨rfl, fun t ht => by cases ht⟩
  | cons s ss ih =>
    have e : rdNum (serT s) 5 18446744073709551615 = (s, 0) := num_mk (by have := s.toNat_lt; show s.toNat ≤ 18446744073709551615; omega)
    refine ⟨?_, fun t ht => ?_⟩
    · show (rdNum (serT s) 5 18446744073709551615).1 :: serS (sersT ss) = _
      rw [e, ih.1]
    · rcases List.mem_cons.1 ht with rfl | ht
      · rw [e]
      · exact ih.2 t ht
theorem of_whole {l : Rv} (h : okL l) (sv cv pv : Value) : OkT (wholeT l) ∧ (outR (wholeT l) sv cv pv).eqv l := by
  have q := chk_all h.1
  obtain ⟨q1, q2, q3, q4, q5, q6, q7, q8, q9, q10⟩ := q
  have c1 := flat_len l.chs h.2.1
  have c2 := flat_len l.ps h.2.2
  obtain ⟨w1, w2⟩ := seq_mk (g := 135) (ks := [bodyT l, sigT l]) (lo := 2) (hi := 2) (Nat.le_refl _) (Nat.le_refl _)
  have eW : wT (wholeT l) = [bodyT l, sigT l] := w2
  obtain ⟨f1, f2⟩ := seq_mk (g := 134) (ks := (bodyT l).kids) (lo := 5) (hi := 5) (Nat.le_refl _) (Nat.le_refl _)
  obtain ⟨g1, g2⟩ := seq_mk (g := 131) (ks := (sigT l).kids) (lo := 3) (hi := 3) (Nat.le_refl _) (Nat.le_refl _)
  have eF : fT (wholeT l) = (bodyT l).kids := by unfold fT; rw [eW]; exact f2
  have eG : gT (wholeT l) = (sigT l).kids := by unfold gT; rw [eW]; exact g2
  obtain ⟨l1, l2⟩ := seq_mk (g := 129) (ks := sersT l.ss) (lo := 0) (hi := 500) (Nat.zero_le _) (by rw [sersT_len]; exact q6)
  have eL : lT (wholeT l) = sersT l.ss := by unfold lT; rw [eF]; exact l2
  have n0 : rdStr ((bodyT l).kids.getD 0 Tr.z) 1 40 = (l.nm, 0) := str_mk zz10
  have n1 : rdNum ((bodyT l).kids.getD 1 Tr.z) 2 18446744073709551615 = (l.no, 0) := num_mk (by have := l.no.toNat_lt; show l.no.toNat ≤ 18446744073709551615; omega)
  have i2 := of64_int q2 q3
  have i3 := of64_int q4 q5
  have i4 := of64_int q7 zz10
  have n2 : rdNum ((bodyT l).kids.getD 2 Tr.z) 3 1099511627776 = (of64 l.fr, 0) := num_mk (by show (of64 l.fr).toNat ≤ 1099511627776; omega)
  have n3 : rdNum ((bodyT l).kids.getD 3 Tr.z) 4 1099511627776 = (of64 l.tt, 0) := num_mk (by show (of64 l.tt).toNat ≤ 1099511627776; omega)
  have n4 : rdNum ((sigT l).kids.getD 0 Tr.z) 1 16 = (of64 l.ix, 0) := num_mk (by show (of64 l.ix).toNat ≤ 16; omega)
  have n5 : rdStr ((sigT l).kids.getD 1 Tr.z) 2 65536 = (l.chs.flatten, 0) := str_mk zz10
  have n6 : rdStr ((sigT l).kids.getD 2 Tr.z) 3 65536 = (l.ps.flatten, 0) := str_mk zz10
  have s1 := shF_of h.2.1
  have s2 := shF_of h.2.2
  refine ⟨⟨w1, by rw [eW]; exact f1, by rw [eW]; exact g1, by rw [eF, n0], by rw [eF, n1], by rw [eF, n2], by rw [eF, n3], by rw [eF]; exact l1, by rw [eL]; exact (sers_mk l.ss).2, by rw [eG, n4], by rw [eG, n5], by rw [eG, n6], by rw [eG, n5]; exact s1.1, by rw [eG, n6]; exact s2.1⟩, ?_⟩
  refine ⟨?_, ?_, ⟨?_, ?_⟩, ?_, ?_, ?_, ?_⟩
  · show (rdStr ((fT (wholeT l)).getD 0 Tr.z) 1 40).1 = l.nm
    rw [eF, n0]
  · show (rdNum ((fT (wholeT l)).getD 1 Tr.z) 2 18446744073709551615).1 = l.no
    rw [eF, n1]
  · show (((rdNum ((fT (wholeT l)).getD 2 Tr.z) 3 1099511627776).1.toNat : Nat) : Int) = l.fr
    rw [eF, n2]; exact i2
  · show (((rdNum ((fT (wholeT l)).getD 3 Tr.z) 4 1099511627776).1.toNat : Nat) : Int) = l.tt
    rw [eF, n3]; exact i3
  · show serS (lT (wholeT l)) = l.ss
    rw [eL]; exact (sers_mk l.ss).1
  · show (((rdNum ((gT (wholeT l)).getD 0 Tr.z) 1 16).1.toNat : Nat) : Int) = l.ix
    rw [eG, n4]; exact i4
  · show shF (rdStr ((gT (wholeT l)).getD 1 Tr.z) 2 65536).1 = l.chs
    rw [eG, n5]; exact s1.2
  · show shF (rdStr ((gT (wholeT l)).getD 2 Tr.z) 3 65536).1 = l.ps
    rw [eG, n6]; exact s2.2
theorem eqv_chk {a b : Rv} (h : a.eqv b) : chkR a = chkR b := by
  obtain ⟨nm, no, fr, tt, sv, ss, ix, cv, chs, pv, ps⟩ := a
  obtain ⟨nm2, no2, fr2, tt2, sv2, ss2, ix2, cv2, chs2, pv2, ps2⟩ := b
  obtain ⟨e1, e2, ⟨e3, e4⟩, e5, e6, e7, e8⟩ := h
  dsimp only at e1 e2 e3 e4 e5 e6 e7 e8
  subst e1 e2 e3 e4 e5 e6 e7 e8
  rfl
theorem eqv_refl (a : Rv) : a.eqv a := ⟨rfl, rfl, ⟨rfl, rfl⟩, rfl, rfl, rfl, rfl⟩
theorem enc_dec {l : Rv} (h : okL l) : decF (enc (wholeT l)) = (wholeT l, 0) := dec_enc (sm_whole (chk_lim h.1) h.2.1 h.2.2) (chk_whole h.1 (chk_lim h.1) h.2.1 h.2.2)
def DecP (xs : List UInt8) (y : Rv) (e : Int) : Prop := (e = 0 ∧ okL y ∧ enc (wholeT y) = xs) ∨ (e = 12 ∧ y.eqv Rv.z ∧ ∀ l, okL l → enc (wholeT l) ≠ xs)
theorem dec_yes {xs : List UInt8} {sv cv pv : Value} (h : endE (decF xs).2 (decF xs).1 = 0) (hc : chkR (outR (decF xs).1 sv cv pv) = 0) : DecP xs (outR (decF xs).1 sv cv pv) 0 := by
  obtain ⟨h0, h1⟩ := endE_0.1 h
  exact .inl ⟨rfl, ⟨hc, shK_all, shK_all⟩, by rw [whole_of h1]; exact (dec_inv h0).2⟩
theorem dec_no1 {xs : List UInt8} (h : endE (decF xs).2 (decF xs).1 ≠ 0) : DecP xs Rv.z 12 := .inr ⟨rfl, eqv_refl _, fun l hl e => by
  subst e
  rw [enc_dec hl] at h
  exact h (endE_0.2 ⟨rfl, (of_whole hl nl nl nl).1⟩)⟩
theorem dec_no2 {xs : List UInt8} {sv cv pv : Value} (hc : chkR (outR (decF xs).1 sv cv pv) ≠ 0) : DecP xs Rv.z 12 := .inr ⟨rfl, eqv_refl _, fun l hl e => by
  subst e
  rw [enc_dec hl] at hc
  exact hc ((eqv_chk (of_whole hl sv cv pv).2).trans hl.1)⟩
end Go.Proofs.Ytgnablliekgbgaa
namespace Go.Proofs.Ytgnablliekgbgaa
open Go Go.PL Go.RowKit
theorem eqv_symm {a b : Rv} (h : a.eqv b) : b.eqv a := ⟨h.1.symm, h.2.1.symm, ⟨h.2.2.1.1.symm, h.2.2.1.2.symm⟩, h.2.2.2.1.symm, h.2.2.2.2.1.symm, h.2.2.2.2.2.1.symm, h.2.2.2.2.2.2.symm⟩
theorem eqv_trans {a b c : Rv} (h : a.eqv b) (k : b.eqv c) : a.eqv c := ⟨h.1.trans k.1, h.2.1.trans k.2.1, ⟨h.2.2.1.1.trans k.2.2.1.1, h.2.2.1.2.trans k.2.2.1.2⟩, h.2.2.2.1.trans k.2.2.2.1, h.2.2.2.2.1.trans k.2.2.2.2.1, h.2.2.2.2.2.1.trans k.2.2.2.2.2.1, h.2.2.2.2.2.2.trans k.2.2.2.2.2.2⟩
theorem dec_inj {a b : Rv} (ha : okL a) (hb : okL b) (h : enc (wholeT a) = enc (wholeT b)) : a.eqv b := by
  have e : wholeT b = wholeT a := by
    have h1 := enc_dec ha
    rw [h, enc_dec hb] at h1
    exact congrArg Prod.fst h1
  have qa := (of_whole ha nl nl nl).2
  rw [← e] at qa
  exact eqv_trans (eqv_symm qa) (of_whole hb nl nl nl).2
theorem DecP.uniq {xs : List UInt8} {y z : Rv} {e f : Int} (h : DecP xs y e) (k : DecP xs z f) : y.eqv z ∧ e = f := by
  rcases h with ⟨he, ho, hx⟩ | ⟨he, hz, hn⟩ <;> rcases k with ⟨ke, ko, kx⟩ | ⟨ke, kz, kn⟩
  · exact ⟨dec_inj ho ko (hx.trans kx.symm), he.trans ke.symm⟩
  · exact absurd hx (kn _ ho)
  · exact absurd kx (hn _ ko)
  · exact ⟨eqv_trans hz (eqv_symm kz), he.trans ke.symm⟩
end Go.Proofs.Ytgnablliekgbgaa
namespace Go.Proofs.Ytgnablliekgbgaa
open Go Go.PL Go.RowKit
def lsH (y : Value × List HT) : HT := .nd 0 nl [] y.1 y.2
theorem lsH_frz {w0 w : World} {M : List Ent} {S : List Fact} (y : Value × List HT) (h : Mem w0 [] (rowsL y.1 y.2 ++ M) S w) : Mem w0 [] M (Go.Proofs.Ytgnablliekgbgaa.hseen (lsH y) :: S) w := Mem.freezeT (t := lsH y) (M := M) (h.nilRow 5 1)
theorem hseen_rdo {w0 w : World} {Ln : List Nat} {M M1 : List Ent} {S : List Fact} {t : HT} (h : Mem w0 Ln M S w) (hs : Go.Proofs.Ytgnablliekgbgaa.hseen t ∈ S) (hM : ∀ e ∈ M1, e ∈ M) : HSeen (rdO (nums M1) w) t := (h.facts _ hs : HSeen (rdF w0.heap.size M w) t).mono fun a u hu => by
  unfold rdF at hu
  split at hu
  · rename_i h1
    unfold rdO
    rw [if_neg]
    · exact hu
    · intro hm
      obtain ⟨e, he, hn⟩ := mem_nums.1 hm
      exact inM_not h1.2 e (hM e he) hn
  · cases hu
theorem HSeen.lsK {r : Rd} {y : Value × List HT} (h : HSeen r (lsH y)) {i : Nat} (hi : i < y.2.length) : HSeen r (y.2.getD i HT.z) := HSeen.kid h hi
theorem HSeen.lsS {r : Rd} {y : Value × List HT} (h : HSeen r (lsH y)) : Seen r y.1 y.2.length 3 (hcs y.2) := h.2.1
section
variable {P : Program} {n : Cx} {L : Slots} {Q : Exit → Act → World → Prop} {w0 : World} {M : List Ent} {S : List Fact}
theorem selC_rem {α : Type} {m l : List α} {x : α} (h : Rem m x l) : SelC (x :: l) m := ⟨.cons h (Sel.sub (Sub.refl l))⟩
theorem t_callLS {f : Operand} {k : FuncId} {first cap : Array Value} {args : Array Operand} {at_ : Array TypeId} {vs : List Value} {p : Value × List HT → Prop} (e e' : Ent) {X : List Ent} [hr : RemC M e X]
    (hf : ev L f = some (.func (.func k) first cap)) (hb : HasBody P k) (hv : evs L args.toList = some vs)
    (hc : ∀ w, Mem w0 [] M S w → Mem w (nums [e]) [e] [] w → Calls P k (first ++ vs.toArray ++ cap) w (GivesA w [e] p (fun y => y.1) (fun y => e' :: rowsL y.1 y.2))) :
    TOpP P Q n (Mem w0 [] M S) L (.call { callee := .value f, args := args, argTypes := at_ }) (Value × List HT) p (fun y => y.1) (fun y => Mem w0 [] (e' :: X) (Go.Proofs.Ytgnablliekgbgaa.hseen (lsH y) :: S)) :=
  haveI : SelC (e :: X) M := selC_rem hr.h
  t_callW (N := fun y : Value × List HT => e' :: rowsL y.1 y.2) [e] X (e :: X) (fun _ => e' :: X) (fun y => Go.Proofs.Ytgnablliekgbgaa.hseen (lsH y) :: S) rfl (fun y _ _ h => lsH_frz y (h.perm List.perm_middle.symm)) hf hb hv hc
theorem t_callU {f : Operand} {k : FuncId} {first cap : Array Value} {args : Array Operand} {at_ : Array TypeId} {vs : List Value} {V : Unit → Value} (e e' : Ent) {X : List Ent} [hr : RemC M e X]
    (hf : ev L f = some (.func (.func k) first cap)) (hb : HasBody P k) (hv : evs L args.toList = some vs)
    (hc : ∀ w, Mem w0 [] M S w → Mem w (nums [e]) [e] [] w → Calls P k (first ++ vs.toArray ++ cap) w (GivesA w [e] (fun _ : Unit => True) V (fun _ => [e']))) :
    TOpP P Q n (Mem w0 [] M S) L (.call { callee := .value f, args := args, argTypes := at_ }) Unit (fun _ => True) V (fun _ => Mem w0 [] (e' :: X) S) :=
  haveI : SelC (e :: X) M := selC_rem hr.h
  t_callW (N := fun _ : Unit => [e']) [e] X (e :: X) (fun _ => e' :: X) (fun _ => S) rfl (fun _ _ _ h => h) hf hb hv hc
theorem t_callUR {f : Operand} {k : FuncId} {first cap : Array Value} {args : Array Operand} {at_ : Array TypeId} {vs : List Value} {p : Value → Prop} {r : Value → Ent} (e e' : Ent) {X : List Ent} [hr : RemC M e X]
    (hf : ev L f = some (.func (.func k) first cap)) (hb : HasBody P k) (hv : evs L args.toList = some vs)
    (hc : ∀ w, Mem w0 [] M S w → Mem w (nums [e]) [e] [] w → Calls P k (first ++ vs.toArray ++ cap) w (GivesA w [e] p (fun y => y) (fun y => [e', r y]))) :
    TOpP P Q n (Mem w0 [] M S) L (.call { callee := .value f, args := args, argTypes := at_ }) Value p (fun y => y) (fun y => Mem w0 [] (e' :: r y :: X) S) :=
  haveI : SelC (e :: X) M := selC_rem hr.h
  t_callW (N := fun y : Value => [e', r y]) [e] X (e :: X) (fun y => e' :: r y :: X) (fun _ => S) rfl (fun _ _ _ h => h) hf hb hv hc
end
theorem rdrListF (eb : Nat) (t : HT) (T : Tr) (g : UInt8) (lo hi : Nat) (cur : Int) (w : World) (hB : Mem w (nums [.blk eb 33 [.int .i64 cur]]) [.blk eb 33 [.int .i64 cur]] [] w) (ht : HSeen (rdO (nums [.blk eb 33 [.int .i64 cur]]) w) t) (hT : t.tr = T) (hsm : Sm T) (hlo : lo ≤ 10) : Calls Try.prog 52 [.agg #[(.func (.func 49) #[] #[.pointer (some ⟨eb, 0, none⟩)])], .agg t.c.toArray, .int .u8 (g.toNat : Int), .int .i64 ((lo : Nat) : Int), .int .i64 ((hi : Nat) : Int)].toArray w (GivesA w [.blk eb 33 [.int .i64 cur]] (fun y : Value × List HT => trs y.2 = lsT T g lo hi ∧ SV y.1 y.2.length ∧ ∀ x ∈ y.2, x.sv) (fun y => y.1) (fun y => .blk eb 33 [.int .i64 (orE cur (((rdSeq T g lo hi).2 : Nat) : Int))] :: rowsL y.1 y.2)) := by
  subst hT
  exact rdrList eb t g lo hi cur w hB ht hsm hlo
theorem rdrNumF (eb : Nat) (t : HT) (T : Tr) (g : UInt8) (mx : UInt64) (cur : Int) (w : World) (hB : Mem w (nums [.blk eb 33 [.int .i64 cur]]) [.blk eb 33 [.int .i64 cur]] [] w) (ht : HSeen (rdO (nums [.blk eb 33 [.int .i64 cur]]) w) t) (hT : t.tr = T) : Calls Try.prog 51 [.agg #[(.func (.func 49) #[] #[.pointer (some ⟨eb, 0, none⟩)])], .agg t.c.toArray, .int .u8 (g.toNat : Int), .int .u64 (mx.toNat : Int)].toArray w (GivesA w [.blk eb 33 [.int .i64 cur]] (fun _ : Unit => True) (fun _ => .int .u64 ((rdNum T g mx).1.toNat : Int)) (fun _ => [.blk eb 33 [.int .i64 (orE cur (((rdNum T g mx).2 : Nat) : Int))]])) := by
  subst hT
  exact rdrNum eb t g mx cur w hB ht
theorem rdrStrF (eb : Nat) (t : HT) (T : Tr) (g : UInt8) (mx : Int) (cur : Int) (w : World) (hB : Mem w (nums [.blk eb 33 [.int .i64 cur]]) [.blk eb 33 [.int .i64 cur]] [] w) (ht : HSeen (rdO (nums [.blk eb 33 [.int .i64 cur]]) w) t) (hT : t.tr = T) : Calls Try.prog 53 [.agg #[(.func (.func 49) #[] #[.pointer (some ⟨eb, 0, none⟩)])], .agg t.c.toArray, .int .u8 (g.toNat : Int), .int .i64 mx].toArray w (GivesA w [.blk eb 33 [.int .i64 cur]] (fun _ : Unit => True) (fun _ => str (rdStr T g mx).1) (fun _ => [.blk eb 33 [.int .i64 (orE cur (((rdStr T g mx).2 : Nat) : Int))]])) := by
  subst hT
  exact rdrStr eb t g mx cur w hB ht
theorem rdrShF (eb : Nat) (t : HT) (T : Tr) (g : UInt8) (cur : Int) (w : World) (hB : Mem w (nums [.blk eb 33 [.int .i64 cur]]) [.blk eb 33 [.int .i64 cur]] [] w) (ht : HSeen (rdO (nums [.blk eb 33 [.int .i64 cur]]) w) t) (hT : t.tr = T) (hbl : T.bs.length ≤ 1000000) : Calls Try.prog 54 [.agg #[(.func (.func 49) #[] #[.pointer (some ⟨eb, 0, none⟩)])], .agg t.c.toArray, .int .u8 (g.toNat : Int)].toArray w (GivesA w [.blk eb 33 [.int .i64 cur]] (fun y : Value => SV y (shF (rdStr T g 65536).1).length) (fun y => y) (fun y => [.blk eb 33 [.int .i64 (orE (orE cur (((rdStr T g 65536).2 : Nat) : Int)) (shE (rdStr T g 65536).1))], .row y (shF (rdStr T g 65536).1).length 62 16 (v8s (shF (rdStr T g 65536).1).flatten)])) := by
  subst hT
  exact rdrShorts eb t g cur w hB ht hbl
end Go.Proofs.Ytgnablliekgbgaa
namespace Go.Proofs.Ytgnablliekgbgaa
open Go Go.PL Go.RowKit
set_option maxHeartbeats 2000000
instance oneC_func {f : Fn} {p : Value} : OneC [Value.func f #[] #[p]] := OneC.cons rfl oneC_nil
theorem accE_nil {c : Int} : accE c [] = c := rfl
theorem built_sg {x : Int} {u v : Value} {n m : Nat} (hu : SV u n) (hv : SV v m) : Try.prog.built 28 [(0, .int .i64 x), (1, u), (2, v)] = some [.int .i64 x, u, v].toArray := by
  obtain ⟨a, cap, rfl, _⟩ := hu
  obtain ⟨a2, cap2, rfl, _⟩ := hv
  kernel_rfl
theorem built_rz : Try.prog.built 30 [] = some Rv.z.c.toArray := by kernel_rfl
theorem bne_f {a b : Int} (h : (a != b) = false) : a = b := by simpa using h
theorem len_trs {l : List HT} {L : List Tr} (h : trs l = L) : l.length = L.length := by rw [← h, trs_length]
theorem wT_len (T : Tr) : (wT T).length = 2 := lsT_len
theorem fT_len (T : Tr) : (fT T).length = 5 := lsT_len
theorem gT_len (T : Tr) : (gT T).length = 3 := lsT_len
theorem lT_le (T : Tr) : (lT T).length ≤ 500 := lsT_le
def rvE (y : Rv) : List Ent := [.row y.sv y.ss.length 22 1 (v64s y.ss), .row y.cv y.chs.length 62 16 (v8s y.chs.flatten), .row y.pv y.ps.length 62 16 (v8s y.ps.flatten)]
theorem rvE_z {w0 w : World} {M : List Ent} {S : List Fact} (h : Mem w0 [] M S w) : New w0.heap.size (rvE Rv.z) [] w := (show New w0.heap.size [Ent.row nl 0 22 1 [], Ent.row nl 0 62 16 [], Ent.row nl 0 62 16 []] [] w from (((h.nilRow 62 16).nilRow 62 16).nilRow 22 1).made SubC.h .nil)
theorem rdNum_le (t : Tr) (g : UInt8) (mx : UInt64) : (rdNum t g mx).1.toNat ≤ mx.toNat := by
  unfold rdNum
  split
  · exact Nat.zero_le _
  · split
    · exact Nat.zero_le _
    · show (UInt64.ofNat (numOf t.bs)).toNat ≤ _
      rw [UInt64.toNat_ofNat']
      exact Nat.le_trans (Nat.mod_le _ _) zz10
theorem hcs_part {l : List HT} {i : Nat} (h : i < l.length) : ((hcs l).drop (i * 3)).take 3 = (l.getD i HT.z).c := cat_part HT.c_length HT.z h
theorem bs_le {t : Tr} (h : Sm t) : t.bs.length ≤ 1000000 := by
  obtain ⟨tg, bs, l⟩ := t
  have h : bs.length + bytL l + 5 * (1 + cntL l) ≤ 1000000 := h
  show bs.length ≤ _
  omega
theorem Rv.z_svs : Rv.z.svs := ⟨SV.nil, SV.nil, SV.nil⟩
instance oneC_rvz : OneC Rv.z.c := Rv.z_svs.one
theorem decodeR (av : Value) (xs : List UInt8) (w : World) (hav : Seen w.cell? av xs.length 1 (v8s xs))  :
    Calls Try.prog 21 [av].toArray w (GivesP w (fun y : Rv × Int => DecP xs y.1 y.2 ∧ y.1.svs) (fun y => .tuple #[.agg y.1.c.toArray, .int .i64 y.2]) (fun y => rvE y.1) (fun _ => [])) := by
  have sav := hav.sv
  have lav := sav.le
  simp only [maxLen] at lav
  have sav := hav.sv
  refine enter (m := 109) (R := Mem w [] [] []) Try.func21 rfl rfl (Nat.le_of_ble_eq_true rfl) (Mem.start w) ?_
  refine wpc_seq <| wpc_region ?_
  refine wpl_t (t_alloc Try.ti30 Rv.z.c rfl) rfl (fun b2 => ?_)
  refine wpl_q (q_pure rfl) rfl <| wpl_nil <| ex_then <| wpc_seq <| wpc_region <| wpl_q (q_pure rfl) rfl ?_
  refine wpl_tp (t_callPT Try.hb48 rfl fun w h => frz (decode av xs w (h.seen_old hav))) rfl (fun b17 p17 => ?_)
  haveI := p17.2.one
  have hsmT : Sm b17.tr := by rw [p17.1]; exact (decF_sm xs).1
  refine wpl_q (q_pure rfl) rfl <| wpl_q (q_pure rfl) rfl <| wpl_q (q_pure rfl) rfl ?_
  refine wpl_t (t_alloc Try.ti72 HT.z.c rfl) rfl (fun b4 => ?_)
  refine wpl_t (t_alloc Try.ti33 [.int .i64 0] rfl) rfl (fun b5 => ?_)
  refine wpl_t0 (t_stA Try.ti72 rfl rfl LenC.h OneC.h LenC.h) (fun _ => ?_)
  refine wpl_t0 (t_st1 Try.ti33 rfl rfl rfl zz3 [.int .i64 (decF xs).2] rfl) (fun _ => ?_)
  refine wpl_nil <| ex_then <| wpc_seq <| wpc_region ?_
  refine wpl_q (q_fn (us := []) (vs := [.pointer (some ⟨b5, 0, none⟩)]) rfl rfl) rfl ?_
  refine wpl_q (q_build (cs := [(.func (.func 49) #[] #[.pointer (some ⟨b5, 0, none⟩)])]) rfl zz5) rfl ?_
  refine wpl_t (t_alloc Try.ti84 [.nilFunc] rfl) rfl (fun b6 => ?_)
  refine wpl_t0 (t_stA Try.ti84 rfl rfl LenC.h OneC.h LenC.h) (fun _ => ?_)
  refine wpl_nil <| ex_then <| wpc_seq ?_
  refine wpc_draw 6 zz5 (fun _ h => h.drew) ?_
  refine wpd_q 0 rfl zz5 trivial (q_ldN Try.underlying84 rfl Try.ti84 rfl LenC.h) rfl (fun _ h => h) ?_
  refine wpd_p 1 rfl zz5 trivial (q_fn (us := [.agg #[(.func (.func 49) #[] #[.pointer (some ⟨b5, 0, none⟩)])]]) (vs := []) rfl rfl) rfl sk0 ?_
  refine wpd_q 2 rfl zz5 trivial (q_ldN Try.underlying84 rfl Try.ti84 rfl LenC.h) rfl (fun _ h => h) ?_
  refine wpd_p 3 rfl zz5 trivial (q_fn (us := [.agg #[(.func (.func 49) #[] #[.pointer (some ⟨b5, 0, none⟩)])]]) (vs := []) rfl rfl) rfl sk0 ?_
  refine wpd_p 4 rfl zz5 trivial (q_pure rfl) rfl sk0 ?_
  refine wpd_p 5 rfl zz5 trivial (q_pure rfl) rfl sk0 ?_
  refine wpd_done zz5 ?_
  refine ex_then <| wpc_seq <| wpc_region <| wpl_q (q_pure rfl) rfl <| wpl_q (q_ldN Try.underlying72 rfl Try.ti72 rfl LenC.h) rfl ?_
  refine wpl_tp (t_callLS (.blk b5 33 [.int .i64 (decF xs).2]) (.blk b5 33 [.int .i64 (orE (decF xs).2 (((rdSeq b17.tr 135 (2 : Nat) (2 : Nat)).2 : Nat) : Int))]) rfl Try.hb52 rfl fun w h h2 => rdrListF b5 b17 b17.tr 135 2 2 (decF xs).2 w h2 (hseen_rdo h zz4 zz14) rfl hsmT zz15) rfl (fun b28 p28 => ?_)
  have svl28 := p28.2.1
  have hl28 : b28.2.length = 2 := (len_trs p28.1).trans (wT_len _)
  haveI := (p28.2.2 (b28.2.getD 0 HT.z) (getD_memH zz10)).one
  haveI := (p28.2.2 (b28.2.getD 1 HT.z) (getD_memH zz10)).one
  refine wpl_q (q_pure rfl) rfl <| wpl_nil <| ex_then <| wpc_seq ?_
  refine wpc_drawM [] 99 zz5 zz8 ?_
  refine wpd_p 0 rfl zz5 trivial (q_pure rfl) rfl (fun w h => .inr (h.sub SubC.h SubC.h)) ?_
  refine wpd_p 1 rfl zz5 trivial (q_pure rfl) rfl (fun w h => .inr (h.sub SubC.h SubC.h)) ?_
  refine wpd_p 2 rfl zz5 trivial (q_idxW (j := 0) Try.underlying70 Try.ti72 rfl rfl zz1 zz0) rfl (fun w h => .inr (h.sub SubC.h SubC.h)) ?_
  refine wpd_q 3 rfl zz5 trivial (q_ldWN Try.underlying72 rfl Try.ti72 rfl (fun w h => HSeen.lsS (y := b28) (Mem.hseenF h zz4)) (b28.2.getD 0 HT.z).c (hcs_part zz10) LenC.h) rfl (fun w h => h.sub SubC.h SubC.h) ?_
  refine wpd_p 5 rfl zz5 trivial (q_pure rfl) rfl (fun w h => .inr (h.sub SubC.h SubC.h)) ?_
  refine wpd_p 6 rfl zz5 trivial (q_pure rfl) rfl (fun w h => .inr (h.sub SubC.h SubC.h)) ?_
  refine wpd_p 7 rfl zz5 trivial (q_idxW (j := 1) Try.underlying70 Try.ti72 rfl rfl zz1 zz0) rfl (fun w h => .inr (h.sub SubC.h SubC.h)) ?_
  refine wpd_q 8 rfl zz5 trivial (q_ldWN Try.underlying72 rfl Try.ti72 rfl (fun w h => HSeen.lsS (y := b28) (Mem.hseenF h zz4)) (b28.2.getD 1 HT.z).c (hcs_part zz10) LenC.h) rfl (fun w h => h.sub SubC.h SubC.h) ?_
  refine wpd_tp 4 rfl zz5 trivial (t_callLS (.blk b5 33 [.int .i64 (orE (decF xs).2 (((rdSeq b17.tr 135 (2 : Nat) (2 : Nat)).2 : Nat) : Int))]) (.blk b5 33 [.int .i64 (orE (orE (decF xs).2 (((rdSeq b17.tr 135 (2 : Nat) (2 : Nat)).2 : Nat) : Int)) (((rdSeq ((wT b17.tr).getD 0 Tr.z) 134 (5 : Nat) (5 : Nat)).2 : Nat) : Int))]) rfl Try.hb52 rfl fun w h h2 => rdrListF b5 (b28.2.getD 0 HT.z) ((wT b17.tr).getD 0 Tr.z) 134 5 5 (orE (decF xs).2 (((rdSeq b17.tr 135 (2 : Nat) (2 : Nat)).2 : Nat) : Int)) w h2 (HSeen.lsK (y := b28) (hseen_rdo h zz4 zz14) zz10) (tr_get (show trs b28.2 = wT b17.tr from p28.1) 0) (sm_get hsmT 0) zz15) rfl (fun _ => (fun w h => .inr (h.sub SubC.h SubC.h))) (fun b33 p33 => ?_)
  have hl33 : b33.2.length = 5 := (len_trs p33.1).trans (fT_len _)
  have svl33 := p33.2.1
  haveI := (p33.2.2 (b33.2.getD 0 HT.z) (getD_memH zz10)).one
  haveI := (p33.2.2 (b33.2.getD 1 HT.z) (getD_memH zz10)).one
  haveI := (p33.2.2 (b33.2.getD 2 HT.z) (getD_memH zz10)).one
  haveI := (p33.2.2 (b33.2.getD 3 HT.z) (getD_memH zz10)).one
  haveI := (p33.2.2 (b33.2.getD 4 HT.z) (getD_memH zz10)).one
  refine wpd_tp 9 rfl zz5 trivial (t_callLS (.blk b5 33 [.int .i64 (orE (orE (decF xs).2 (((rdSeq b17.tr 135 (2 : Nat) (2 : Nat)).2 : Nat) : Int)) (((rdSeq ((wT b17.tr).getD 0 Tr.z) 134 (5 : Nat) (5 : Nat)).2 : Nat) : Int))]) (.blk b5 33 [.int .i64 (orE (orE (orE (decF xs).2 (((rdSeq b17.tr 135 (2 : Nat) (2 : Nat)).2 : Nat) : Int)) (((rdSeq ((wT b17.tr).getD 0 Tr.z) 134 (5 : Nat) (5 : Nat)).2 : Nat) : Int)) (((rdSeq ((wT b17.tr).getD 1 Tr.z) 131 (3 : Nat) (3 : Nat)).2 : Nat) : Int))]) rfl Try.hb52 rfl fun w h h2 => rdrListF b5 (b28.2.getD 1 HT.z) ((wT b17.tr).getD 1 Tr.z) 131 3 3 (orE (orE (decF xs).2 (((rdSeq b17.tr 135 (2 : Nat) (2 : Nat)).2 : Nat) : Int)) (((rdSeq ((wT b17.tr).getD 0 Tr.z) 134 (5 : Nat) (5 : Nat)).2 : Nat) : Int)) w h2 (HSeen.lsK (y := b28) (hseen_rdo h zz4 zz14) zz10) (tr_get (show trs b28.2 = wT b17.tr from p28.1) 1) (sm_get hsmT 1) zz15) rfl (fun _ => (fun w h => .inr (h.sub SubC.h SubC.h))) (fun b38 p38 => ?_)
  have hl38 : b38.2.length = 3 := (len_trs p38.1).trans (gT_len _)
  have svl38 := p38.2.1
  haveI := (p38.2.2 (b38.2.getD 0 HT.z) (getD_memH zz10)).one
  haveI := (p38.2.2 (b38.2.getD 1 HT.z) (getD_memH zz10)).one
  haveI := (p38.2.2 (b38.2.getD 2 HT.z) (getD_memH zz10)).one
  refine wpd_p 10 rfl zz5 trivial (q_pure rfl) rfl (fun w h => .inr (h.sub SubC.h SubC.h)) ?_
  refine wpd_p 11 rfl zz5 trivial (q_pure rfl) rfl (fun w h => .inr (h.sub SubC.h SubC.h)) ?_
  refine wpd_done zz5 ?_
  refine ex_then ?_
  refine wpc_cutc ({ x : Nat // True }) [(2, .pointer (some ⟨b2, 0, none⟩)), (5, .pointer (some ⟨b5, 0, none⟩)), (6, .pointer (some ⟨b6, 0, none⟩)), (7, .func (.func 51) #[.agg #[(.func (.func 49) #[] #[.pointer (some ⟨b5, 0, none⟩)])]] #[]), (8, .func (.func 52) #[.agg #[(.func (.func 49) #[] #[.pointer (some ⟨b5, 0, none⟩)])]] #[]), (10, b33.1), (11, b38.1)] (fun x Lc => (12, .pointer (some ⟨x.1, 0, none⟩)) :: Lc) (fun x => Mem w [] [.blk x.1 30 [str (rdStr ((fT b17.tr).getD 0 Tr.z) 1 40).1, .int .u64 ((rdNum ((fT b17.tr).getD 1 Tr.z) 2 18446744073709551615).1.toNat : Int), .int .i64 ((rdNum ((fT b17.tr).getD 2 Tr.z) 3 1099511627776).1.toNat : Int), .int .i64 ((rdNum ((fT b17.tr).getD 3 Tr.z) 4 1099511627776).1.toNat : Int), nl, .int .i64 0, nl, nl], .blk b5 33 [.int .i64 (orE (orE (orE (orE (orE (orE (orE (decF xs).2 (((rdSeq b17.tr 135 (2 : Nat) (2 : Nat)).2 : Nat) : Int)) (((rdSeq ((wT b17.tr).getD 0 Tr.z) 134 (5 : Nat) (5 : Nat)).2 : Nat) : Int)) (((rdSeq ((wT b17.tr).getD 1 Tr.z) 131 (3 : Nat) (3 : Nat)).2 : Nat) : Int)) (((rdStr ((fT b17.tr).getD 0 Tr.z) 1 40).2 : Nat) : Int)) (((rdNum ((fT b17.tr).getD 1 Tr.z) 2 18446744073709551615).2 : Nat) : Int)) (((rdNum ((fT b17.tr).getD 2 Tr.z) 3 1099511627776).2 : Nat) : Int)) (((rdNum ((fT b17.tr).getD 3 Tr.z) 4 1099511627776).2 : Nat) : Int))], .blk b6 84 [(.func (.func 49) #[] #[.pointer (some ⟨b5, 0, none⟩)])], .blk b4 72 b17.c, .blk b2 30 Rv.z.c] [Go.Proofs.Ytgnablliekgbgaa.hseen (lsH b38), Go.Proofs.Ytgnablliekgbgaa.hseen (lsH b33), Go.Proofs.Ytgnablliekgbgaa.hseen (lsH b28), Go.Proofs.Ytgnablliekgbgaa.hseen b17]) ?_ ?_
  ·
   refine wpc_drawM [.blk b6 84 [(.func (.func 49) #[] #[.pointer (some ⟨b5, 0, none⟩)])]] 99 zz5 zz8 ?_
   refine wpd_q 0 rfl zz5 trivial (q_ldN Try.underlying84 rfl Try.ti84 rfl LenC.h) rfl (fun w h => h.sub SubC.h SubC.h) ?_
   refine wpd_p 1 rfl zz5 trivial (q_pure rfl) rfl (fun w h => .inr (h.sub SubC.h SubC.h)) ?_
   refine wpd_p 2 rfl zz5 trivial (q_idxW (j := 0) Try.underlying70 Try.ti72 rfl rfl zz1 zz0) rfl (fun w h => .inr (h.sub SubC.h SubC.h)) ?_
   refine wpd_q 3 rfl zz5 trivial (q_ldWN Try.underlying72 rfl Try.ti72 rfl (fun w h => HSeen.lsS (y := b33) (Mem.hseenF h zz4)) (b33.2.getD 0 HT.z).c (hcs_part zz10) LenC.h) rfl (fun w h => h.sub SubC.h SubC.h) ?_
   refine wpd_p 5 rfl zz5 trivial (q_pure rfl) rfl (fun w h => .inr (h.sub SubC.h SubC.h)) ?_
   refine wpd_p 6 rfl zz5 trivial (q_pure rfl) rfl (fun w h => .inr (h.sub SubC.h SubC.h)) ?_
   refine wpd_p 7 rfl zz5 trivial (q_idxW (j := 1) Try.underlying70 Try.ti72 rfl rfl zz1 zz0) rfl (fun w h => .inr (h.sub SubC.h SubC.h)) ?_
   refine wpd_q 8 rfl zz5 trivial (q_ldWN Try.underlying72 rfl Try.ti72 rfl (fun w h => HSeen.lsS (y := b33) (Mem.hseenF h zz4)) (b33.2.getD 1 HT.z).c (hcs_part zz10) LenC.h) rfl (fun w h => h.sub SubC.h SubC.h) ?_
   refine wpd_p 10 rfl zz5 trivial (q_pure rfl) rfl (fun w h => .inr (h.sub SubC.h SubC.h)) ?_
   refine wpd_p 11 rfl zz5 trivial (q_pure rfl) rfl (fun w h => .inr (h.sub SubC.h SubC.h)) ?_
   refine wpd_p 12 rfl zz5 trivial (q_idxW (j := 2) Try.underlying70 Try.ti72 rfl rfl zz1 zz0) rfl (fun w h => .inr (h.sub SubC.h SubC.h)) ?_
   refine wpd_q 13 rfl zz5 trivial (q_ldWN Try.underlying72 rfl Try.ti72 rfl (fun w h => HSeen.lsS (y := b33) (Mem.hseenF h zz4)) (b33.2.getD 2 HT.z).c (hcs_part zz10) LenC.h) rfl (fun w h => h.sub SubC.h SubC.h) ?_
   refine wpd_p 16 rfl zz5 trivial (q_pure rfl) rfl (fun w h => .inr (h.sub SubC.h SubC.h)) ?_
   refine wpd_p 17 rfl zz5 trivial (q_pure rfl) rfl (fun w h => .inr (h.sub SubC.h SubC.h)) ?_
   refine wpd_p 18 rfl zz5 trivial (q_idxW (j := 3) Try.underlying70 Try.ti72 rfl rfl zz1 zz0) rfl (fun w h => .inr (h.sub SubC.h SubC.h)) ?_
   refine wpd_q 19 rfl zz5 trivial (q_ldWN Try.underlying72 rfl Try.ti72 rfl (fun w h => HSeen.lsS (y := b33) (Mem.hseenF h zz4)) (b33.2.getD 3 HT.z).c (hcs_part zz10) LenC.h) rfl (fun w h => h.sub SubC.h SubC.h) ?_
   refine wpd_two 4 24 zz5 ?_ ?_
   ·
    refine wpa_tp 4 rfl trivial (t_callU (.blk b5 33 [.int .i64 (orE (orE (orE (decF xs).2 (((rdSeq b17.tr 135 (2 : Nat) (2 : Nat)).2 : Nat) : Int)) (((rdSeq ((wT b17.tr).getD 0 Tr.z) 134 (5 : Nat) (5 : Nat)).2 : Nat) : Int)) (((rdSeq ((wT b17.tr).getD 1 Tr.z) 131 (3 : Nat) (3 : Nat)).2 : Nat) : Int))]) (.blk b5 33 [.int .i64 (orE (orE (orE (orE (decF xs).2 (((rdSeq b17.tr 135 (2 : Nat) (2 : Nat)).2 : Nat) : Int)) (((rdSeq ((wT b17.tr).getD 0 Tr.z) 134 (5 : Nat) (5 : Nat)).2 : Nat) : Int)) (((rdSeq ((wT b17.tr).getD 1 Tr.z) 131 (3 : Nat) (3 : Nat)).2 : Nat) : Int)) (((rdStr ((fT b17.tr).getD 0 Tr.z) 1 40).2 : Nat) : Int))]) rfl Try.hb53 rfl fun w h h2 => rdrStrF b5 (b33.2.getD 0 HT.z) ((fT b17.tr).getD 0 Tr.z) 1 40 (orE (orE (orE (decF xs).2 (((rdSeq b17.tr 135 (2 : Nat) (2 : Nat)).2 : Nat) : Int)) (((rdSeq ((wT b17.tr).getD 0 Tr.z) 134 (5 : Nat) (5 : Nat)).2 : Nat) : Int)) (((rdSeq ((wT b17.tr).getD 1 Tr.z) 131 (3 : Nat) (3 : Nat)).2 : Nat) : Int)) w h2 (HSeen.lsK (y := b33) (hseen_rdo h zz4 zz14) zz10) (tr_get (show trs b33.2 = fT b17.tr from p33.1) 0)) rfl (fun _ => (fun w h => .inr (h.sub SubC.h SubC.h))) (fun b43 p43 => ?_)
    refine wpd_two 9 24 zz5 ?_ ?_
    ·
     refine wpa_tp 9 rfl trivial (t_callU (.blk b5 33 [.int .i64 (orE (orE (orE (orE (decF xs).2 (((rdSeq b17.tr 135 (2 : Nat) (2 : Nat)).2 : Nat) : Int)) (((rdSeq ((wT b17.tr).getD 0 Tr.z) 134 (5 : Nat) (5 : Nat)).2 : Nat) : Int)) (((rdSeq ((wT b17.tr).getD 1 Tr.z) 131 (3 : Nat) (3 : Nat)).2 : Nat) : Int)) (((rdStr ((fT b17.tr).getD 0 Tr.z) 1 40).2 : Nat) : Int))]) (.blk b5 33 [.int .i64 (orE (orE (orE (orE (orE (decF xs).2 (((rdSeq b17.tr 135 (2 : Nat) (2 : Nat)).2 : Nat) : Int)) (((rdSeq ((wT b17.tr).getD 0 Tr.z) 134 (5 : Nat) (5 : Nat)).2 : Nat) : Int)) (((rdSeq ((wT b17.tr).getD 1 Tr.z) 131 (3 : Nat) (3 : Nat)).2 : Nat) : Int)) (((rdStr ((fT b17.tr).getD 0 Tr.z) 1 40).2 : Nat) : Int)) (((rdNum ((fT b17.tr).getD 1 Tr.z) 2 18446744073709551615).2 : Nat) : Int))]) rfl Try.hb51 rfl fun w h h2 => rdrNumF b5 (b33.2.getD 1 HT.z) ((fT b17.tr).getD 1 Tr.z) 2 18446744073709551615 (orE (orE (orE (orE (decF xs).2 (((rdSeq b17.tr 135 (2 : Nat) (2 : Nat)).2 : Nat) : Int)) (((rdSeq ((wT b17.tr).getD 0 Tr.z) 134 (5 : Nat) (5 : Nat)).2 : Nat) : Int)) (((rdSeq ((wT b17.tr).getD 1 Tr.z) 131 (3 : Nat) (3 : Nat)).2 : Nat) : Int)) (((rdStr ((fT b17.tr).getD 0 Tr.z) 1 40).2 : Nat) : Int)) w h2 (HSeen.lsK (y := b33) (hseen_rdo h zz4 zz14) zz10) (tr_get (show trs b33.2 = fT b17.tr from p33.1) 1)) rfl (fun _ => (fun w h => .inr (h.sub SubC.h SubC.h))) (fun b48 p48 => ?_)
     refine wpd_two 14 24 zz5 ?_ ?_
     ·
      refine wpa_tp 14 rfl trivial (t_callU (.blk b5 33 [.int .i64 (orE (orE (orE (orE (orE (decF xs).2 (((rdSeq b17.tr 135 (2 : Nat) (2 : Nat)).2 : Nat) : Int)) (((rdSeq ((wT b17.tr).getD 0 Tr.z) 134 (5 : Nat) (5 : Nat)).2 : Nat) : Int)) (((rdSeq ((wT b17.tr).getD 1 Tr.z) 131 (3 : Nat) (3 : Nat)).2 : Nat) : Int)) (((rdStr ((fT b17.tr).getD 0 Tr.z) 1 40).2 : Nat) : Int)) (((rdNum ((fT b17.tr).getD 1 Tr.z) 2 18446744073709551615).2 : Nat) : Int))]) (.blk b5 33 [.int .i64 (orE (orE (orE (orE (orE (orE (decF xs).2 (((rdSeq b17.tr 135 (2 : Nat) (2 : Nat)).2 : Nat) : Int)) (((rdSeq ((wT b17.tr).getD 0 Tr.z) 134 (5 : Nat) (5 : Nat)).2 : Nat) : Int)) (((rdSeq ((wT b17.tr).getD 1 Tr.z) 131 (3 : Nat) (3 : Nat)).2 : Nat) : Int)) (((rdStr ((fT b17.tr).getD 0 Tr.z) 1 40).2 : Nat) : Int)) (((rdNum ((fT b17.tr).getD 1 Tr.z) 2 18446744073709551615).2 : Nat) : Int)) (((rdNum ((fT b17.tr).getD 2 Tr.z) 3 1099511627776).2 : Nat) : Int))]) rfl Try.hb51 rfl fun w h h2 => rdrNumF b5 (b33.2.getD 2 HT.z) ((fT b17.tr).getD 2 Tr.z) 3 1099511627776 (orE (orE (orE (orE (orE (decF xs).2 (((rdSeq b17.tr 135 (2 : Nat) (2 : Nat)).2 : Nat) : Int)) (((rdSeq ((wT b17.tr).getD 0 Tr.z) 134 (5 : Nat) (5 : Nat)).2 : Nat) : Int)) (((rdSeq ((wT b17.tr).getD 1 Tr.z) 131 (3 : Nat) (3 : Nat)).2 : Nat) : Int)) (((rdStr ((fT b17.tr).getD 0 Tr.z) 1 40).2 : Nat) : Int)) (((rdNum ((fT b17.tr).getD 1 Tr.z) 2 18446744073709551615).2 : Nat) : Int)) w h2 (HSeen.lsK (y := b33) (hseen_rdo h zz4 zz14) zz10) (tr_get (show trs b33.2 = fT b17.tr from p33.1) 2)) rfl (fun _ => (fun w h => .inr (h.sub SubC.h SubC.h))) (fun b53 p53 => ?_)
      refine wpd_p 15 rfl zz5 trivial (q64_intN Try.underlying22 Try.underlying2 rfl zz24) rfl (fun w h => .inr (h.sub SubC.h SubC.h)) ?_
      refine wpd_two 20 24 zz5 ?_ ?_
      ·
       refine wpa_tp 20 rfl trivial (t_callU (.blk b5 33 [.int .i64 (orE (orE (orE (orE (orE (orE (decF xs).2 (((rdSeq b17.tr 135 (2 : Nat) (2 : Nat)).2 : Nat) : Int)) (((rdSeq ((wT b17.tr).getD 0 Tr.z) 134 (5 : Nat) (5 : Nat)).2 : Nat) : Int)) (((rdSeq ((wT b17.tr).getD 1 Tr.z) 131 (3 : Nat) (3 : Nat)).2 : Nat) : Int)) (((rdStr ((fT b17.tr).getD 0 Tr.z) 1 40).2 : Nat) : Int)) (((rdNum ((fT b17.tr).getD 1 Tr.z) 2 18446744073709551615).2 : Nat) : Int)) (((rdNum ((fT b17.tr).getD 2 Tr.z) 3 1099511627776).2 : Nat) : Int))]) (.blk b5 33 [.int .i64 (orE (orE (orE (orE (orE (orE (orE (decF xs).2 (((rdSeq b17.tr 135 (2 : Nat) (2 : Nat)).2 : Nat) : Int)) (((rdSeq ((wT b17.tr).getD 0 Tr.z) 134 (5 : Nat) (5 : Nat)).2 : Nat) : Int)) (((rdSeq ((wT b17.tr).getD 1 Tr.z) 131 (3 : Nat) (3 : Nat)).2 : Nat) : Int)) (((rdStr ((fT b17.tr).getD 0 Tr.z) 1 40).2 : Nat) : Int)) (((rdNum ((fT b17.tr).getD 1 Tr.z) 2 18446744073709551615).2 : Nat) : Int)) (((rdNum ((fT b17.tr).getD 2 Tr.z) 3 1099511627776).2 : Nat) : Int)) (((rdNum ((fT b17.tr).getD 3 Tr.z) 4 1099511627776).2 : Nat) : Int))]) rfl Try.hb51 rfl fun w h h2 => rdrNumF b5 (b33.2.getD 3 HT.z) ((fT b17.tr).getD 3 Tr.z) 4 1099511627776 (orE (orE (orE (orE (orE (orE (decF xs).2 (((rdSeq b17.tr 135 (2 : Nat) (2 : Nat)).2 : Nat) : Int)) (((rdSeq ((wT b17.tr).getD 0 Tr.z) 134 (5 : Nat) (5 : Nat)).2 : Nat) : Int)) (((rdSeq ((wT b17.tr).getD 1 Tr.z) 131 (3 : Nat) (3 : Nat)).2 : Nat) : Int)) (((rdStr ((fT b17.tr).getD 0 Tr.z) 1 40).2 : Nat) : Int)) (((rdNum ((fT b17.tr).getD 1 Tr.z) 2 18446744073709551615).2 : Nat) : Int)) (((rdNum ((fT b17.tr).getD 2 Tr.z) 3 1099511627776).2 : Nat) : Int)) w h2 (HSeen.lsK (y := b33) (hseen_rdo h zz4 zz14) zz10) (tr_get (show trs b33.2 = fT b17.tr from p33.1) 3)) rfl (fun _ => (fun w h => .inr (h.sub SubC.h SubC.h))) (fun b59 p59 => ?_)
       refine wpd_p 21 rfl zz5 trivial (q64_intN Try.underlying22 Try.underlying2 rfl zz20) rfl (fun w h => .inr (h.sub SubC.h SubC.h)) ?_
       refine wpd_p 22 rfl zz5 trivial (q_build (cs := [.int .i64 ((rdNum ((fT b17.tr).getD 2 Tr.z) 3 1099511627776).1.toNat : Int), .int .i64 ((rdNum ((fT b17.tr).getD 3 Tr.z) 4 1099511627776).1.toNat : Int)]) rfl zz5) rfl (fun w h => .inr (h.sub SubC.h SubC.h)) ?_
       refine wpd_p 23 rfl zz5 trivial (q_build (cs := [str (rdStr ((fT b17.tr).getD 0 Tr.z) 1 40).1, .int .u64 ((rdNum ((fT b17.tr).getD 1 Tr.z) 2 18446744073709551615).1.toNat : Int), .int .i64 ((rdNum ((fT b17.tr).getD 2 Tr.z) 3 1099511627776).1.toNat : Int), .int .i64 ((rdNum ((fT b17.tr).getD 3 Tr.z) 4 1099511627776).1.toNat : Int), nl, .int .i64 0, nl, nl]) rfl zz5) rfl (fun w h => .inr (h.sub SubC.h SubC.h)) ?_
       refine wpd_t 24 rfl zz5 trivial (t_alloc Try.ti30 Rv.z.c rfl) rfl (fun _ => (fun w h => .inr (h.sub SubC.h SubC.h))) (fun b12 => ?_)
       refine wpd_t0 25 rfl zz5 trivial (t_stA Try.ti30 rfl rfl LenC.h (OneC.cons rfl (OneC.cons rfl (OneC.cons rfl (OneC.cons rfl (OneC.cons rfl (OneC.cons rfl (OneC.cons rfl (OneC.cons rfl oneC_nil)))))))).h LenC.h) (fun _ => (fun w h => .inr (h.sub SubC.h SubC.h))) (fun _ => ?_)
       refine wpd_done zz5 ?_
       refine ex_mid ⟨b12, trivial⟩ ?_ ?_
       ·
        exact zz9
       ·
        exact fun w h => h.sel
      ·
       refine wpa_t 24 rfl trivial (t_alloc Try.ti30 Rv.z.c rfl) rfl (fun _ => (fun w h => .inr (h.sub SubC.h SubC.h))) (fun b12 => ?_)
       refine wpd_tp 20 rfl zz5 trivial (t_callU (.blk b5 33 [.int .i64 (orE (orE (orE (orE (orE (orE (decF xs).2 (((rdSeq b17.tr 135 (2 : Nat) (2 : Nat)).2 : Nat) : Int)) (((rdSeq ((wT b17.tr).getD 0 Tr.z) 134 (5 : Nat) (5 : Nat)).2 : Nat) : Int)) (((rdSeq ((wT b17.tr).getD 1 Tr.z) 131 (3 : Nat) (3 : Nat)).2 : Nat) : Int)) (((rdStr ((fT b17.tr).getD 0 Tr.z) 1 40).2 : Nat) : Int)) (((rdNum ((fT b17.tr).getD 1 Tr.z) 2 18446744073709551615).2 : Nat) : Int)) (((rdNum ((fT b17.tr).getD 2 Tr.z) 3 1099511627776).2 : Nat) : Int))]) (.blk b5 33 [.int .i64 (orE (orE (orE (orE (orE (orE (orE (decF xs).2 (((rdSeq b17.tr 135 (2 : Nat) (2 : Nat)).2 : Nat) : Int)) (((rdSeq ((wT b17.tr).getD 0 Tr.z) 134 (5 : Nat) (5 : Nat)).2 : Nat) : Int)) (((rdSeq ((wT b17.tr).getD 1 Tr.z) 131 (3 : Nat) (3 : Nat)).2 : Nat) : Int)) (((rdStr ((fT b17.tr).getD 0 Tr.z) 1 40).2 : Nat) : Int)) (((rdNum ((fT b17.tr).getD 1 Tr.z) 2 18446744073709551615).2 : Nat) : Int)) (((rdNum ((fT b17.tr).getD 2 Tr.z) 3 1099511627776).2 : Nat) : Int)) (((rdNum ((fT b17.tr).getD 3 Tr.z) 4 1099511627776).2 : Nat) : Int))]) rfl Try.hb51 rfl fun w h h2 => rdrNumF b5 (b33.2.getD 3 HT.z) ((fT b17.tr).getD 3 Tr.z) 4 1099511627776 (orE (orE (orE (orE (orE (orE (decF xs).2 (((rdSeq b17.tr 135 (2 : Nat) (2 : Nat)).2 : Nat) : Int)) (((rdSeq ((wT b17.tr).getD 0 Tr.z) 134 (5 : Nat) (5 : Nat)).2 : Nat) : Int)) (((rdSeq ((wT b17.tr).getD 1 Tr.z) 131 (3 : Nat) (3 : Nat)).2 : Nat) : Int)) (((rdStr ((fT b17.tr).getD 0 Tr.z) 1 40).2 : Nat) : Int)) (((rdNum ((fT b17.tr).getD 1 Tr.z) 2 18446744073709551615).2 : Nat) : Int)) (((rdNum ((fT b17.tr).getD 2 Tr.z) 3 1099511627776).2 : Nat) : Int)) w h2 (HSeen.lsK (y := b33) (hseen_rdo h zz4 zz14) zz10) (tr_get (show trs b33.2 = fT b17.tr from p33.1) 3)) rfl (fun _ => (fun w h => .inr (h.sub SubC.h SubC.h))) (fun b59 p59 => ?_)
       refine wpd_p 21 rfl zz5 trivial (q64_intN Try.underlying22 Try.underlying2 rfl zz20) rfl (fun w h => .inr (h.sub SubC.h SubC.h)) ?_
       refine wpd_p 22 rfl zz5 trivial (q_build (cs := [.int .i64 ((rdNum ((fT b17.tr).getD 2 Tr.z) 3 1099511627776).1.toNat : Int), .int .i64 ((rdNum ((fT b17.tr).getD 3 Tr.z) 4 1099511627776).1.toNat : Int)]) rfl zz5) rfl (fun w h => .inr (h.sub SubC.h SubC.h)) ?_
       refine wpd_p 23 rfl zz5 trivial (q_build (cs := [str (rdStr ((fT b17.tr).getD 0 Tr.z) 1 40).1, .int .u64 ((rdNum ((fT b17.tr).getD 1 Tr.z) 2 18446744073709551615).1.toNat : Int), .int .i64 ((rdNum ((fT b17.tr).getD 2 Tr.z) 3 1099511627776).1.toNat : Int), .int .i64 ((rdNum ((fT b17.tr).getD 3 Tr.z) 4 1099511627776).1.toNat : Int), nl, .int .i64 0, nl, nl]) rfl zz5) rfl (fun w h => .inr (h.sub SubC.h SubC.h)) ?_
       refine wpd_t0 25 rfl zz5 trivial (t_stA Try.ti30 rfl rfl LenC.h (OneC.cons rfl (OneC.cons rfl (OneC.cons rfl (OneC.cons rfl (OneC.cons rfl (OneC.cons rfl (OneC.cons rfl (OneC.cons rfl oneC_nil)))))))).h LenC.h) (fun _ => (fun w h => .inr (h.sub SubC.h SubC.h))) (fun _ => ?_)
       refine wpd_done zz5 ?_
       refine ex_mid ⟨b12, trivial⟩ ?_ ?_
       ·
        exact zz9
       ·
        exact fun w h => h.sel
     ·
      refine wpa_t 24 rfl trivial (t_alloc Try.ti30 Rv.z.c rfl) rfl (fun _ => (fun w h => .inr (h.sub SubC.h SubC.h))) (fun b12 => ?_)
      refine wpd_tp 14 rfl zz5 trivial (t_callU (.blk b5 33 [.int .i64 (orE (orE (orE (orE (orE (decF xs).2 (((rdSeq b17.tr 135 (2 : Nat) (2 : Nat)).2 : Nat) : Int)) (((rdSeq ((wT b17.tr).getD 0 Tr.z) 134 (5 : Nat) (5 : Nat)).2 : Nat) : Int)) (((rdSeq ((wT b17.tr).getD 1 Tr.z) 131 (3 : Nat) (3 : Nat)).2 : Nat) : Int)) (((rdStr ((fT b17.tr).getD 0 Tr.z) 1 40).2 : Nat) : Int)) (((rdNum ((fT b17.tr).getD 1 Tr.z) 2 18446744073709551615).2 : Nat) : Int))]) (.blk b5 33 [.int .i64 (orE (orE (orE (orE (orE (orE (decF xs).2 (((rdSeq b17.tr 135 (2 : Nat) (2 : Nat)).2 : Nat) : Int)) (((rdSeq ((wT b17.tr).getD 0 Tr.z) 134 (5 : Nat) (5 : Nat)).2 : Nat) : Int)) (((rdSeq ((wT b17.tr).getD 1 Tr.z) 131 (3 : Nat) (3 : Nat)).2 : Nat) : Int)) (((rdStr ((fT b17.tr).getD 0 Tr.z) 1 40).2 : Nat) : Int)) (((rdNum ((fT b17.tr).getD 1 Tr.z) 2 18446744073709551615).2 : Nat) : Int)) (((rdNum ((fT b17.tr).getD 2 Tr.z) 3 1099511627776).2 : Nat) : Int))]) rfl Try.hb51 rfl fun w h h2 => rdrNumF b5 (b33.2.getD 2 HT.z) ((fT b17.tr).getD 2 Tr.z) 3 1099511627776 (orE (orE (orE (orE (orE (decF xs).2 (((rdSeq b17.tr 135 (2 : Nat) (2 : Nat)).2 : Nat) : Int)) (((rdSeq ((wT b17.tr).getD 0 Tr.z) 134 (5 : Nat) (5 : Nat)).2 : Nat) : Int)) (((rdSeq ((wT b17.tr).getD 1 Tr.z) 131 (3 : Nat) (3 : Nat)).2 : Nat) : Int)) (((rdStr ((fT b17.tr).getD 0 Tr.z) 1 40).2 : Nat) : Int)) (((rdNum ((fT b17.tr).getD 1 Tr.z) 2 18446744073709551615).2 : Nat) : Int)) w h2 (HSeen.lsK (y := b33) (hseen_rdo h zz4 zz14) zz10) (tr_get (show trs b33.2 = fT b17.tr from p33.1) 2)) rfl (fun _ => (fun w h => .inr (h.sub SubC.h SubC.h))) (fun b53 p53 => ?_)
      refine wpd_p 15 rfl zz5 trivial (q64_intN Try.underlying22 Try.underlying2 rfl zz24) rfl (fun w h => .inr (h.sub SubC.h SubC.h)) ?_
      refine wpd_tp 20 rfl zz5 trivial (t_callU (.blk b5 33 [.int .i64 (orE (orE (orE (orE (orE (orE (decF xs).2 (((rdSeq b17.tr 135 (2 : Nat) (2 : Nat)).2 : Nat) : Int)) (((rdSeq ((wT b17.tr).getD 0 Tr.z) 134 (5 : Nat) (5 : Nat)).2 : Nat) : Int)) (((rdSeq ((wT b17.tr).getD 1 Tr.z) 131 (3 : Nat) (3 : Nat)).2 : Nat) : Int)) (((rdStr ((fT b17.tr).getD 0 Tr.z) 1 40).2 : Nat) : Int)) (((rdNum ((fT b17.tr).getD 1 Tr.z) 2 18446744073709551615).2 : Nat) : Int)) (((rdNum ((fT b17.tr).getD 2 Tr.z) 3 1099511627776).2 : Nat) : Int))]) (.blk b5 33 [.int .i64 (orE (orE (orE (orE (orE (orE (orE (decF xs).2 (((rdSeq b17.tr 135 (2 : Nat) (2 : Nat)).2 : Nat) : Int)) (((rdSeq ((wT b17.tr).getD 0 Tr.z) 134 (5 : Nat) (5 : Nat)).2 : Nat) : Int)) (((rdSeq ((wT b17.tr).getD 1 Tr.z) 131 (3 : Nat) (3 : Nat)).2 : Nat) : Int)) (((rdStr ((fT b17.tr).getD 0 Tr.z) 1 40).2 : Nat) : Int)) (((rdNum ((fT b17.tr).getD 1 Tr.z) 2 18446744073709551615).2 : Nat) : Int)) (((rdNum ((fT b17.tr).getD 2 Tr.z) 3 1099511627776).2 : Nat) : Int)) (((rdNum ((fT b17.tr).getD 3 Tr.z) 4 1099511627776).2 : Nat) : Int))]) rfl Try.hb51 rfl fun w h h2 => rdrNumF b5 (b33.2.getD 3 HT.z) ((fT b17.tr).getD 3 Tr.z) 4 1099511627776 (orE (orE (orE (orE (orE (orE (decF xs).2 (((rdSeq b17.tr 135 (2 : Nat) (2 : Nat)).2 : Nat) : Int)) (((rdSeq ((wT b17.tr).getD 0 Tr.z) 134 (5 : Nat) (5 : Nat)).2 : Nat) : Int)) (((rdSeq ((wT b17.tr).getD 1 Tr.z) 131 (3 : Nat) (3 : Nat)).2 : Nat) : Int)) (((rdStr ((fT b17.tr).getD 0 Tr.z) 1 40).2 : Nat) : Int)) (((rdNum ((fT b17.tr).getD 1 Tr.z) 2 18446744073709551615).2 : Nat) : Int)) (((rdNum ((fT b17.tr).getD 2 Tr.z) 3 1099511627776).2 : Nat) : Int)) w h2 (HSeen.lsK (y := b33) (hseen_rdo h zz4 zz14) zz10) (tr_get (show trs b33.2 = fT b17.tr from p33.1) 3)) rfl (fun _ => (fun w h => .inr (h.sub SubC.h SubC.h))) (fun b59 p59 => ?_)
      refine wpd_p 21 rfl zz5 trivial (q64_intN Try.underlying22 Try.underlying2 rfl zz20) rfl (fun w h => .inr (h.sub SubC.h SubC.h)) ?_
      refine wpd_p 22 rfl zz5 trivial (q_build (cs := [.int .i64 ((rdNum ((fT b17.tr).getD 2 Tr.z) 3 1099511627776).1.toNat : Int), .int .i64 ((rdNum ((fT b17.tr).getD 3 Tr.z) 4 1099511627776).1.toNat : Int)]) rfl zz5) rfl (fun w h => .inr (h.sub SubC.h SubC.h)) ?_
      refine wpd_p 23 rfl zz5 trivial (q_build (cs := [str (rdStr ((fT b17.tr).getD 0 Tr.z) 1 40).1, .int .u64 ((rdNum ((fT b17.tr).getD 1 Tr.z) 2 18446744073709551615).1.toNat : Int), .int .i64 ((rdNum ((fT b17.tr).getD 2 Tr.z) 3 1099511627776).1.toNat : Int), .int .i64 ((rdNum ((fT b17.tr).getD 3 Tr.z) 4 1099511627776).1.toNat : Int), nl, .int .i64 0, nl, nl]) rfl zz5) rfl (fun w h => .inr (h.sub SubC.h SubC.h)) ?_
      refine wpd_t0 25 rfl zz5 trivial (t_stA Try.ti30 rfl rfl LenC.h (OneC.cons rfl (OneC.cons rfl (OneC.cons rfl (OneC.cons rfl (OneC.cons rfl (OneC.cons rfl (OneC.cons rfl (OneC.cons rfl oneC_nil)))))))).h LenC.h) (fun _ => (fun w h => .inr (h.sub SubC.h SubC.h))) (fun _ => ?_)
      refine wpd_done zz5 ?_
      refine ex_mid ⟨b12, trivial⟩ ?_ ?_
      ·
       exact zz9
      ·
       exact fun w h => h.sel
    ·
     refine wpa_t 24 rfl trivial (t_alloc Try.ti30 Rv.z.c rfl) rfl (fun _ => (fun w h => .inr (h.sub SubC.h SubC.h))) (fun b12 => ?_)
     refine wpd_tp 9 rfl zz5 trivial (t_callU (.blk b5 33 [.int .i64 (orE (orE (orE (orE (decF xs).2 (((rdSeq b17.tr 135 (2 : Nat) (2 : Nat)).2 : Nat) : Int)) (((rdSeq ((wT b17.tr).getD 0 Tr.z) 134 (5 : Nat) (5 : Nat)).2 : Nat) : Int)) (((rdSeq ((wT b17.tr).getD 1 Tr.z) 131 (3 : Nat) (3 : Nat)).2 : Nat) : Int)) (((rdStr ((fT b17.tr).getD 0 Tr.z) 1 40).2 : Nat) : Int))]) (.blk b5 33 [.int .i64 (orE (orE (orE (orE (orE (decF xs).2 (((rdSeq b17.tr 135 (2 : Nat) (2 : Nat)).2 : Nat) : Int)) (((rdSeq ((wT b17.tr).getD 0 Tr.z) 134 (5 : Nat) (5 : Nat)).2 : Nat) : Int)) (((rdSeq ((wT b17.tr).getD 1 Tr.z) 131 (3 : Nat) (3 : Nat)).2 : Nat) : Int)) (((rdStr ((fT b17.tr).getD 0 Tr.z) 1 40).2 : Nat) : Int)) (((rdNum ((fT b17.tr).getD 1 Tr.z) 2 18446744073709551615).2 : Nat) : Int))]) rfl Try.hb51 rfl fun w h h2 => rdrNumF b5 (b33.2.getD 1 HT.z) ((fT b17.tr).getD 1 Tr.z) 2 18446744073709551615 (orE (orE (orE (orE (decF xs).2 (((rdSeq b17.tr 135 (2 : Nat) (2 : Nat)).2 : Nat) : Int)) (((rdSeq ((wT b17.tr).getD 0 Tr.z) 134 (5 : Nat) (5 : Nat)).2 : Nat) : Int)) (((rdSeq ((wT b17.tr).getD 1 Tr.z) 131 (3 : Nat) (3 : Nat)).2 : Nat) : Int)) (((rdStr ((fT b17.tr).getD 0 Tr.z) 1 40).2 : Nat) : Int)) w h2 (HSeen.lsK (y := b33) (hseen_rdo h zz4 zz14) zz10) (tr_get (show trs b33.2 = fT b17.tr from p33.1) 1)) rfl (fun _ => (fun w h => .inr (h.sub SubC.h SubC.h))) (fun b48 p48 => ?_)
     refine wpd_tp 14 rfl zz5 trivial (t_callU (.blk b5 33 [.int .i64 (orE (orE (orE (orE (orE (decF xs).2 (((rdSeq b17.tr 135 (2 : Nat) (2 : Nat)).2 : Nat) : Int)) (((rdSeq ((wT b17.tr).getD 0 Tr.z) 134 (5 : Nat) (5 : Nat)).2 : Nat) : Int)) (((rdSeq ((wT b17.tr).getD 1 Tr.z) 131 (3 : Nat) (3 : Nat)).2 : Nat) : Int)) (((rdStr ((fT b17.tr).getD 0 Tr.z) 1 40).2 : Nat) : Int)) (((rdNum ((fT b17.tr).getD 1 Tr.z) 2 18446744073709551615).2 : Nat) : Int))]) (.blk b5 33 [.int .i64 (orE (orE (orE (orE (orE (orE (decF xs).2 (((rdSeq b17.tr 135 (2 : Nat) (2 : Nat)).2 : Nat) : Int)) (((rdSeq ((wT b17.tr).getD 0 Tr.z) 134 (5 : Nat) (5 : Nat)).2 : Nat) : Int)) (((rdSeq ((wT b17.tr).getD 1 Tr.z) 131 (3 : Nat) (3 : Nat)).2 : Nat) : Int)) (((rdStr ((fT b17.tr).getD 0 Tr.z) 1 40).2 : Nat) : Int)) (((rdNum ((fT b17.tr).getD 1 Tr.z) 2 18446744073709551615).2 : Nat) : Int)) (((rdNum ((fT b17.tr).getD 2 Tr.z) 3 1099511627776).2 : Nat) : Int))]) rfl Try.hb51 rfl fun w h h2 => rdrNumF b5 (b33.2.getD 2 HT.z) ((fT b17.tr).getD 2 Tr.z) 3 1099511627776 (orE (orE (orE (orE (orE (decF xs).2 (((rdSeq b17.tr 135 (2 : Nat) (2 : Nat)).2 : Nat) : Int)) (((rdSeq ((wT b17.tr).getD 0 Tr.z) 134 (5 : Nat) (5 : Nat)).2 : Nat) : Int)) (((rdSeq ((wT b17.tr).getD 1 Tr.z) 131 (3 : Nat) (3 : Nat)).2 : Nat) : Int)) (((rdStr ((fT b17.tr).getD 0 Tr.z) 1 40).2 : Nat) : Int)) (((rdNum ((fT b17.tr).getD 1 Tr.z) 2 18446744073709551615).2 : Nat) : Int)) w h2 (HSeen.lsK (y := b33) (hseen_rdo h zz4 zz14) zz10) (tr_get (show trs b33.2 = fT b17.tr from p33.1) 2)) rfl (fun _ => (fun w h => .inr (h.sub SubC.h SubC.h))) (fun b53 p53 => ?_)
     refine wpd_p 15 rfl zz5 trivial (q64_intN Try.underlying22 Try.underlying2 rfl zz24) rfl (fun w h => .inr (h.sub SubC.h SubC.h)) ?_
     refine wpd_tp 20 rfl zz5 trivial (t_callU (.blk b5 33 [.int .i64 (orE (orE (orE (orE (orE (orE (decF xs).2 (((rdSeq b17.tr 135 (2 : Nat) (2 : Nat)).2 : Nat) : Int)) (((rdSeq ((wT b17.tr).getD 0 Tr.z) 134 (5 : Nat) (5 : Nat)).2 : Nat) : Int)) (((rdSeq ((wT b17.tr).getD 1 Tr.z) 131 (3 : Nat) (3 : Nat)).2 : Nat) : Int)) (((rdStr ((fT b17.tr).getD 0 Tr.z) 1 40).2 : Nat) : Int)) (((rdNum ((fT b17.tr).getD 1 Tr.z) 2 18446744073709551615).2 : Nat) : Int)) (((rdNum ((fT b17.tr).getD 2 Tr.z) 3 1099511627776).2 : Nat) : Int))]) (.blk b5 33 [.int .i64 (orE (orE (orE (orE (orE (orE (orE (decF xs).2 (((rdSeq b17.tr 135 (2 : Nat) (2 : Nat)).2 : Nat) : Int)) (((rdSeq ((wT b17.tr).getD 0 Tr.z) 134 (5 : Nat) (5 : Nat)).2 : Nat) : Int)) (((rdSeq ((wT b17.tr).getD 1 Tr.z) 131 (3 : Nat) (3 : Nat)).2 : Nat) : Int)) (((rdStr ((fT b17.tr).getD 0 Tr.z) 1 40).2 : Nat) : Int)) (((rdNum ((fT b17.tr).getD 1 Tr.z) 2 18446744073709551615).2 : Nat) : Int)) (((rdNum ((fT b17.tr).getD 2 Tr.z) 3 1099511627776).2 : Nat) : Int)) (((rdNum ((fT b17.tr).getD 3 Tr.z) 4 1099511627776).2 : Nat) : Int))]) rfl Try.hb51 rfl fun w h h2 => rdrNumF b5 (b33.2.getD 3 HT.z) ((fT b17.tr).getD 3 Tr.z) 4 1099511627776 (orE (orE (orE (orE (orE (orE (decF xs).2 (((rdSeq b17.tr 135 (2 : Nat) (2 : Nat)).2 : Nat) : Int)) (((rdSeq ((wT b17.tr).getD 0 Tr.z) 134 (5 : Nat) (5 : Nat)).2 : Nat) : Int)) (((rdSeq ((wT b17.tr).getD 1 Tr.z) 131 (3 : Nat) (3 : Nat)).2 : Nat) : Int)) (((rdStr ((fT b17.tr).getD 0 Tr.z) 1 40).2 : Nat) : Int)) (((rdNum ((fT b17.tr).getD 1 Tr.z) 2 18446744073709551615).2 : Nat) : Int)) (((rdNum ((fT b17.tr).getD 2 Tr.z) 3 1099511627776).2 : Nat) : Int)) w h2 (HSeen.lsK (y := b33) (hseen_rdo h zz4 zz14) zz10) (tr_get (show trs b33.2 = fT b17.tr from p33.1) 3)) rfl (fun _ => (fun w h => .inr (h.sub SubC.h SubC.h))) (fun b59 p59 => ?_)
     refine wpd_p 21 rfl zz5 trivial (q64_intN Try.underlying22 Try.underlying2 rfl zz20) rfl (fun w h => .inr (h.sub SubC.h SubC.h)) ?_
     refine wpd_p 22 rfl zz5 trivial (q_build (cs := [.int .i64 ((rdNum ((fT b17.tr).getD 2 Tr.z) 3 1099511627776).1.toNat : Int), .int .i64 ((rdNum ((fT b17.tr).getD 3 Tr.z) 4 1099511627776).1.toNat : Int)]) rfl zz5) rfl (fun w h => .inr (h.sub SubC.h SubC.h)) ?_
     refine wpd_p 23 rfl zz5 trivial (q_build (cs := [str (rdStr ((fT b17.tr).getD 0 Tr.z) 1 40).1, .int .u64 ((rdNum ((fT b17.tr).getD 1 Tr.z) 2 18446744073709551615).1.toNat : Int), .int .i64 ((rdNum ((fT b17.tr).getD 2 Tr.z) 3 1099511627776).1.toNat : Int), .int .i64 ((rdNum ((fT b17.tr).getD 3 Tr.z) 4 1099511627776).1.toNat : Int), nl, .int .i64 0, nl, nl]) rfl zz5) rfl (fun w h => .inr (h.sub SubC.h SubC.h)) ?_
     refine wpd_t0 25 rfl zz5 trivial (t_stA Try.ti30 rfl rfl LenC.h (OneC.cons rfl (OneC.cons rfl (OneC.cons rfl (OneC.cons rfl (OneC.cons rfl (OneC.cons rfl (OneC.cons rfl (OneC.cons rfl oneC_nil)))))))).h LenC.h) (fun _ => (fun w h => .inr (h.sub SubC.h SubC.h))) (fun _ => ?_)
     refine wpd_done zz5 ?_
     refine ex_mid ⟨b12, trivial⟩ ?_ ?_
     ·
      exact zz9
     ·
      exact fun w h => h.sel
   ·
    refine wpa_t 24 rfl trivial (t_alloc Try.ti30 Rv.z.c rfl) rfl (fun _ => (fun w h => .inr (h.sub SubC.h SubC.h))) (fun b12 => ?_)
    refine wpd_tp 4 rfl zz5 trivial (t_callU (.blk b5 33 [.int .i64 (orE (orE (orE (decF xs).2 (((rdSeq b17.tr 135 (2 : Nat) (2 : Nat)).2 : Nat) : Int)) (((rdSeq ((wT b17.tr).getD 0 Tr.z) 134 (5 : Nat) (5 : Nat)).2 : Nat) : Int)) (((rdSeq ((wT b17.tr).getD 1 Tr.z) 131 (3 : Nat) (3 : Nat)).2 : Nat) : Int))]) (.blk b5 33 [.int .i64 (orE (orE (orE (orE (decF xs).2 (((rdSeq b17.tr 135 (2 : Nat) (2 : Nat)).2 : Nat) : Int)) (((rdSeq ((wT b17.tr).getD 0 Tr.z) 134 (5 : Nat) (5 : Nat)).2 : Nat) : Int)) (((rdSeq ((wT b17.tr).getD 1 Tr.z) 131 (3 : Nat) (3 : Nat)).2 : Nat) : Int)) (((rdStr ((fT b17.tr).getD 0 Tr.z) 1 40).2 : Nat) : Int))]) rfl Try.hb53 rfl fun w h h2 => rdrStrF b5 (b33.2.getD 0 HT.z) ((fT b17.tr).getD 0 Tr.z) 1 40 (orE (orE (orE (decF xs).2 (((rdSeq b17.tr 135 (2 : Nat) (2 : Nat)).2 : Nat) : Int)) (((rdSeq ((wT b17.tr).getD 0 Tr.z) 134 (5 : Nat) (5 : Nat)).2 : Nat) : Int)) (((rdSeq ((wT b17.tr).getD 1 Tr.z) 131 (3 : Nat) (3 : Nat)).2 : Nat) : Int)) w h2 (HSeen.lsK (y := b33) (hseen_rdo h zz4 zz14) zz10) (tr_get (show trs b33.2 = fT b17.tr from p33.1) 0)) rfl (fun _ => (fun w h => .inr (h.sub SubC.h SubC.h))) (fun b43 p43 => ?_)
    refine wpd_tp 9 rfl zz5 trivial (t_callU (.blk b5 33 [.int .i64 (orE (orE (orE (orE (decF xs).2 (((rdSeq b17.tr 135 (2 : Nat) (2 : Nat)).2 : Nat) : Int)) (((rdSeq ((wT b17.tr).getD 0 Tr.z) 134 (5 : Nat) (5 : Nat)).2 : Nat) : Int)) (((rdSeq ((wT b17.tr).getD 1 Tr.z) 131 (3 : Nat) (3 : Nat)).2 : Nat) : Int)) (((rdStr ((fT b17.tr).getD 0 Tr.z) 1 40).2 : Nat) : Int))]) (.blk b5 33 [.int .i64 (orE (orE (orE (orE (orE (decF xs).2 (((rdSeq b17.tr 135 (2 : Nat) (2 : Nat)).2 : Nat) : Int)) (((rdSeq ((wT b17.tr).getD 0 Tr.z) 134 (5 : Nat) (5 : Nat)).2 : Nat) : Int)) (((rdSeq ((wT b17.tr).getD 1 Tr.z) 131 (3 : Nat) (3 : Nat)).2 : Nat) : Int)) (((rdStr ((fT b17.tr).getD 0 Tr.z) 1 40).2 : Nat) : Int)) (((rdNum ((fT b17.tr).getD 1 Tr.z) 2 18446744073709551615).2 : Nat) : Int))]) rfl Try.hb51 rfl fun w h h2 => rdrNumF b5 (b33.2.getD 1 HT.z) ((fT b17.tr).getD 1 Tr.z) 2 18446744073709551615 (orE (orE (orE (orE (decF xs).2 (((rdSeq b17.tr 135 (2 : Nat) (2 : Nat)).2 : Nat) : Int)) (((rdSeq ((wT b17.tr).getD 0 Tr.z) 134 (5 : Nat) (5 : Nat)).2 : Nat) : Int)) (((rdSeq ((wT b17.tr).getD 1 Tr.z) 131 (3 : Nat) (3 : Nat)).2 : Nat) : Int)) (((rdStr ((fT b17.tr).getD 0 Tr.z) 1 40).2 : Nat) : Int)) w h2 (HSeen.lsK (y := b33) (hseen_rdo h zz4 zz14) zz10) (tr_get (show trs b33.2 = fT b17.tr from p33.1) 1)) rfl (fun _ => (fun w h => .inr (h.sub SubC.h SubC.h))) (fun b48 p48 => ?_)
    refine wpd_tp 14 rfl zz5 trivial (t_callU (.blk b5 33 [.int .i64 (orE (orE (orE (orE (orE (decF xs).2 (((rdSeq b17.tr 135 (2 : Nat) (2 : Nat)).2 : Nat) : Int)) (((rdSeq ((wT b17.tr).getD 0 Tr.z) 134 (5 : Nat) (5 : Nat)).2 : Nat) : Int)) (((rdSeq ((wT b17.tr).getD 1 Tr.z) 131 (3 : Nat) (3 : Nat)).2 : Nat) : Int)) (((rdStr ((fT b17.tr).getD 0 Tr.z) 1 40).2 : Nat) : Int)) (((rdNum ((fT b17.tr).getD 1 Tr.z) 2 18446744073709551615).2 : Nat) : Int))]) (.blk b5 33 [.int .i64 (orE (orE (orE (orE (orE (orE (decF xs).2 (((rdSeq b17.tr 135 (2 : Nat) (2 : Nat)).2 : Nat) : Int)) (((rdSeq ((wT b17.tr).getD 0 Tr.z) 134 (5 : Nat) (5 : Nat)).2 : Nat) : Int)) (((rdSeq ((wT b17.tr).getD 1 Tr.z) 131 (3 : Nat) (3 : Nat)).2 : Nat) : Int)) (((rdStr ((fT b17.tr).getD 0 Tr.z) 1 40).2 : Nat) : Int)) (((rdNum ((fT b17.tr).getD 1 Tr.z) 2 18446744073709551615).2 : Nat) : Int)) (((rdNum ((fT b17.tr).getD 2 Tr.z) 3 1099511627776).2 : Nat) : Int))]) rfl Try.hb51 rfl fun w h h2 => rdrNumF b5 (b33.2.getD 2 HT.z) ((fT b17.tr).getD 2 Tr.z) 3 1099511627776 (orE (orE (orE (orE (orE (decF xs).2 (((rdSeq b17.tr 135 (2 : Nat) (2 : Nat)).2 : Nat) : Int)) (((rdSeq ((wT b17.tr).getD 0 Tr.z) 134 (5 : Nat) (5 : Nat)).2 : Nat) : Int)) (((rdSeq ((wT b17.tr).getD 1 Tr.z) 131 (3 : Nat) (3 : Nat)).2 : Nat) : Int)) (((rdStr ((fT b17.tr).getD 0 Tr.z) 1 40).2 : Nat) : Int)) (((rdNum ((fT b17.tr).getD 1 Tr.z) 2 18446744073709551615).2 : Nat) : Int)) w h2 (HSeen.lsK (y := b33) (hseen_rdo h zz4 zz14) zz10) (tr_get (show trs b33.2 = fT b17.tr from p33.1) 2)) rfl (fun _ => (fun w h => .inr (h.sub SubC.h SubC.h))) (fun b53 p53 => ?_)
    refine wpd_p 15 rfl zz5 trivial (q64_intN Try.underlying22 Try.underlying2 rfl zz24) rfl (fun w h => .inr (h.sub SubC.h SubC.h)) ?_
    refine wpd_tp 20 rfl zz5 trivial (t_callU (.blk b5 33 [.int .i64 (orE (orE (orE (orE (orE (orE (decF xs).2 (((rdSeq b17.tr 135 (2 : Nat) (2 : Nat)).2 : Nat) : Int)) (((rdSeq ((wT b17.tr).getD 0 Tr.z) 134 (5 : Nat) (5 : Nat)).2 : Nat) : Int)) (((rdSeq ((wT b17.tr).getD 1 Tr.z) 131 (3 : Nat) (3 : Nat)).2 : Nat) : Int)) (((rdStr ((fT b17.tr).getD 0 Tr.z) 1 40).2 : Nat) : Int)) (((rdNum ((fT b17.tr).getD 1 Tr.z) 2 18446744073709551615).2 : Nat) : Int)) (((rdNum ((fT b17.tr).getD 2 Tr.z) 3 1099511627776).2 : Nat) : Int))]) (.blk b5 33 [.int .i64 (orE (orE (orE (orE (orE (orE (orE (decF xs).2 (((rdSeq b17.tr 135 (2 : Nat) (2 : Nat)).2 : Nat) : Int)) (((rdSeq ((wT b17.tr).getD 0 Tr.z) 134 (5 : Nat) (5 : Nat)).2 : Nat) : Int)) (((rdSeq ((wT b17.tr).getD 1 Tr.z) 131 (3 : Nat) (3 : Nat)).2 : Nat) : Int)) (((rdStr ((fT b17.tr).getD 0 Tr.z) 1 40).2 : Nat) : Int)) (((rdNum ((fT b17.tr).getD 1 Tr.z) 2 18446744073709551615).2 : Nat) : Int)) (((rdNum ((fT b17.tr).getD 2 Tr.z) 3 1099511627776).2 : Nat) : Int)) (((rdNum ((fT b17.tr).getD 3 Tr.z) 4 1099511627776).2 : Nat) : Int))]) rfl Try.hb51 rfl fun w h h2 => rdrNumF b5 (b33.2.getD 3 HT.z) ((fT b17.tr).getD 3 Tr.z) 4 1099511627776 (orE (orE (orE (orE (orE (orE (decF xs).2 (((rdSeq b17.tr 135 (2 : Nat) (2 : Nat)).2 : Nat) : Int)) (((rdSeq ((wT b17.tr).getD 0 Tr.z) 134 (5 : Nat) (5 : Nat)).2 : Nat) : Int)) (((rdSeq ((wT b17.tr).getD 1 Tr.z) 131 (3 : Nat) (3 : Nat)).2 : Nat) : Int)) (((rdStr ((fT b17.tr).getD 0 Tr.z) 1 40).2 : Nat) : Int)) (((rdNum ((fT b17.tr).getD 1 Tr.z) 2 18446744073709551615).2 : Nat) : Int)) (((rdNum ((fT b17.tr).getD 2 Tr.z) 3 1099511627776).2 : Nat) : Int)) w h2 (HSeen.lsK (y := b33) (hseen_rdo h zz4 zz14) zz10) (tr_get (show trs b33.2 = fT b17.tr from p33.1) 3)) rfl (fun _ => (fun w h => .inr (h.sub SubC.h SubC.h))) (fun b59 p59 => ?_)
    refine wpd_p 21 rfl zz5 trivial (q64_intN Try.underlying22 Try.underlying2 rfl zz20) rfl (fun w h => .inr (h.sub SubC.h SubC.h)) ?_
    refine wpd_p 22 rfl zz5 trivial (q_build (cs := [.int .i64 ((rdNum ((fT b17.tr).getD 2 Tr.z) 3 1099511627776).1.toNat : Int), .int .i64 ((rdNum ((fT b17.tr).getD 3 Tr.z) 4 1099511627776).1.toNat : Int)]) rfl zz5) rfl (fun w h => .inr (h.sub SubC.h SubC.h)) ?_
    refine wpd_p 23 rfl zz5 trivial (q_build (cs := [str (rdStr ((fT b17.tr).getD 0 Tr.z) 1 40).1, .int .u64 ((rdNum ((fT b17.tr).getD 1 Tr.z) 2 18446744073709551615).1.toNat : Int), .int .i64 ((rdNum ((fT b17.tr).getD 2 Tr.z) 3 1099511627776).1.toNat : Int), .int .i64 ((rdNum ((fT b17.tr).getD 3 Tr.z) 4 1099511627776).1.toNat : Int), nl, .int .i64 0, nl, nl]) rfl zz5) rfl (fun w h => .inr (h.sub SubC.h SubC.h)) ?_
    refine wpd_t0 25 rfl zz5 trivial (t_stA Try.ti30 rfl rfl LenC.h (OneC.cons rfl (OneC.cons rfl (OneC.cons rfl (OneC.cons rfl (OneC.cons rfl (OneC.cons rfl (OneC.cons rfl (OneC.cons rfl oneC_nil)))))))).h LenC.h) (fun _ => (fun w h => .inr (h.sub SubC.h SubC.h))) (fun _ => ?_)
    refine wpd_done zz5 ?_
    refine ex_mid ⟨b12, trivial⟩ ?_ ?_
    ·
     exact zz9
    ·
     exact fun w h => h.sel
  ·
   rintro ⟨b12, _⟩; try dsimp only
   refine wpc_seq <| wpc_seq <| wpc_region <| wpl_q (q_pure rfl) rfl <| wpl_q (q_pure rfl) rfl ?_
   refine wpl_q (q_idxW (j := 4) Try.underlying70 Try.ti72 rfl rfl zz1 zz0) rfl ?_
   refine wpl_q (q_ldWN Try.underlying72 rfl Try.ti72 rfl (fun w h => HSeen.lsS (y := b33) (Mem.hseenF h zz4)) (b33.2.getD 4 HT.z).c (hcs_part zz10) LenC.h) rfl ?_
   refine wpl_tp (t_callLS (.blk b5 33 [.int .i64 (orE (orE (orE (orE (orE (orE (orE (decF xs).2 (((rdSeq b17.tr 135 (2 : Nat) (2 : Nat)).2 : Nat) : Int)) (((rdSeq ((wT b17.tr).getD 0 Tr.z) 134 (5 : Nat) (5 : Nat)).2 : Nat) : Int)) (((rdSeq ((wT b17.tr).getD 1 Tr.z) 131 (3 : Nat) (3 : Nat)).2 : Nat) : Int)) (((rdStr ((fT b17.tr).getD 0 Tr.z) 1 40).2 : Nat) : Int)) (((rdNum ((fT b17.tr).getD 1 Tr.z) 2 18446744073709551615).2 : Nat) : Int)) (((rdNum ((fT b17.tr).getD 2 Tr.z) 3 1099511627776).2 : Nat) : Int)) (((rdNum ((fT b17.tr).getD 3 Tr.z) 4 1099511627776).2 : Nat) : Int))]) (.blk b5 33 [.int .i64 (orE (orE (orE (orE (orE (orE (orE (orE (decF xs).2 (((rdSeq b17.tr 135 (2 : Nat) (2 : Nat)).2 : Nat) : Int)) (((rdSeq ((wT b17.tr).getD 0 Tr.z) 134 (5 : Nat) (5 : Nat)).2 : Nat) : Int)) (((rdSeq ((wT b17.tr).getD 1 Tr.z) 131 (3 : Nat) (3 : Nat)).2 : Nat) : Int)) (((rdStr ((fT b17.tr).getD 0 Tr.z) 1 40).2 : Nat) : Int)) (((rdNum ((fT b17.tr).getD 1 Tr.z) 2 18446744073709551615).2 : Nat) : Int)) (((rdNum ((fT b17.tr).getD 2 Tr.z) 3 1099511627776).2 : Nat) : Int)) (((rdNum ((fT b17.tr).getD 3 Tr.z) 4 1099511627776).2 : Nat) : Int)) (((rdSeq ((fT b17.tr).getD 4 Tr.z) 129 (0 : Nat) (500 : Nat)).2 : Nat) : Int))]) rfl Try.hb52 rfl fun w h h2 => rdrListF b5 (b33.2.getD 4 HT.z) ((fT b17.tr).getD 4 Tr.z) 129 0 500 (orE (orE (orE (orE (orE (orE (orE (decF xs).2 (((rdSeq b17.tr 135 (2 : Nat) (2 : Nat)).2 : Nat) : Int)) (((rdSeq ((wT b17.tr).getD 0 Tr.z) 134 (5 : Nat) (5 : Nat)).2 : Nat) : Int)) (((rdSeq ((wT b17.tr).getD 1 Tr.z) 131 (3 : Nat) (3 : Nat)).2 : Nat) : Int)) (((rdStr ((fT b17.tr).getD 0 Tr.z) 1 40).2 : Nat) : Int)) (((rdNum ((fT b17.tr).getD 1 Tr.z) 2 18446744073709551615).2 : Nat) : Int)) (((rdNum ((fT b17.tr).getD 2 Tr.z) 3 1099511627776).2 : Nat) : Int)) (((rdNum ((fT b17.tr).getD 3 Tr.z) 4 1099511627776).2 : Nat) : Int)) w h2 (HSeen.lsK (y := b33) (hseen_rdo h zz4 zz14) zz10) (tr_get (show trs b33.2 = fT b17.tr from p33.1) 4) (sm_get (lo := 5) (hi := 5) (sm_get hsmT 0) 4) zz15) rfl (fun b67 p67 => ?_)
   have hl67 : b67.2.length = (lT b17.tr).length := len_trs p67.1
   have hl500 := lT_le b17.tr
   have svl67 := p67.2.1
   refine wpl_q (q_lenW Try.underlying70 rfl zz1) rfl ?_
   refine wpl_q (q_pure rfl) rfl <| wpl_nil <| ex_then <| wpc_block ?_
   refine wpc_loopc (ι := { x : Nat × Value // (x.1 ≤ b67.2.length) ∧ (SV x.2 x.1) }) [(2, _), (5, _), (6, _), (7, _), (11, _), (12, _), (67, _), (68, _)] (fun x Lc => (69, .int .i64 ((x.1.1 : Nat) : Int)) :: Lc) (fun x => Mem w [] [.blk b12 30 [str (rdStr ((fT b17.tr).getD 0 Tr.z) 1 40).1, .int .u64 ((rdNum ((fT b17.tr).getD 1 Tr.z) 2 18446744073709551615).1.toNat : Int), .int .i64 ((rdNum ((fT b17.tr).getD 2 Tr.z) 3 1099511627776).1.toNat : Int), .int .i64 ((rdNum ((fT b17.tr).getD 3 Tr.z) 4 1099511627776).1.toNat : Int), x.1.2, .int .i64 0, nl, nl], .row x.1.2 x.1.1 22 1 (v64s (serS ((lT b17.tr).take x.1.1))), .blk b5 33 [.int .i64 (accE (orE (orE (orE (orE (orE (orE (orE (orE (decF xs).2 (((rdSeq b17.tr 135 (2 : Nat) (2 : Nat)).2 : Nat) : Int)) (((rdSeq ((wT b17.tr).getD 0 Tr.z) 134 (5 : Nat) (5 : Nat)).2 : Nat) : Int)) (((rdSeq ((wT b17.tr).getD 1 Tr.z) 131 (3 : Nat) (3 : Nat)).2 : Nat) : Int)) (((rdStr ((fT b17.tr).getD 0 Tr.z) 1 40).2 : Nat) : Int)) (((rdNum ((fT b17.tr).getD 1 Tr.z) 2 18446744073709551615).2 : Nat) : Int)) (((rdNum ((fT b17.tr).getD 2 Tr.z) 3 1099511627776).2 : Nat) : Int)) (((rdNum ((fT b17.tr).getD 3 Tr.z) 4 1099511627776).2 : Nat) : Int)) (((rdSeq ((fT b17.tr).getD 4 Tr.z) 129 (0 : Nat) (500 : Nat)).2 : Nat) : Int)) ((lT b17.tr).take x.1.1))], .blk b6 84 [(.func (.func 49) #[] #[.pointer (some ⟨b5, 0, none⟩)])], .blk b4 72 b17.c, .blk b2 30 Rv.z.c] [Go.Proofs.Ytgnablliekgbgaa.hseen (lsH b67), Go.Proofs.Ytgnablliekgbgaa.hseen (lsH b38), Go.Proofs.Ytgnablliekgbgaa.hseen (lsH b33), Go.Proofs.Ytgnablliekgbgaa.hseen (lsH b28), Go.Proofs.Ytgnablliekgbgaa.hseen b17]) (fun x => b67.2.length - x.1.1) ⟨(0, nl), ⟨Nat.zero_le _, SV.nil⟩⟩ zz9 ?_ ?_
   ·
    exact fun w h => by
      dsimp only
      rw [List.take_zero, accE_nil, show v64s (serS []) = [] from rfl]
      exact (h.nilRow 22 1).sel
   ·
    rintro ⟨⟨i, sv⟩, ⟨hi0, hi1⟩⟩; try dsimp only
    have hi0 : i ≤ b67.2.length := hi0; have hi1 : SV sv i := hi1
    refine wpc_seq <| wpc_region <| wpl_q (q_pure rfl) rfl <| wpl_nil <| ex_then <| wpc_seq ?_
    refine wpc_cond rfl (fun hc70 => ?_) (fun hc70 => ?_)
    ·
     simp only [decide_eq_true_eq] at hc70
     have hil : i < b67.2.length := by omega
     haveI := (p67.2.2 (b67.2.getD i HT.z) (getD_memH hil)).one
     have hi1 := hi1
     refine wpc_skip <| ex_then <| wpc_seq <| wpc_block <| wpc_seq <| wpc_region ?_
     refine wpl_q (q_idxW Try.underlying70 Try.ti72 rfl rfl zz1 zz0) rfl ?_
     refine wpl_q (q_ldWN Try.underlying72 rfl Try.ti72 rfl (fun w h => HSeen.lsS (y := b67) (Mem.hseenF h zz4)) (b67.2.getD i HT.z).c (hcs_part hil) LenC.h) rfl ?_
     refine wpl_t (t_alloc Try.ti72 HT.z.c rfl) rfl (fun b14 => ?_)
     refine wpl_t0 (t_stA Try.ti72 rfl rfl LenC.h OneC.h LenC.h) (fun _ => ?_)
     refine wpl_nil <| ex_then ?_
     refine wpc_drawM [.blk b14 72 (b67.2.getD i HT.z).c, .blk b12 30 [str (rdStr ((fT b17.tr).getD 0 Tr.z) 1 40).1, .int .u64 ((rdNum ((fT b17.tr).getD 1 Tr.z) 2 18446744073709551615).1.toNat : Int), .int .i64 ((rdNum ((fT b17.tr).getD 2 Tr.z) 3 1099511627776).1.toNat : Int), .int .i64 ((rdNum ((fT b17.tr).getD 3 Tr.z) 4 1099511627776).1.toNat : Int), sv, .int .i64 0, nl, nl]] 6 zz5 zz8 ?_
     refine wpd_p 0 rfl zz5 trivial (q_field Try.underlying30 rfl Try.ti25 rfl rfl _ rfl) rfl (fun w h => .inr (h.sub SubC.h SubC.h)) ?_
     refine wpd_q 1 rfl zz5 trivial (q_ld Try.underlying25 rfl rfl rfl) rfl (fun w h => h.sub SubC.h SubC.h) ?_
     refine wpd_p 2 rfl zz5 trivial (q_pure rfl) rfl (fun w h => .inr (h.sub SubC.h SubC.h)) ?_
     refine wpd_qB 3 [4, 5, 6] rfl zz5 trivial (q_ldN Try.underlying72 rfl Try.ti72 rfl LenC.h) rfl (fun w h => h.sub SubC.h SubC.h) ?_
     refine wpd_tp 4 rfl zz5 trivial (t_callU (.blk b5 33 [.int .i64 (accE (orE (orE (orE (orE (orE (orE (orE (orE (decF xs).2 (((rdSeq b17.tr 135 (2 : Nat) (2 : Nat)).2 : Nat) : Int)) (((rdSeq ((wT b17.tr).getD 0 Tr.z) 134 (5 : Nat) (5 : Nat)).2 : Nat) : Int)) (((rdSeq ((wT b17.tr).getD 1 Tr.z) 131 (3 : Nat) (3 : Nat)).2 : Nat) : Int)) (((rdStr ((fT b17.tr).getD 0 Tr.z) 1 40).2 : Nat) : Int)) (((rdNum ((fT b17.tr).getD 1 Tr.z) 2 18446744073709551615).2 : Nat) : Int)) (((rdNum ((fT b17.tr).getD 2 Tr.z) 3 1099511627776).2 : Nat) : Int)) (((rdNum ((fT b17.tr).getD 3 Tr.z) 4 1099511627776).2 : Nat) : Int)) (((rdSeq ((fT b17.tr).getD 4 Tr.z) 129 (0 : Nat) (500 : Nat)).2 : Nat) : Int)) ((lT b17.tr).take i))]) (.blk b5 33 [.int .i64 (orE (accE (orE (orE (orE (orE (orE (orE (orE (orE (decF xs).2 (((rdSeq b17.tr 135 (2 : Nat) (2 : Nat)).2 : Nat) : Int)) (((rdSeq ((wT b17.tr).getD 0 Tr.z) 134 (5 : Nat) (5 : Nat)).2 : Nat) : Int)) (((rdSeq ((wT b17.tr).getD 1 Tr.z) 131 (3 : Nat) (3 : Nat)).2 : Nat) : Int)) (((rdStr ((fT b17.tr).getD 0 Tr.z) 1 40).2 : Nat) : Int)) (((rdNum ((fT b17.tr).getD 1 Tr.z) 2 18446744073709551615).2 : Nat) : Int)) (((rdNum ((fT b17.tr).getD 2 Tr.z) 3 1099511627776).2 : Nat) : Int)) (((rdNum ((fT b17.tr).getD 3 Tr.z) 4 1099511627776).2 : Nat) : Int)) (((rdSeq ((fT b17.tr).getD 4 Tr.z) 129 (0 : Nat) (500 : Nat)).2 : Nat) : Int)) ((lT b17.tr).take i)) ((((rdNum ((lT b17.tr).getD i Tr.z) 5 18446744073709551615).2 : Nat)) : Int))]) rfl Try.hb51 rfl fun w h h2 => rdrNumF b5 (b67.2.getD i HT.z) ((lT b17.tr).getD i Tr.z) 5 18446744073709551615 (accE (orE (orE (orE (orE (orE (orE (orE (orE (decF xs).2 (((rdSeq b17.tr 135 (2 : Nat) (2 : Nat)).2 : Nat) : Int)) (((rdSeq ((wT b17.tr).getD 0 Tr.z) 134 (5 : Nat) (5 : Nat)).2 : Nat) : Int)) (((rdSeq ((wT b17.tr).getD 1 Tr.z) 131 (3 : Nat) (3 : Nat)).2 : Nat) : Int)) (((rdStr ((fT b17.tr).getD 0 Tr.z) 1 40).2 : Nat) : Int)) (((rdNum ((fT b17.tr).getD 1 Tr.z) 2 18446744073709551615).2 : Nat) : Int)) (((rdNum ((fT b17.tr).getD 2 Tr.z) 3 1099511627776).2 : Nat) : Int)) (((rdNum ((fT b17.tr).getD 3 Tr.z) 4 1099511627776).2 : Nat) : Int)) (((rdSeq ((fT b17.tr).getD 4 Tr.z) 129 (0 : Nat) (500 : Nat)).2 : Nat) : Int)) ((lT b17.tr).take i)) w h2 (HSeen.lsK (y := b67) (hseen_rdo h zz4 zz14) hil) (tr_get (show trs b67.2 = lT b17.tr from p67.1) i)) rfl (fun _ => (fun w h => .inr (h.sub SubC.h SubC.h))) (fun b77 p77 => ?_)
     refine wpd_tp 5 rfl zz5 trivial (t_bsG [.int .u64 ((rdNum ((lT b17.tr).getD i Tr.z) 5 18446744073709551615).1.toNat : Int)] (v64s [(rdNum ((lT b17.tr).getD i Tr.z) 5 18446744073709551615).1]) Try.underlying25 Try.ti22 rfl zz15 rfl zz15 zz15 rfl (by intro v hv; rw [List.mem_singleton] at hv; subst hv; rfl) rfl) rfl (fun _ => (fun w h => .inr (h.sub SubC.h SubC.h))) (fun b78 p78 => ?_)
     refine wpd_tp 6 rfl zz5 trivial (t_apW Try.underlying25 Try.ti22 rfl zz15 rfl rfl (fun w h => zz12) (v64s_one _) zz0 zz0 (v64s (serS ((lT b17.tr).take (i + 1)))) (by rw [serS_S (by omega : i < (lT b17.tr).length)]; simp [v64s])) rfl (fun _ => skk rfl) (fun b79 p79 => ?_)
     refine wpd_p 7 rfl zz5 trivial (q_field Try.underlying30 rfl Try.ti25 rfl rfl _ rfl) rfl (skk rfl) ?_
     refine wpd_t0 8 rfl zz5 trivial (t_st1 Try.ti25 rfl rfl (SV.one zz1) zz3 [str (rdStr ((fT b17.tr).getD 0 Tr.z) 1 40).1, .int .u64 ((rdNum ((fT b17.tr).getD 1 Tr.z) 2 18446744073709551615).1.toNat : Int), .int .i64 ((rdNum ((fT b17.tr).getD 2 Tr.z) 3 1099511627776).1.toNat : Int), .int .i64 ((rdNum ((fT b17.tr).getD 3 Tr.z) 4 1099511627776).1.toNat : Int), b79, .int .i64 0, nl, nl] rfl) (fun _ => skk rfl) (fun _ => ?_)
     refine wpd_done zz5 ?_
     refine ex_block <| ex_then <| wpc_region ?_
     refine wpl_q (q_addN (b := 1) rfl rfl zz0) rfl ?_
     refine wpl_q (q_pure rfl) rfl <| wpl_nil ?_
     refine ex_again ⟨(i + 1, b79), ⟨by show i + 1 ≤ b67.2.length; omega, p79⟩⟩ ?_ ?_ ?_
     ·
      exact zz9
     ·
      exact fun w h => (by
        dsimp only
        rw [accE_S (by omega : i < (lT b17.tr).length)]
        exact h.sel)
     ·
      (show b67.2.length - (i + 1) < b67.2.length - i); omega
    ·
     simp only [decide_eq_false_iff_not] at hc70
     obtain rfl : i = (lT b17.tr).length := by omega
     rw [List.take_length]
     have hi1 : SV sv (lT b17.tr).length := hi1
     refine wpc_exit ?_
     refine ex_then_exit ?_
     refine ex_then_exit ?_
     refine ex_block_hit ?_
     refine ex_then <| wpc_seq ?_
     refine wpc_drawM [.blk b6 84 [(.func (.func 49) #[] #[.pointer (some ⟨b5, 0, none⟩)])]] 99 zz5 zz8 ?_
     refine wpd_p 0 rfl zz5 trivial (q_pure rfl) rfl (fun w h => .inr (h.sub SubC.h SubC.h)) ?_
     refine wpd_p 1 rfl zz5 trivial (q_pure rfl) rfl (fun w h => .inr (h.sub SubC.h SubC.h)) ?_
     refine wpd_p 2 rfl zz5 trivial (q_idxW (j := 0) Try.underlying70 Try.ti72 rfl rfl zz1 zz0) rfl (fun w h => .inr (h.sub SubC.h SubC.h)) ?_
     refine wpd_q 3 rfl zz5 trivial (q_ldWN Try.underlying72 rfl Try.ti72 rfl (fun w h => HSeen.lsS (y := b38) (Mem.hseenF h zz4)) (b38.2.getD 0 HT.z).c (hcs_part zz10) LenC.h) rfl (fun w h => h.sub SubC.h SubC.h) ?_
     refine wpd_q 6 rfl zz5 trivial (q_ldN Try.underlying84 rfl Try.ti84 rfl LenC.h) rfl (fun w h => h.sub SubC.h SubC.h) ?_
     refine wpd_p 7 rfl zz5 trivial (q_pure rfl) rfl (fun w h => .inr (h.sub SubC.h SubC.h)) ?_
     refine wpd_p 8 rfl zz5 trivial (q_idxW (j := 1) Try.underlying70 Try.ti72 rfl rfl zz1 zz0) rfl (fun w h => .inr (h.sub SubC.h SubC.h)) ?_
     refine wpd_q 9 rfl zz5 trivial (q_ldWN Try.underlying72 rfl Try.ti72 rfl (fun w h => HSeen.lsS (y := b38) (Mem.hseenF h zz4)) (b38.2.getD 1 HT.z).c (hcs_part zz10) LenC.h) rfl (fun w h => h.sub SubC.h SubC.h) ?_
     refine wpd_q 11 rfl zz5 trivial (q_ldN Try.underlying84 rfl Try.ti84 rfl LenC.h) rfl (fun w h => h.sub SubC.h SubC.h) ?_
     refine wpd_p 12 rfl zz5 trivial (q_pure rfl) rfl (fun w h => .inr (h.sub SubC.h SubC.h)) ?_
     refine wpd_p 13 rfl zz5 trivial (q_idxW (j := 2) Try.underlying70 Try.ti72 rfl rfl zz1 zz0) rfl (fun w h => .inr (h.sub SubC.h SubC.h)) ?_
     refine wpd_q 14 rfl zz5 trivial (q_ldWN Try.underlying72 rfl Try.ti72 rfl (fun w h => HSeen.lsS (y := b38) (Mem.hseenF h zz4)) (b38.2.getD 2 HT.z).c (hcs_part zz10) LenC.h) rfl (fun w h => h.sub SubC.h SubC.h) ?_
     refine wpd_tp 4 rfl zz5 trivial (t_callU (.blk b5 33 [.int .i64 (accE (orE (orE (orE (orE (orE (orE (orE (orE (decF xs).2 (((rdSeq b17.tr 135 (2 : Nat) (2 : Nat)).2 : Nat) : Int)) (((rdSeq ((wT b17.tr).getD 0 Tr.z) 134 (5 : Nat) (5 : Nat)).2 : Nat) : Int)) (((rdSeq ((wT b17.tr).getD 1 Tr.z) 131 (3 : Nat) (3 : Nat)).2 : Nat) : Int)) (((rdStr ((fT b17.tr).getD 0 Tr.z) 1 40).2 : Nat) : Int)) (((rdNum ((fT b17.tr).getD 1 Tr.z) 2 18446744073709551615).2 : Nat) : Int)) (((rdNum ((fT b17.tr).getD 2 Tr.z) 3 1099511627776).2 : Nat) : Int)) (((rdNum ((fT b17.tr).getD 3 Tr.z) 4 1099511627776).2 : Nat) : Int)) (((rdSeq ((fT b17.tr).getD 4 Tr.z) 129 (0 : Nat) (500 : Nat)).2 : Nat) : Int)) (lT b17.tr))]) (.blk b5 33 [.int .i64 (orE (accE (orE (orE (orE (orE (orE (orE (orE (orE (decF xs).2 (((rdSeq b17.tr 135 (2 : Nat) (2 : Nat)).2 : Nat) : Int)) (((rdSeq ((wT b17.tr).getD 0 Tr.z) 134 (5 : Nat) (5 : Nat)).2 : Nat) : Int)) (((rdSeq ((wT b17.tr).getD 1 Tr.z) 131 (3 : Nat) (3 : Nat)).2 : Nat) : Int)) (((rdStr ((fT b17.tr).getD 0 Tr.z) 1 40).2 : Nat) : Int)) (((rdNum ((fT b17.tr).getD 1 Tr.z) 2 18446744073709551615).2 : Nat) : Int)) (((rdNum ((fT b17.tr).getD 2 Tr.z) 3 1099511627776).2 : Nat) : Int)) (((rdNum ((fT b17.tr).getD 3 Tr.z) 4 1099511627776).2 : Nat) : Int)) (((rdSeq ((fT b17.tr).getD 4 Tr.z) 129 (0 : Nat) (500 : Nat)).2 : Nat) : Int)) (lT b17.tr)) (((rdNum ((gT b17.tr).getD 0 Tr.z) 1 16).2 : Nat) : Int))]) rfl Try.hb51 rfl fun w h h2 => rdrNumF b5 (b38.2.getD 0 HT.z) ((gT b17.tr).getD 0 Tr.z) 1 16 (accE (orE (orE (orE (orE (orE (orE (orE (orE (decF xs).2 (((rdSeq b17.tr 135 (2 : Nat) (2 : Nat)).2 : Nat) : Int)) (((rdSeq ((wT b17.tr).getD 0 Tr.z) 134 (5 : Nat) (5 : Nat)).2 : Nat) : Int)) (((rdSeq ((wT b17.tr).getD 1 Tr.z) 131 (3 : Nat) (3 : Nat)).2 : Nat) : Int)) (((rdStr ((fT b17.tr).getD 0 Tr.z) 1 40).2 : Nat) : Int)) (((rdNum ((fT b17.tr).getD 1 Tr.z) 2 18446744073709551615).2 : Nat) : Int)) (((rdNum ((fT b17.tr).getD 2 Tr.z) 3 1099511627776).2 : Nat) : Int)) (((rdNum ((fT b17.tr).getD 3 Tr.z) 4 1099511627776).2 : Nat) : Int)) (((rdSeq ((fT b17.tr).getD 4 Tr.z) 129 (0 : Nat) (500 : Nat)).2 : Nat) : Int)) (lT b17.tr)) w h2 (HSeen.lsK (y := b38) (hseen_rdo h zz4 zz14) zz10) (tr_get (show trs b38.2 = gT b17.tr from p38.1) 0)) rfl (fun _ => (fun w h => .inr (h.sub SubC.h SubC.h))) (fun b86 p86 => ?_)
     refine wpd_p 5 rfl zz5 trivial (q64_intN Try.underlying22 Try.underlying3 rfl (by have := rdNum_le ((gT b17.tr).getD 0 Tr.z) 1 16; have e : (16 : UInt64).toNat = 16 := rfl; omega)) rfl (fun w h => .inr (h.sub SubC.h SubC.h)) ?_
     refine wpd_tp 10 rfl zz5 trivial (t_callUR (.blk b5 33 [.int .i64 (orE (accE (orE (orE (orE (orE (orE (orE (orE (orE (decF xs).2 (((rdSeq b17.tr 135 (2 : Nat) (2 : Nat)).2 : Nat) : Int)) (((rdSeq ((wT b17.tr).getD 0 Tr.z) 134 (5 : Nat) (5 : Nat)).2 : Nat) : Int)) (((rdSeq ((wT b17.tr).getD 1 Tr.z) 131 (3 : Nat) (3 : Nat)).2 : Nat) : Int)) (((rdStr ((fT b17.tr).getD 0 Tr.z) 1 40).2 : Nat) : Int)) (((rdNum ((fT b17.tr).getD 1 Tr.z) 2 18446744073709551615).2 : Nat) : Int)) (((rdNum ((fT b17.tr).getD 2 Tr.z) 3 1099511627776).2 : Nat) : Int)) (((rdNum ((fT b17.tr).getD 3 Tr.z) 4 1099511627776).2 : Nat) : Int)) (((rdSeq ((fT b17.tr).getD 4 Tr.z) 129 (0 : Nat) (500 : Nat)).2 : Nat) : Int)) (lT b17.tr)) (((rdNum ((gT b17.tr).getD 0 Tr.z) 1 16).2 : Nat) : Int))]) (.blk b5 33 [.int .i64 (orE (orE (orE (accE (orE (orE (orE (orE (orE (orE (orE (orE (decF xs).2 (((rdSeq b17.tr 135 (2 : Nat) (2 : Nat)).2 : Nat) : Int)) (((rdSeq ((wT b17.tr).getD 0 Tr.z) 134 (5 : Nat) (5 : Nat)).2 : Nat) : Int)) (((rdSeq ((wT b17.tr).getD 1 Tr.z) 131 (3 : Nat) (3 : Nat)).2 : Nat) : Int)) (((rdStr ((fT b17.tr).getD 0 Tr.z) 1 40).2 : Nat) : Int)) (((rdNum ((fT b17.tr).getD 1 Tr.z) 2 18446744073709551615).2 : Nat) : Int)) (((rdNum ((fT b17.tr).getD 2 Tr.z) 3 1099511627776).2 : Nat) : Int)) (((rdNum ((fT b17.tr).getD 3 Tr.z) 4 1099511627776).2 : Nat) : Int)) (((rdSeq ((fT b17.tr).getD 4 Tr.z) 129 (0 : Nat) (500 : Nat)).2 : Nat) : Int)) (lT b17.tr)) (((rdNum ((gT b17.tr).getD 0 Tr.z) 1 16).2 : Nat) : Int)) (((rdStr ((gT b17.tr).getD 1 Tr.z) 2 65536).2 : Nat) : Int)) (shE (rdStr ((gT b17.tr).getD 1 Tr.z) 2 65536).1))]) rfl Try.hb54 rfl fun w h h2 => rdrShF b5 (b38.2.getD 1 HT.z) ((gT b17.tr).getD 1 Tr.z) 2 (orE (accE (orE (orE (orE (orE (orE (orE (orE (orE (decF xs).2 (((rdSeq b17.tr 135 (2 : Nat) (2 : Nat)).2 : Nat) : Int)) (((rdSeq ((wT b17.tr).getD 0 Tr.z) 134 (5 : Nat) (5 : Nat)).2 : Nat) : Int)) (((rdSeq ((wT b17.tr).getD 1 Tr.z) 131 (3 : Nat) (3 : Nat)).2 : Nat) : Int)) (((rdStr ((fT b17.tr).getD 0 Tr.z) 1 40).2 : Nat) : Int)) (((rdNum ((fT b17.tr).getD 1 Tr.z) 2 18446744073709551615).2 : Nat) : Int)) (((rdNum ((fT b17.tr).getD 2 Tr.z) 3 1099511627776).2 : Nat) : Int)) (((rdNum ((fT b17.tr).getD 3 Tr.z) 4 1099511627776).2 : Nat) : Int)) (((rdSeq ((fT b17.tr).getD 4 Tr.z) 129 (0 : Nat) (500 : Nat)).2 : Nat) : Int)) (lT b17.tr)) (((rdNum ((gT b17.tr).getD 0 Tr.z) 1 16).2 : Nat) : Int)) w h2 (HSeen.lsK (y := b38) (hseen_rdo h zz4 zz14) zz10) (tr_get (show trs b38.2 = gT b17.tr from p38.1) 1) (bs_le (sm_get (lo := 3) (hi := 3) (sm_get hsmT 1) 1))) rfl (fun _ => (fun w h => .inr (h.sub SubC.h SubC.h))) (fun b92 p92 => ?_)
     refine wpd_tp 15 rfl zz5 trivial (t_callUR (.blk b5 33 [.int .i64 (orE (orE (orE (accE (orE (orE (orE (orE (orE (orE (orE (orE (decF xs).2 (((rdSeq b17.tr 135 (2 : Nat) (2 : Nat)).2 : Nat) : Int)) (((rdSeq ((wT b17.tr).getD 0 Tr.z) 134 (5 : Nat) (5 : Nat)).2 : Nat) : Int)) (((rdSeq ((wT b17.tr).getD 1 Tr.z) 131 (3 : Nat) (3 : Nat)).2 : Nat) : Int)) (((rdStr ((fT b17.tr).getD 0 Tr.z) 1 40).2 : Nat) : Int)) (((rdNum ((fT b17.tr).getD 1 Tr.z) 2 18446744073709551615).2 : Nat) : Int)) (((rdNum ((fT b17.tr).getD 2 Tr.z) 3 1099511627776).2 : Nat) : Int)) (((rdNum ((fT b17.tr).getD 3 Tr.z) 4 1099511627776).2 : Nat) : Int)) (((rdSeq ((fT b17.tr).getD 4 Tr.z) 129 (0 : Nat) (500 : Nat)).2 : Nat) : Int)) (lT b17.tr)) (((rdNum ((gT b17.tr).getD 0 Tr.z) 1 16).2 : Nat) : Int)) (((rdStr ((gT b17.tr).getD 1 Tr.z) 2 65536).2 : Nat) : Int)) (shE (rdStr ((gT b17.tr).getD 1 Tr.z) 2 65536).1))]) (.blk b5 33 [.int .i64 (orE (orE (orE (orE (orE (accE (orE (orE (orE (orE (orE (orE (orE (orE (decF xs).2 (((rdSeq b17.tr 135 (2 : Nat) (2 : Nat)).2 : Nat) : Int)) (((rdSeq ((wT b17.tr).getD 0 Tr.z) 134 (5 : Nat) (5 : Nat)).2 : Nat) : Int)) (((rdSeq ((wT b17.tr).getD 1 Tr.z) 131 (3 : Nat) (3 : Nat)).2 : Nat) : Int)) (((rdStr ((fT b17.tr).getD 0 Tr.z) 1 40).2 : Nat) : Int)) (((rdNum ((fT b17.tr).getD 1 Tr.z) 2 18446744073709551615).2 : Nat) : Int)) (((rdNum ((fT b17.tr).getD 2 Tr.z) 3 1099511627776).2 : Nat) : Int)) (((rdNum ((fT b17.tr).getD 3 Tr.z) 4 1099511627776).2 : Nat) : Int)) (((rdSeq ((fT b17.tr).getD 4 Tr.z) 129 (0 : Nat) (500 : Nat)).2 : Nat) : Int)) (lT b17.tr)) (((rdNum ((gT b17.tr).getD 0 Tr.z) 1 16).2 : Nat) : Int)) (((rdStr ((gT b17.tr).getD 1 Tr.z) 2 65536).2 : Nat) : Int)) (shE (rdStr ((gT b17.tr).getD 1 Tr.z) 2 65536).1)) (((rdStr ((gT b17.tr).getD 2 Tr.z) 3 65536).2 : Nat) : Int)) (shE (rdStr ((gT b17.tr).getD 2 Tr.z) 3 65536).1))]) rfl Try.hb54 rfl fun w h h2 => rdrShF b5 (b38.2.getD 2 HT.z) ((gT b17.tr).getD 2 Tr.z) 3 (orE (orE (orE (accE (orE (orE (orE (orE (orE (orE (orE (orE (decF xs).2 (((rdSeq b17.tr 135 (2 : Nat) (2 : Nat)).2 : Nat) : Int)) (((rdSeq ((wT b17.tr).getD 0 Tr.z) 134 (5 : Nat) (5 : Nat)).2 : Nat) : Int)) (((rdSeq ((wT b17.tr).getD 1 Tr.z) 131 (3 : Nat) (3 : Nat)).2 : Nat) : Int)) (((rdStr ((fT b17.tr).getD 0 Tr.z) 1 40).2 : Nat) : Int)) (((rdNum ((fT b17.tr).getD 1 Tr.z) 2 18446744073709551615).2 : Nat) : Int)) (((rdNum ((fT b17.tr).getD 2 Tr.z) 3 1099511627776).2 : Nat) : Int)) (((rdNum ((fT b17.tr).getD 3 Tr.z) 4 1099511627776).2 : Nat) : Int)) (((rdSeq ((fT b17.tr).getD 4 Tr.z) 129 (0 : Nat) (500 : Nat)).2 : Nat) : Int)) (lT b17.tr)) (((rdNum ((gT b17.tr).getD 0 Tr.z) 1 16).2 : Nat) : Int)) (((rdStr ((gT b17.tr).getD 1 Tr.z) 2 65536).2 : Nat) : Int)) (shE (rdStr ((gT b17.tr).getD 1 Tr.z) 2 65536).1)) w h2 (HSeen.lsK (y := b38) (hseen_rdo h zz4 zz14) zz10) (tr_get (show trs b38.2 = gT b17.tr from p38.1) 2) (bs_le (sm_get (lo := 3) (hi := 3) (sm_get hsmT 1) 2))) rfl (fun _ => (fun w h => .inr (h.sub SubC.h SubC.h))) (fun b97 p97 => ?_)
     refine wpd_p 16 rfl zz5 trivial (q_build (cs := [.int .i64 (((rdNum ((gT b17.tr).getD 0 Tr.z) 1 16).1.toNat : Nat) : Int), b92, b97]) rfl (built_sg p92 p97)) rfl (fun w h => .inr (h.sub SubC.h SubC.h)) ?_
     have hnmO : (rdStr ((fT b17.tr).getD 0 Tr.z) 1 40).1.length ≤ maxLen := by
       have q1 := rdStr_le ((fT b17.tr).getD 0 Tr.z) 1 40
       have q2 : (((fT b17.tr).getD 0 Tr.z)).bs.length ≤ 1000000 := bs_le (sm_get (lo := 5) (hi := 5) (sm_get hsmT 0) 0)
       unfold maxLen; omega
     haveI : OneC (outR b17.tr sv b92 b97).c := Rv.svs.one (l := (outR b17.tr sv b92 b97)) ⟨by show SV sv (serS (lT b17.tr)).length; rw [serS_len]; exact hi1, p92, p97⟩
     refine wpd_p 17 rfl zz5 trivial (q_field Try.underlying30 rfl Try.ti28 rfl rfl _ rfl) rfl (fun w h => .inr (h.sub SubC.h SubC.h)) ?_
     refine wpd_t0 18 rfl zz5 trivial (t_stP Try.ti28 rfl rfl zz7 (OneC.cons rfl (OneC.cons (SV.one p92) (OneC.cons (SV.one p97) oneC_nil))).h zz3 (outR b17.tr sv b92 b97).c rfl) (fun _ => (fun w h => .inr (h.sub SubC.h SubC.h))) (fun _ => ?_)
     refine wpd_done zz5 ?_
     refine ex_then <| wpc_seq <| wpc_seq <| wpc_region ?_
     refine wpl_q (q_ld Try.underlying33 rfl rfl zz22) rfl ?_
     refine wpl_q (q_pure rfl) rfl <| wpl_q (q_pure rfl) rfl ?_
     refine wpl_bool2 102 101 rfl rfl (fun hb102 => ?_) (fun hb102 => ?_)
     ·
      try simp only [decide_eq_true_eq, decide_eq_false_iff_not, Bool.and_eq_true, Bool.or_eq_true, beq_iff_eq, bne_iff_ne, ne_eq, Bool.not_eq_true', Bool.not_eq_false', Decidable.not_not] at hb102
      refine wpl_off rfl rfl rfl rfl <| wpl_off rfl rfl rfl rfl <| wpl_off rfl rfl rfl rfl <| wpl_q (q_pure rfl) rfl <| wpl_nil <| ex_then ?_
      refine wpc_cond_t rfl ?_
      refine wpc_seq <| wpc_region ?_
      refine wpl_q (q_build (cs := Rv.z.c) rfl built_rz) rfl ?_
      refine wpl_t0 (t_stA Try.ti30 rfl rfl LenC.h OneC.h LenC.h) (fun _ => ?_)
      refine wpl_q (q_pure rfl) rfl <| wpl_nil <| ex_then <| wpc_ret ?_
      refine ex_then_ret ?_
      refine retv2 (.inl rfl) rfl (rv_agg Try.underlying30 rfl Try.ti30 rfl (fun w h => h.atB) zz7) (rv_tmp rfl) ?_
      exact fun w1 h => ⟨(Rv.z, 12), ⟨zz34, Rv.z_svs⟩, rfl, h.below, rvE_z h⟩
     ·
      try simp only [decide_eq_true_eq, decide_eq_false_iff_not, Bool.and_eq_true, Bool.or_eq_true, beq_iff_eq, bne_iff_ne, ne_eq, Bool.not_eq_true', Bool.not_eq_false', Decidable.not_not] at hb102
      refine wpl_on rfl rfl <| wpl_q (q_ldN Try.underlying30 rfl Try.ti30 rfl LenC.h) rfl <| wpl_on rfl rfl ?_
      refine wpl_t (t_pur Try.hb12 rfl fun w h => rvCheck (outR b17.tr sv b92 b97) w ⟨(by rw [show ((outR b17.tr sv b92 b97)).ss.length = (lT b17.tr).length from serS_len _]; exact h.seen_row zz4), h.seen_row zz4, shK_all, h.seen_row zz4, shK_all⟩ hnmO) rfl (fun b104 => ?_)
      refine wpl_on rfl rfl <| wpl_q (q_pure rfl) rfl <| wpl_q (q_pure rfl) rfl <| wpl_nil <| ex_then ?_
      refine wpc_cond rfl (fun hc106 => ?_) (fun hc106 => ?_)
      ·
       try simp only [decide_eq_true_eq, decide_eq_false_iff_not, Bool.and_eq_true, Bool.or_eq_true, beq_iff_eq, bne_iff_ne, ne_eq, Bool.not_eq_true', Bool.not_eq_false', Decidable.not_not] at hc106
       refine wpc_seq <| wpc_region ?_
       refine wpl_q (q_build (cs := Rv.z.c) rfl built_rz) rfl ?_
       refine wpl_t0 (t_stA Try.ti30 rfl rfl LenC.h OneC.h LenC.h) (fun _ => ?_)
       refine wpl_q (q_pure rfl) rfl <| wpl_nil <| ex_then <| wpc_ret ?_
       refine ex_then_ret ?_
       refine retv2 (.inl rfl) rfl (rv_agg Try.underlying30 rfl Try.ti30 rfl (fun w h => h.atB) zz7) (rv_tmp rfl) ?_
       exact fun w1 h => ⟨(Rv.z, 12), ⟨zz34, Rv.z_svs⟩, rfl, h.below, rvE_z h⟩
      ·
       try simp only [decide_eq_true_eq, decide_eq_false_iff_not, Bool.and_eq_true, Bool.or_eq_true, beq_iff_eq, bne_iff_ne, ne_eq, Bool.not_eq_true', Bool.not_eq_false', Decidable.not_not] at hc106
       refine wpc_skip <| ex_then <| wpc_seq <| wpc_region <| wpl_q (q_ldN Try.underlying30 rfl Try.ti30 rfl LenC.h) rfl ?_
       refine wpl_t0 (t_stA Try.ti30 rfl rfl LenC.h OneC.h LenC.h) (fun _ => ?_)
       refine wpl_q (q_pure rfl) rfl <| wpl_nil <| ex_then <| wpc_ret ?_
       refine retv2 (.inl rfl) rfl (rv_agg Try.underlying30 rfl Try.ti30 rfl (fun w h => h.atB) zz7) (rv_tmp rfl) ?_
       exact fun w1 h => ⟨((outR b17.tr sv b92 b97), 0), ⟨by have q := dec_yes (xs := xs) (sv := sv) (cv := b92) (pv := b97) (by rw [← p17.1]; exact bne_f hb102) (by rw [← p17.1]; first | exact hc106 | exact bne_f hc106); rwa [← p17.1] at q, ⟨by show SV sv (serS (lT b17.tr)).length; rw [serS_len]; exact hi1, p92, p97⟩⟩, rfl, h.below, by
         show New _ [Ent.row sv (serS (lT b17.tr)).length 22 1 (v64s (serS (lT b17.tr))), .row b92 (shF (rdStr ((gT b17.tr).getD 1 Tr.z) 2 65536).1).length 62 16 (v8s (shF (rdStr ((gT b17.tr).getD 1 Tr.z) 2 65536).1).flatten), .row b97 (shF (rdStr ((gT b17.tr).getD 2 Tr.z) 3 65536).1).length 62 16 (v8s (shF (rdStr ((gT b17.tr).getD 2 Tr.z) 3 65536).1).flatten)] [] w1
         rw [serS_len]
         exact (h.sel (M' := [Ent.row sv (lT b17.tr).length 22 1 (v64s (serS (lT b17.tr))), .row b92 (shF (rdStr ((gT b17.tr).getD 1 Tr.z) 2 65536).1).length 62 16 (v8s (shF (rdStr ((gT b17.tr).getD 1 Tr.z) 2 65536).1).flatten), .row b97 (shF (rdStr ((gT b17.tr).getD 2 Tr.z) 3 65536).1).length 62 16 (v8s (shF (rdStr ((gT b17.tr).getD 2 Tr.z) 3 65536).1).flatten)])).made (Sub.refl _) .nil⟩
end Go.Proofs.Ytgnablliekgbgaa
namespace Go.Proofs.Ytgnablliekgbgaa
open Go Go.PL Go.RowKit
def rvseen (y : Rv) : Fact := ⟨fun r => y.seen r, fun _ _ hr h => h.mono hr⟩
theorem Mem.rvF {w0 w : World} {Ln : List Nat} {M : List Ent} {S : List Fact} (h : Mem w0 Ln M S w) {y : Rv} (hy : Go.Proofs.Ytgnablliekgbgaa.rvseen y ∈ S) : y.seen w.cell? := h.fact hy
theorem DecP.len {xs : List UInt8} {y : Rv} {e : Int} (h : DecP xs y e) : (∀ x ∈ y.chs, x.length = 16) ∧ (∀ x ∈ y.ps, x.length = 16) := by
  rcases h with ⟨_, h, _⟩ | ⟨_, h, _⟩
  · exact h.2
  · have h1 : y.chs = [] := h.2.2.2.2.2.1
    have h2 : y.ps = [] := h.2.2.2.2.2.2
    rw [h1, h2]
    constructor <;> (intro x hx; cases hx)
theorem rv_freeze {w0 w : World} {M : List Ent} {S : List Fact} {y : Rv} (hc : ∀ x ∈ y.chs, x.length = 16) (hp : ∀ x ∈ y.ps, x.length = 16) (h : Mem w0 [] (rvE y ++ M) S w) : Mem w0 [] M (Go.Proofs.Ytgnablliekgbgaa.rvseen y :: S) w := by
  have h2 := ((h.freezeRow .here).freezeRow .here).freezeRow .here
  exact h2.imp fun r hr f hf => by
    rcases List.mem_cons.1 hf with rfl | hf
    · exact ⟨hr (Go.PL.seen y.sv y.ss.length 1 (v64s y.ss)) zz36, hr (Go.PL.seen y.cv y.chs.length 16 (v8s y.chs.flatten)) zz36, hc, hr (Go.PL.seen y.pv y.ps.length 16 (v8s y.ps.flatten)) zz36, hp⟩
    · exact hr f (by simp [hf])
theorem frzD {P : Program} {k : FuncId} {vs : Array Value} {w : World} {xs : List UInt8} {V : Rv × Int → Value} (h : Calls P k vs w (GivesP w (fun y : Rv × Int => DecP xs y.1 y.2 ∧ y.1.svs) V (fun y => rvE y.1) (fun _ => []))) : Calls P k vs w (GivesP w (fun y : Rv × Int => DecP xs y.1 y.2 ∧ y.1.svs) V (fun _ => []) (fun y => [Go.Proofs.Ytgnablliekgbgaa.rvseen y.1])) := by
  refine h.mono ?_
  rintro e w' ⟨y, hp, rfl, hb, hn⟩
  have hm := (Mem.start w).call hb hn
  rw [List.append_nil, List.append_nil] at hm
  exact ⟨y, hp, rfl, hb, (rv_freeze (M := []) hp.1.len.1 hp.1.len.2 (by rw [List.append_nil]; exact hm)).made .nil (Sub.refl _)⟩
theorem lim_no {l : Rv} (h : bigR l = false) : RLim l := by
  obtain ⟨a1, a2, a3, a4⟩ := big_no h
  exact ⟨a1, a2, a3, a4⟩
end Go.Proofs.Ytgnablliekgbgaa
namespace Go.Proofs.Ytgnablliekgbgaa
open Go Go.PL Go.RowKit
def exR (sv : Value) : Rv := ⟨[97], 2, 0, 9, sv, [5, 7], 0, nl, [], nl, []⟩
theorem ex_eqv (a b : Value) : (exR a).eqv (exR b) := ⟨rfl, rfl, ⟨rfl, rfl⟩, rfl, rfl, rfl, rfl⟩
theorem eqv_bdy {a b : Rv} (h : a.eqv b) : bdyB a = bdyB b := by
  obtain ⟨nm, no, fr, tt, sv, ss, ix, cv, chs, pv, ps⟩ := a
  obtain ⟨nm2, no2, fr2, tt2, sv2, ss2, ix2, cv2, chs2, pv2, ps2⟩ := b
  obtain ⟨e1, e2, ⟨e3, e4⟩, e5, e6, e7, e8⟩ := h
  dsimp only at e1 e2 e3 e4 e5 e6 e7 e8
  subst e1 e2 e3 e4 e5 e6 e7 e8
  rfl
theorem ex_chk (sv : Value) : chkR (exR sv) = 0 := (eqv_chk (ex_eqv sv nl)).trans zz15
theorem ex_lim (sv : Value) : RLim (exR sv) := ⟨by show 1 ≤ 500; omega, by show 2 ≤ 520; omega, by show 0 ≤ 60; omega, by show 0 ≤ 60; omega⟩
theorem ex_ok (sv : Value) : okL (exR sv) := ⟨ex_chk sv, fun x hx => (by cases hx), fun x hx => (by cases hx)⟩
theorem ex_body (sv : Value) : bdyB (exR sv) = [134, 19, 1, 1, 97, 2, 1, 2, 3, 0, 4, 1, 9, 129, 6, 5, 1, 5, 5, 1, 7] := (eqv_bdy (ex_eqv sv nl)).trans (by decide +kernel)
theorem ex_enc (sv : Value) : encB (exR sv) = enc (wholeT (exR sv)) := enc_ok (ex_chk sv)
theorem ex_dec {y : Rv} {e : Int} {sv sv2 : Value} (h : DecP (encB (exR sv)) y e) : e = 0 ∧ y.eqv (exR sv2) := by
  have k : DecP (encB (exR sv)) (exR sv) 0 := .inl ⟨rfl, ex_ok sv, (ex_enc sv).symm⟩
  obtain ⟨h1, h2⟩ := h.uniq k
  exact ⟨h2, eqv_trans h1 (ex_eqv _ _)⟩
theorem ex_seen {r : Rd} {sv : Value} (h : Seen r sv 2 1 (v64s [5, 7])) : (exR sv).seen r := ⟨h, seen_nil _ 0 _, fun x hx => (by cases hx), seen_nil _ 0 _, fun x hx => (by cases hx)⟩
theorem ex_nm (sv : Value) : (exR sv).nm.length ≤ maxLen := by show 1 ≤ maxLen; unfold maxLen; omega
theorem ex_rev5 (sv : Value) : revV (exR sv) 5 = true := by
  unfold revV; rw [ex_chk]; rfl
theorem ex_rev6 (sv : Value) : revV (exR sv) 6 = false := by
  unfold revV; rw [ex_chk]; rfl
theorem ex_svs {sv : Value} (h : SV sv 2) : (exR sv).svs := ⟨h, SV.nil, SV.nil⟩
theorem built_ex {sv : Value} {n : Nat} (h : SV sv n) : Try.prog.built 30 [(0, .string ⟨#[97]⟩), (1, .int .u64 2), (2, .agg #[.int .i64 0, .int .i64 9]), (3, sv)] = some (exR sv).c.toArray := by
  obtain ⟨a, cap, rfl, _⟩ := h
  kernel_rfl
theorem exampleR  (w : World)   :
    Calls Try.prog 60 [].toArray w (GivesP w (fun sv : Value => SV sv 2) (fun sv => .agg (exR sv).c.toArray) (fun sv => [.row sv 2 22 1 (v64s [5, 7])]) (fun _ => [])) := by
  refine enter (m := 4) (R := Mem w [] [] []) Try.func60 rfl rfl (Nat.le_of_ble_eq_true rfl) (Mem.start w) ?_
  refine wpc_seq <| wpc_region ?_
  refine wpl_t (t_alloc Try.ti30 Rv.z.c rfl) rfl (fun b0 => ?_)
  refine wpl_nil <| ex_then <| wpc_seq <| wpc_region ?_
  refine wpl_q (q_build (cs := [.int .i64 0, .int .i64 9]) rfl zz5) rfl ?_
  refine wpl_tp (t_bsV (v64s [5, 7]) Try.underlying25 Try.ti22 rfl rfl zz15 zz15 rfl (v64s_one _)) rfl (fun b2 p2 => ?_)
  haveI : OneC (exR b2).c := (ex_svs p2).one
  refine wpl_q (q_build (cs := (exR b2).c) rfl (built_ex p2)) rfl ?_
  refine wpl_t0 (t_stA Try.ti30 rfl rfl LenC.h OneC.h LenC.h) (fun _ => ?_)
  refine wpl_nil <| ex_then <| wpc_ret ?_
  refine retv1 (.inl rfl) rfl (rv_agg Try.underlying30 rfl Try.ti30 rfl (fun w h => h.atB) LenC.h) ?_
  exact fun w1 h => ⟨b2, p2, rfl, h.below, h.made SubC.h .nil⟩
end Go.Proofs.Ytgnablliekgbgaa
namespace Go.Proofs.Ytgnablliekgbgaa
open Go Go.PL Go.RowKit
theorem alive11  (w : World)   :
    Calls Try.prog 24 [].toArray w (Pur w (.bool true)) := by
  refine enter (m := 71) (R := Mem w [] [] []) Try.func24 rfl rfl (Nat.le_of_ble_eq_true rfl) (Mem.start w) ?_
  refine wpc_seq <| wpc_region <| wpl_q (q_pure rfl) rfl <| wpl_nil <| ex_then <| wpc_seq <| wpc_region ?_
  refine wpl_tp (t_callP1 Try.hb60 rfl fun w h => exampleR w) rfl (fun b12 p12 => ?_)
  haveI : OneC (exR b12).c := (ex_svs p12).one
  refine wpl_tp (t_callP1 Try.hb19 rfl fun w h => rvBodyB (exR b12) w (ex_seen (h.seen_row zz4)) (ex_nm _) (ex_lim _).ss (ex_lim _).nm) rfl (fun b13 p13 => ?_)
  refine wpl_q (q_pure rfl) rfl <| wpl_q (q_pure rfl) rfl <| wpl_q (q_pure rfl) rfl <| wpl_q (q_pure rfl) rfl <| wpl_q (q_pure rfl) rfl <| wpl_nil <| ex_then <| wpc_seq <| wpc_region ?_
  refine wpl_tp (t_callP1 Try.hb60 rfl fun w h => exampleR w) rfl (fun b17 p17 => ?_)
  haveI : OneC (exR b17).c := (ex_svs p17).one
  refine wpl_tp (t_callP1 Try.hb17 rfl fun w h => rvEncode (exR b17) w (ex_seen (h.seen_row zz4)) (ex_nm _) (ex_lim _)) rfl (fun b18 p18 => ?_)
  refine wpl_q (q_pure rfl) rfl <| wpl_q (q_pure rfl) rfl <| wpl_q (q_pure rfl) rfl <| wpl_q (q_pure rfl) rfl <| wpl_q (q_pure rfl) rfl <| wpl_nil <| ex_then <| wpc_seq <| wpc_region <| wpl_q (q_pure rfl) rfl ?_
  refine wpl_tp (t_callPT Try.hb21 rfl fun w h => frzD (decodeR b18 (encB (exR b17)) w (h.seen_row zz4))) rfl (fun b23 p23 => ?_)
  haveI := p23.2.one
  have hd := ex_dec (sv2 := b17) p23.1
  refine wpl_q (q_pure rfl) rfl <| wpl_q (q_pure rfl) rfl <| wpl_q (q_pure rfl) rfl ?_
  refine wpl_t (t_alloc Try.ti30 Rv.z.c rfl) rfl (fun b5 => ?_)
  refine wpl_t0 (t_stA Try.ti30 rfl rfl LenC.h OneC.h LenC.h) (fun _ => ?_)
  refine wpl_q (q_pure rfl) rfl <| wpl_nil <| ex_then <| wpc_seq <| wpc_region ?_
  refine wpl_tp (t_callP1 Try.hb60 rfl fun w h => exampleR w) rfl (fun b27 p27 => ?_)
  haveI : OneC (exR b27).c := (ex_svs p27).one
  refine wpl_t (t_pur (v := .tuple #[.bool true, .int .i64 0]) Try.hb9 rfl fun w h => by
    have q := revoked (exR b27) 5 w (ex_seen (h.seen_row zz4)) (ex_nm _)
    rwa [ex_rev5, ex_chk] at q) rfl (fun b28 => ?_)
  refine wpl_q (q_pure rfl) rfl <| wpl_q (q_pure rfl) rfl <| wpl_q (q_pure rfl) rfl <| wpl_q (q_pure rfl) rfl <| wpl_q (q_pure rfl) rfl <| wpl_nil <| ex_then <| wpc_seq <| wpc_region ?_
  refine wpl_tp (t_callP1 Try.hb60 rfl fun w h => exampleR w) rfl (fun b32 p32 => ?_)
  haveI : OneC (exR b32).c := (ex_svs p32).one
  refine wpl_t (t_pur (v := .tuple #[.bool false, .int .i64 0]) Try.hb9 rfl fun w h => by
    have q := revoked (exR b32) 6 w (ex_seen (h.seen_row zz4)) (ex_nm _)
    rwa [ex_rev6, ex_chk] at q) rfl (fun b33 => ?_)
  refine wpl_q (q_pure rfl) rfl <| wpl_q (q_pure rfl) rfl <| wpl_q (q_pure rfl) rfl <| wpl_q (q_pure rfl) rfl <| wpl_q (q_pure rfl) rfl <| wpl_nil <| ex_then <| wpc_seq ?_
  refine wpc_draw 36 zz5 (fun _ h => h.drew) ?_
  refine wpd_p 0 rfl zz5 trivial (q_pure rfl) rfl sk0 ?_
  refine wpd_p 1 rfl zz5 trivial (q_tru (q_eqI rfl rfl) (ex_chk b12)) rfl sk0 ?_
  refine wpd_p 2 rfl zz5 trivial (q_pure rfl) rfl sk0 ?_
  refine wpd_p 3 rfl zz5 ⟨_, rfl, rfl⟩ (q_pure rfl) rfl sk0 ?_
  refine wpd_p 4 rfl zz5 ⟨_, rfl, rfl⟩ (q_tru (q_eqI rfl rfl) (ex_chk b17)) rfl sk0 ?_
  refine wpd_p 5 rfl zz5 trivial (q_pure rfl) rfl sk0 ?_
  refine wpd_p 6 rfl zz5 trivial (q_pure rfl) rfl sk0 ?_
  refine wpd_p 7 rfl zz5 ⟨_, rfl, rfl⟩ (q_pure rfl) rfl sk0 ?_
  refine wpd_p 8 rfl zz5 ⟨_, rfl, rfl⟩ (q_tru (q_eqI rfl rfl) hd.1) rfl sk0 ?_
  refine wpd_p 9 rfl zz5 trivial (q_pure rfl) rfl sk0 ?_
  refine wpd_p 10 rfl zz5 trivial (q_pure rfl) rfl sk0 ?_
  refine wpd_p 11 rfl zz5 ⟨_, rfl, rfl⟩ (q_pure rfl) rfl sk0 ?_
  refine wpd_p 12 rfl zz5 ⟨_, rfl, rfl⟩ (q_tru (q_eqI rfl rfl) rfl) rfl sk0 ?_
  refine wpd_p 13 rfl zz5 trivial (q_pure rfl) rfl sk0 ?_
  refine wpd_p 14 rfl zz5 trivial (q_pure rfl) rfl sk0 ?_
  refine wpd_p 15 rfl zz5 ⟨_, rfl, rfl⟩ (q_pure rfl) rfl sk0 ?_
  refine wpd_p 16 rfl zz5 ⟨_, rfl, rfl⟩ (q_tru (q_eqI rfl rfl) rfl) rfl sk0 ?_
  refine wpd_p 17 rfl zz5 trivial (q_pure rfl) rfl sk0 ?_
  refine wpd_p 18 rfl zz5 trivial (q_pure rfl) rfl sk0 ?_
  refine wpd_p 19 rfl zz5 ⟨_, rfl, rfl⟩ (q_pure rfl) rfl sk0 ?_
  refine wpd_p 20 rfl zz5 trivial (q_pure rfl) rfl sk0 ?_
  refine wpd_p 21 rfl zz5 trivial (q_pure rfl) rfl sk0 ?_
  refine wpd_bool2 57 29 rfl rfl (fun hb57 => ?_) (fun hb57 => ?_)
  ·
   refine wpd_p 22 rfl zz5 ⟨_, rfl, rfl⟩ (q_pure rfl) rfl sk0 ?_
   refine wpd_p 23 rfl zz5 ⟨_, rfl, rfl⟩ (q_pure rfl) rfl sk0 ?_
   refine wpd_p 24 rfl zz5 trivial (q_pure rfl) rfl sk0 ?_
   refine wpd_p 25 rfl zz5 trivial (q_pure rfl) rfl sk0 ?_
   refine wpd_bool2 61 59 rfl rfl (fun hb61 => ?_) (fun hb61 => ?_)
   ·
    refine wpd_q 26 rfl zz5 ⟨_, rfl, rfl⟩ (q_ldN Try.underlying30 rfl Try.ti30 rfl LenC.h) rfl (fun _ h => h) ?_
    refine wpd_tp 27 rfl zz5 ⟨_, rfl, rfl⟩ (t_callP1 Try.hb60 rfl fun w h => exampleR w) rfl (fun _ => (fun w h => .inr (h.sub SubC.h SubC.h))) (fun b63 p63 => ?_)
    haveI : OneC (exR b63).c := (ex_svs p63).one
    refine wpd_t 28 rfl zz5 ⟨_, rfl, rfl⟩ (t_pur (v := .bool true) Try.hb15 rfl fun w h => by
      have q := refRvSame b23.1 (exR b63) w (Mem.rvF h zz4) (ex_seen (h.seen_row zz4))
      rwa [decide_eq_true (eqv_trans hd.2 (ex_eqv _ _))] at q) rfl (fun _ => (fun w h => .inr (h.sub SubC.h SubC.h))) (fun b64 => ?_)
    refine wpd_p 29 rfl zz5 trivial (q_pure rfl) rfl (fun w h => .inr (h.sub SubC.h SubC.h)) ?_
    refine wpd_p 30 rfl zz5 trivial (q_pure rfl) rfl (fun w h => .inr (h.sub SubC.h SubC.h)) ?_
    refine wpd_p 31 rfl zz5 ⟨_, rfl, rfl⟩ (q_pure rfl) rfl (fun w h => .inr (h.sub SubC.h SubC.h)) ?_
    refine wpd_tp 32 rfl zz5 ⟨_, rfl, rfl⟩ (t_bsV (v8s [134, 19, 1, 1, 97, 2, 1, 2, 3, 0, 4, 1, 9, 129, 6, 5, 1, 5, 5, 1, 7]) Try.underlying43 Try.ti5 rfl rfl zz15 zz15 rfl (v8s_one _)) rfl (fun _ => (fun w h => .inr (h.sub SubC.h SubC.h))) (fun b68 p68 => ?_)
    refine wpd_t 33 rfl zz5 ⟨_, rfl, rfl⟩ (t_pur (v := .bool true) Try.hb23 rfl fun w h => by
      have q := sameB b13 (bdyB (exR b12)) b68 [134, 19, 1, 1, 97, 2, 1, 2, 3, 0, 4, 1, 9, 129, 6, 5, 1, 5, 5, 1, 7] w (h.seen_row zz4) (h.seen_row zz4)
      rwa [decide_eq_true (ex_body b12)] at q) rfl (fun _ => (fun w h => .inr (h.sub SubC.h SubC.h))) (fun b69 => ?_)
    refine wpd_p 34 rfl zz5 trivial (q_pure rfl) rfl (fun w h => .inr (h.sub SubC.h SubC.h)) ?_
    refine wpd_p 35 rfl zz5 trivial (q_pure rfl) rfl (fun w h => .inr (h.sub SubC.h SubC.h)) ?_
    refine wpd_done zz5 ?_
    refine ex_then <| wpc_ret ?_
    refine ret1 (.inl rfl) rfl rfl ?_
    exact fun w h => ⟨by first | rfl | simp, h.below⟩
   ·
    exact absurd hb61 zz15
  ·
   exact absurd hb57 zz15
end Go.Proofs.Ytgnablliekgbgaa
namespace Go.Proofs.Ytgnablliekgbgaa
open Go Go.PL Go.RowKit
theorem Rv.c_len (l : Rv) : l.c.length = 8 := rfl
theorem chk_both {a b : Rv} (ha : chkR a = 0) (hb : chkR b = 0) (sv cv pv : Value) : chkR (⟨a.nm, a.no, a.fr, a.tt, sv, a.ss, b.ix, cv, b.chs, pv, b.ps⟩ : Rv) = 0 ∧ True := by
  refine ⟨?_, trivial⟩
  have h2 := (chk_inv ha).2
  have h5 := (chk_inv ha).1
  unfold chkR at ha hb
  rw [if_neg h5] at ha
  split at ha
  · rename_i k1
    split at hb
    · cases hb
    · split at hb
      · rename_i _ k2
        unfold okR okA at k1 k2
        simp only [Bool.and_eq_true, decide_eq_true_eq] at k1 k2
        unfold chkR okR okA
        rw [if_neg h5, if_pos]
        simp only [Bool.and_eq_true, decide_eq_true_eq]
        exact ⟨⟨⟨k1.1.1.1, k1.1.1.2⟩, k2.1.2⟩, k1.2⟩
      · cases hb
  · cases ha
def sgR (a b : Rv) (sv cv pv : Value) : Rv := ⟨a.nm, a.no, a.fr, a.tt, sv, a.ss, b.ix, cv, b.chs, pv, b.ps⟩
theorem bdy_inj {a b : Rv} (ha : chkR a = 0) (hb : chkR b = 0) (hc : ∀ x ∈ b.chs, x.length = 16) (hp : ∀ x ∈ b.ps, x.length = 16) (h : bdyB a = bdyB b) (sv cv pv : Value) : (sgR a b sv cv pv).eqv b := by
  have la := chk_lim ha
  have lb := chk_lim hb
  rw [bdy_ok ha, bdy_ok hb] at h
  have ea : decF (enc (bodyT a)) = (bodyT a, 0) := dec_enc (sm_body la.ss la.nm) (chk_body ha la.nm)
  have eb : decF (enc (bodyT b)) = (bodyT b, 0) := dec_enc (sm_body lb.ss lb.nm) (chk_body hb lb.nm)
  have e : bodyT a = bodyT b := by
    rw [h, eb] at ea
    exact (congrArg Prod.fst ea).symm
  obtain ⟨h1, h2⟩ := chk_both ha hb sv cv pv
  have e2 : wholeT (sgR a b sv cv pv) = wholeT b := by
    show Tr.nd 135 [] [bodyT a, sigT b] = Tr.nd 135 [] [bodyT b, sigT b]
    rw [e]
  have q1 := (of_whole (l := sgR a b sv cv pv) ⟨h1, hc, hp⟩ nl nl nl).2
  rw [e2] at q1
  exact eqv_trans (eqv_symm q1) (of_whole (l := b) ⟨hb, hc, hp⟩ nl nl nl).2
theorem bdy_same {a b : Rv} {sv cv pv : Value} (h : (sgR a b sv cv pv).eqv b) (ha : chkR a = 0) (hb : chkR b = 0) : bdyB a = bdyB b := by
  rw [bdy_ok ha, bdy_ok hb]
  obtain ⟨e1, e2, ⟨e3, e4⟩, e5, _⟩ := h
  have e1 : a.nm = b.nm := e1
  have e2 : a.no = b.no := e2
  have e3 : a.fr = b.fr := e3
  have e4 : a.tt = b.tt := e4
  have e5 : a.ss = b.ss := e5
  show enc (.nd 134 [] [.nd 1 a.nm [], .nd 2 (numB a.no.toNat) [], .nd 3 (numB (of64 a.fr).toNat) [], .nd 4 (numB (of64 a.tt).toNat) [], .nd 129 [] (sersT a.ss)]) = enc (.nd 134 [] [.nd 1 b.nm [], .nd 2 (numB b.no.toNat) [], .nd 3 (numB (of64 b.fr).toNat) [], .nd 4 (numB (of64 b.tt).toNat) [], .nd 129 [] (sersT b.ss)])
  rw [e1, e2, e3, e4, e5]
theorem bdy_iff {a b : Rv} (ha : chkR a = 0) (hb : chkR b = 0) (hc : ∀ x ∈ b.chs, x.length = 16) (hp : ∀ x ∈ b.ps, x.length = 16) (sv cv pv : Value) : decide (bdyB a = bdyB b) = decide ((sgR a b sv cv pv).eqv b) :=
  decide_eq_decide.2 ⟨fun h => bdy_inj ha hb hc hp h sv cv pv, fun h => bdy_same h ha hb⟩
end Go.Proofs.Ytgnablliekgbgaa
namespace Go.Proofs.Ytgnablliekgbgaa
open Go Go.PL Go.RowKit
theorem lawBodies11 (a : Rv) (b : Rv) (w : World) (hla : a.seen w.cell?) (hna : a.nm.length ≤ maxLen) (hlb : b.seen w.cell?) (hnb : b.nm.length ≤ maxLen)  :
    Calls Try.prog 6 [.agg a.c.toArray, .agg b.c.toArray].toArray w (Pur w (.bool true)) := by
  haveI := hla.svs.one
  haveI := hlb.svs.one
  refine enter (m := 56) (R := Mem w [] [] []) Try.func6 rfl rfl (Nat.le_of_ble_eq_true rfl) (Mem.start w) ?_
  refine wpc_seq <| wpc_region ?_
  refine wpl_t (t_box rfl a.c rfl) rfl (fun b2 => ?_)
  refine wpl_t (t_box rfl b.c rfl) rfl (fun b3 => ?_)
  refine wpl_q (q_pure rfl) rfl <| wpl_nil <| ex_then <| wpc_seq <| wpc_region ?_
  refine wpl_t (t_pur (v := .bool true) Try.hb24 rfl fun w h => alive11 w) rfl (fun b11 => ?_)
  refine wpl_q (q_pure rfl) rfl <| wpl_nil <| ex_then <| wpc_seq <| wpc_seq <| wpc_region <| wpl_q (q_ldN Try.underlying30 rfl Try.ti30 rfl LenC.h) rfl ?_
  refine wpl_t (t_pur Try.hb7 rfl fun w h => refRvGreat a w (hla.old h rfl) hna) rfl (fun b13 => ?_)
  refine wpl_q (q_pure rfl) rfl ?_
  refine wpl_bool2 14 13 rfl rfl (fun hb14 => ?_) (fun hb14 => ?_)
  ·
   refine wpl_off rfl rfl rfl rfl <| wpl_off rfl rfl rfl rfl <| wpl_q (q_pure rfl) rfl <| wpl_q (q_pure rfl) rfl <| wpl_off rfl rfl rfl rfl <| wpl_off rfl rfl rfl rfl <| wpl_q (q_pure rfl) rfl <| wpl_nil <| ex_then ?_
   refine wpc_cond_t rfl ?_
   refine wpc_seq <| wpc_region <| wpl_q (q_pure rfl) rfl <| wpl_q (q_pure rfl) rfl <| wpl_nil <| ex_then <| wpc_ret ?_
   refine ex_then_ret ?_
   refine ret1 (.inl rfl) rfl rfl ?_
   exact fun w h => ⟨by first | rfl | simp, h.below⟩
  ·
   have hka : RLim a := lim_no (l := a) hb14
   refine wpl_on rfl rfl <| wpl_q (q_ldN Try.underlying30 rfl Try.ti30 rfl LenC.h) rfl <| wpl_on rfl rfl ?_
   refine wpl_t (t_pur Try.hb7 rfl fun w h => refRvGreat b w (hlb.old h rfl) hnb) rfl (fun b16 => ?_)
   refine wpl_q (q_pure rfl) rfl <| wpl_q (q_pure rfl) rfl ?_
   refine wpl_bool2 18 16 rfl rfl (fun hb18 => ?_) (fun hb18 => ?_)
   ·
    refine wpl_off rfl rfl rfl rfl <| wpl_off rfl rfl rfl rfl <| wpl_q (q_pure rfl) rfl <| wpl_nil <| ex_then ?_
    refine wpc_cond_t rfl ?_
    refine wpc_seq <| wpc_region <| wpl_q (q_pure rfl) rfl <| wpl_q (q_pure rfl) rfl <| wpl_nil <| ex_then <| wpc_ret ?_
    refine ex_then_ret ?_
    refine ret1 (.inl rfl) rfl rfl ?_
    exact fun w h => ⟨by first | rfl | simp, h.below⟩
   ·
    have hkb : RLim b := lim_no (l := b) hb18
    refine wpl_on rfl rfl <| wpl_q (q_pure rfl) rfl <| wpl_on rfl rfl <| wpl_q (q_pure rfl) rfl <| wpl_q (q_pure rfl) rfl <| wpl_nil <| ex_then ?_
    refine wpc_cond_f rfl ?_
    refine wpc_skip <| ex_then <| wpc_seq <| wpc_region <| wpl_q (q_ldN Try.underlying30 rfl Try.ti30 rfl LenC.h) rfl ?_
    refine wpl_tp (t_callP1 Try.hb19 rfl fun w h => rvBodyB a w (hla.old h rfl) hna hka.ss hka.nm) rfl (fun b25 p25 => ?_)
    refine wpl_q (q_pure rfl) rfl <| wpl_q (q_pure rfl) rfl <| wpl_q (q_pure rfl) rfl <| wpl_q (q_pure rfl) rfl <| wpl_q (q_pure rfl) rfl <| wpl_nil <| ex_then <| wpc_seq <| wpc_region <| wpl_q (q_ldN Try.underlying30 rfl Try.ti30 rfl LenC.h) rfl ?_
    refine wpl_tp (t_callP1 Try.hb19 rfl fun w h => rvBodyB b w (hlb.old h rfl) hnb hkb.ss hkb.nm) rfl (fun b30 p30 => ?_)
    refine wpl_q (q_pure rfl) rfl <| wpl_q (q_pure rfl) rfl <| wpl_q (q_pure rfl) rfl <| wpl_q (q_pure rfl) rfl <| wpl_q (q_pure rfl) rfl <| wpl_nil <| ex_then <| wpc_seq <| wpc_seq <| wpc_region <| wpl_q (q_pure rfl) rfl <| wpl_q (q_pure rfl) rfl ?_
    refine wpl_q (q_pure rfl) rfl ?_
    refine wpl_bool2 35 34 rfl rfl (fun hb35 => ?_) (fun hb35 => ?_)
    ·
     try simp only [decide_eq_true_eq, decide_eq_false_iff_not, Bool.and_eq_true, Bool.or_eq_true, beq_iff_eq, bne_iff_ne, ne_eq, Bool.not_eq_true', Bool.not_eq_false', Decidable.not_not] at hb35
     refine wpl_off rfl rfl rfl rfl <| wpl_off rfl rfl rfl rfl <| wpl_q (q_pure rfl) rfl <| wpl_nil <| ex_then ?_
     refine wpc_cond_t rfl ?_
     refine wpc_seq <| wpc_region <| wpl_q (q_pure rfl) rfl <| wpl_q (q_pure rfl) rfl <| wpl_nil <| ex_then <| wpc_ret ?_
     refine ex_then_ret ?_
     refine ret1 (.inl rfl) rfl rfl ?_
     exact fun w h => ⟨by first | rfl | simp, h.below⟩
    ·
     have hza : chkR a = 0 := bne_f hb35
     refine wpl_on rfl rfl <| wpl_q (q_pure rfl) rfl <| wpl_on rfl rfl <| wpl_q (q_pure rfl) rfl <| wpl_q (q_pure rfl) rfl <| wpl_nil <| ex_then ?_
     refine wpc_cond rfl (fun hc38 => ?_) (fun hc38 => ?_)
     ·
      try simp only [decide_eq_true_eq, decide_eq_false_iff_not, Bool.and_eq_true, Bool.or_eq_true, beq_iff_eq, bne_iff_ne, ne_eq, Bool.not_eq_true', Bool.not_eq_false', Decidable.not_not] at hc38
      refine wpc_seq <| wpc_region <| wpl_q (q_pure rfl) rfl <| wpl_q (q_pure rfl) rfl <| wpl_nil <| ex_then <| wpc_ret ?_
      refine ex_then_ret ?_
      refine ret1 (.inl rfl) rfl rfl ?_
      exact fun w h => ⟨by first | rfl | simp, h.below⟩
     ·
      have hzb : chkR b = 0 := by simpa using hc38
      refine wpc_skip <| ex_then <| wpc_seq <| wpc_region <| wpl_q (q_ldN Try.underlying30 rfl Try.ti30 rfl LenC.h) rfl ?_
      refine wpl_tp (t_callP3 Try.hb8 rfl fun w h => refRvTwin a w (hla.old h rfl) hna hka.ss hka.c hka.p) rfl (fun b41 p41 => ?_)
      haveI : OneC (a.re b41).c := Rv.svs.one (l := a.re b41) p41
      refine wpl_t (t_alloc Try.ti30 Rv.z.c rfl) rfl (fun b10 => ?_)
      refine wpl_t0 (t_stA Try.ti30 rfl rfl LenC.h OneC.h LenC.h) (fun _ => ?_)
      refine wpl_nil <| ex_then <| wpc_seq <| wpc_region <| wpl_q (q_field Try.underlying30 rfl Try.ti28 rfl rfl _ rfl) rfl <| wpl_q (q_ldP Try.underlying28 rfl Try.ti28 rfl b.sig rfl rfl) rfl ?_
      refine wpl_tp (t_callP2 Try.hb25 rfl fun w h => twinSig b.ix b.cv b.pv b.chs b.ps w (h.seen_old hlb.c) hlb.lc (h.seen_old hlb.p) hlb.lp (by have := hkb.c; omega) (by have := hkb.p; omega)) rfl (fun b44 p44 => ?_)
      refine wpl_q (q_field Try.underlying30 rfl Try.ti28 rfl rfl _ rfl) rfl ?_
      refine wpl_t0 (t_stP Try.ti28 rfl rfl zz7 (OneC.cons rfl (OneC.cons (SV.one p44.1) (OneC.cons (SV.one p44.2) oneC_nil))).h (by rw [Rv.c_len]; exact Nat.le_refl 8) (sgR a b b41.1 b44.1 b44.2).c rfl) (fun _ => ?_)
      refine wpl_nil <| ex_then <| wpc_seq ?_
      haveI : OneC (sgR a b b41.1 b44.1 b44.2).c := Rv.svs.one (l := (sgR a b b41.1 b44.1 b44.2)) ⟨p41.1, p44.1, p44.2⟩
      refine wpc_draw 11 zz5 (fun _ h => h.drew) ?_
      refine wpd_p 0 rfl zz5 trivial (q_pure rfl) rfl sk0 ?_
      refine wpd_p 1 rfl zz5 trivial (q_pure rfl) rfl sk0 ?_
      refine wpd_p 2 rfl zz5 ⟨_, rfl, rfl⟩ (q_pure rfl) rfl sk0 ?_
      refine wpd_p 3 rfl zz5 ⟨_, rfl, rfl⟩ (q_pure rfl) rfl sk0 ?_
      refine wpd_q 5 rfl zz5 ⟨_, rfl, rfl⟩ (q_ldN Try.underlying30 rfl Try.ti30 rfl LenC.h) rfl (fun _ h => h) ?_
      refine wpd_q 6 rfl zz5 ⟨_, rfl, rfl⟩ (q_ldN Try.underlying30 rfl Try.ti30 rfl LenC.h) rfl (fun _ h => h) ?_
      refine wpd_t 4 rfl zz5 ⟨_, rfl, rfl⟩ (t_pur Try.hb23 rfl fun w h => sameB b25 (bdyB a) b30 (bdyB b) w (h.seen_row zz4) (h.seen_row zz4)) rfl (fun _ => sk0) (fun b50 => ?_)
      refine wpd_t 7 rfl zz5 ⟨_, rfl, rfl⟩ (t_pur Try.hb15 rfl fun w h => by
        have q := refRvSame (sgR a b b41.1 b44.1 b44.2) b w ⟨(show Seen w.cell? b41.1 a.ss.length 1 (v64s a.ss) from h.seen_row zz4), (show Seen w.cell? b44.1 b.chs.length 16 (v8s b.chs.flatten) from h.seen_row zz4), hlb.lc, (show Seen w.cell? b44.2 b.ps.length 16 (v8s b.ps.flatten) from h.seen_row zz4), hlb.lp⟩ (hlb.old h rfl)
        rwa [← bdy_iff hza hzb hlb.lc hlb.lp] at q) rfl (fun _ => sk0) (fun b53 => ?_)
      refine wpd_p 8 rfl zz5 ⟨_, rfl, rfl⟩ (q_beq Try.underlying4 rfl rfl) rfl sk0 ?_
      refine wpd_p 9 rfl zz5 trivial (q_pure rfl) rfl sk0 ?_
      refine wpd_p 10 rfl zz5 trivial (q_pure rfl) rfl sk0 ?_
      refine wpd_done zz5 ?_
      refine ex_then <| wpc_ret ?_
      refine ret1 (.inl rfl) rfl rfl ?_
      exact fun w h => ⟨by first | rfl | simp, h.below⟩
end Go.Proofs.Ytgnablliekgbgaa
namespace Go.Proofs.Ytgnablliekgbgaa
open Go Go.PL Go.RowKit
section
variable {H : Type} {enc : TypeId × Value → H} {w : World} {base : Nat} {sp : Nat → Bool} {held : Bool}
abbrev VL := Value × List (List UInt8)
theorem opensSig : Opens enc Try.prog w base sp held 28 (fun (a : Int × VL × VL) c _ => c = [.int .i64 a.1, a.2.1.1, a.2.2.1] ∧ (Seen w.cell? a.2.1.1 a.2.1.2.length 16 (v8s a.2.1.2.flatten) ∧ ∀ x ∈ a.2.1.2, x.length = 16) ∧ Seen w.cell? a.2.2.1 a.2.2.2.length 16 (v8s a.2.2.2.flatten) ∧ ∀ x ∈ a.2.2.2, x.length = 16) := by
  intro n c y h
  obtain ⟨⟨i, p, q, _⟩, x0, y0, d0, e0, h0, x1, y1, d1, e1, h1, x2, y2, d2, e2, h2, h3⟩ := opens_struct Try.underlying28 (fin := 3) zz5 (OpensFs.cons (s := 1) rfl zz5 (opens_i64 Try.underlying3) (OpensFs.cons (s := 1) rfl zz5 (opens_arrs Try.underlying26 Try.underlying62 Try.underlying5 zz5 zz5) (OpensFs.cons (s := 1) rfl zz5 (opens_arrs Try.underlying26 Try.underlying62 Try.underlying5 zz5 zz5) (OpensFs.nil _)))) n c y h
  dsimp only at h0 h1 h2 h3
  refine ⟨(i, p, q), ?_, ⟨h1.2.1, h1.2.2⟩, h2.2.1, h2.2.2⟩
  rw [e0, e1, e2, h0.1, h1.1, h2.1, h3]; rfl
theorem opensWin : Opens enc Try.prog w base sp held 24 (fun (a : Int × Int) c _ => c = [.int .i64 a.1, .int .i64 a.2]) := by
  intro n c y h
  obtain ⟨⟨a, b, _⟩, x0, y0, d0, e0, h0, x1, y1, d1, e1, h1, h2⟩ := opens_struct Try.underlying24 (fin := 2) zz5 (OpensFs.cons (s := 1) rfl zz5 (opens_i64 Try.underlying2) (OpensFs.cons (s := 1) rfl zz5 (opens_i64 Try.underlying2) (OpensFs.nil _))) n c y h
  dsimp only at h0 h1 h2
  refine ⟨(a, b), ?_⟩
  rw [e0, e1, h0.1, h1.1, h2]; rfl
theorem opensRv : Opens enc Try.prog w base sp held 30 (fun (a : Rv) c _ => c = a.c ∧ a.seen w.cell? ∧ a.nm.length ≤ maxLen) := by
  intro n c y h
  obtain ⟨⟨nm, no, ⟨f, t⟩, ⟨v, ss⟩, ⟨i, p, q⟩, _⟩, x0, y0, d0, e0, h0, x1, y1, d1, e1, h1, x2, y2, d2, e2, h2, x3, y3, d3, e3, h3, x4, y4, d4, e4, h4, h5⟩ := opens_struct Try.underlying30 (fin := 8) zz5 (OpensFs.cons (s := 1) rfl zz5 (opens_str Try.underlying9) (OpensFs.cons (s := 1) rfl zz5 (opens_u64 Try.underlying22) (OpensFs.cons (s := 2) rfl zz5 opensWin (OpensFs.cons (s := 1) rfl zz5 (opens_nums Try.underlying25 zz5 (opens_u64 Try.underlying22)) (OpensFs.cons (s := 3) rfl zz5 opensSig (OpensFs.nil _)))))) n c y h
  dsimp only at h0 h1 h2 h3 h4 h5
  refine ⟨⟨nm, no, f, t, v, ss, i, p.1, p.2, q.1, q.2⟩, ?_, ⟨h3.2.1, h4.2.1.1, h4.2.1.2, h4.2.2.1, h4.2.2.2⟩, h0.2.1⟩
  rw [e0, e1, e2, e3, e4, h0.1, h1, h2, h3.1, h4.1, h5]; rfl
end
end Go.Proofs.Ytgnablliekgbgaa
