/- What the statement reaches, in order. -/
import Derived.Test.YtjpfhkjmjnjggaaDoorTI
import Derived.Test.YtjpfhkjmjnjggaaDoorPLI
import Derived.Test.YtjpfhkjmjnjggaaDoorPLZ
import Derived.Test.YtjpfhkjmjnjggaaDoorPLL
import Derived.Test.YtjpfhkjmjnjggaaDoorPLN
import Derived.Test.YtjpfhkjmjnjggaaDoorPLP
import Derived.WalkKit
import Derived.ProofKit
import Derived.OpenShut
import Derived.ChangeOld
import Derived.Below
import Derived.Carry
import Derived.LaidMore
import Derived.Deep.DeepHandedRow
import Derived.Deep.DeepWitnessRowRef
import Derived.Lib.LaidTab
import Derived.Stop.Joined
import Derived.Test.YtjpfhkjmjnjggaaDoorSH3
namespace Go.Proofs.YtjpfhkjmjnjggaaDoor
set_option linter.unusedSimpArgs false
set_option linter.unusedVariables false
open Go Go.PL Go.RowKit
set_option maxRecDepth 100000 in
theorem eqk : EqC Tryd.prog 3 63 true 17 (fun cs => cs.length = 17 ∧ ((((cs.drop 0).take 16).length = 16 ∧ ∀ i, i < 16 → IntCell .u8 ((((cs.drop 0).take 16).drop (i * 1)).take 1)) ∧ (IntCell .i64 ((cs.drop (0 + 16)).take 1) ∧ True))) :=
by
  refine eqc_struct Tryd.underlying63 Tryd.ti63 (by kernel_rfl) ?_
  refine EqFs.cons (sz := 16) (W := fun c => c.length = 16 ∧ ∀ i, i < 16 → IntCell .u8 ((c.drop (i * 1)).take 1)) (W' := fun cs => IntCell .i64 ((cs.drop (0 + 16)).take 1) ∧ True) (by kernel_rfl) rfl eq8_61 ?_
  refine EqFs.cons (sz := 1) (W := IntCell .i64) (W' := fun _ => True) (by kernel_rfl) rfl (eqc_up (dp' := 2) (eqc_int Tryd.underlying3 Tryd.ti3) (by decide)) ?_
  exact EqFs.nil _
theorem wkey {xs : List UInt8} (a : Int) (h : xs.length = 16) : (v8s xs ++ [Value.int .i64 a]).length = 17 ∧ (((((v8s xs ++ [Value.int .i64 a]).drop 0).take 16).length = 16 ∧ ∀ i, i < 16 → IntCell .u8 (((((v8s xs ++ [Value.int .i64 a]).drop 0).take 16).drop (i * 1)).take 1)) ∧ (IntCell .i64 (((v8s xs ++ [Value.int .i64 a]).drop (0 + 16)).take 1) ∧ True)) := by
  refine ⟨key_len xs a h, ?_, ⟨a, ?_⟩, trivial⟩
  · rw [key_root xs a h]; exact w8s h
  · rw [List.drop_left' (by rw [v8s_length, h])]; rfl
theorem q_neK {n : Cx} {R : World → Prop} {L : Slots} {t' : TypeId} {x y : Operand} {xs ys : List UInt8} {a b : Int} (hx : ev L x = some (.agg (v8s xs ++ [Value.int .i64 a]).toArray)) (hy : ev L y = some (.agg (v8s ys ++ [Value.int .i64 b]).toArray)) (h1 : xs.length = 16) (h2 : ys.length = 16) :
    QOp Tryd.prog n R L (.binOp .neq 63 x y t') (.bool (!decide (xs = ys ∧ a = b))) :=
  q_neA eqk (by decide) (by kernel_rfl) hx hy (wkey a h1) (wkey b h2) _ (by
    simp only [Bool.not_eq_true', decide_eq_false_iff_not]
    constructor
    · intro h e
      obtain ⟨e1, e2⟩ := List.append_inj e (by rw [v8s_length, v8s_length, h1, h2])
      exact h ⟨v8s_inj e1, by simpa using e2⟩
    · rintro h ⟨rfl, rfl⟩; exact h rfl)
def Hop.eqv (a b : Hop) : Prop := a.sy = b.sy ∧ a.cnt = b.cnt ∧ a.fl = b.fl ∧ a.to = b.to ∧ (a.root.1 = b.root.1 ∧ a.ht = b.ht) ∧ (a.ix = b.ix ∧ a.chs = b.chs ∧ a.ps = b.ps)
instance {a b : Hop} : Decidable (a.eqv b) := by unfold Hop.eqv; exact inferInstance
def HsEqv (l k : List Hop) : Prop := l.length = k.length ∧ ∀ i, i < l.length → Hop.eqv (l.getD i Hop.z) (k.getD i Hop.z)
instance {a b : List Hop} : Decidable (HsEqv a b) := by unfold HsEqv; exact inferInstance
/-- Two paths are the same but for their handles. -/
def Pth.eqv (p q : Pth) : Prop := (p.pf = q.pf ∧ p.pa = q.pa ∧ p.pb = q.pb ∧ p.pl = q.pl) ∧ HsEqv p.hs q.hs
instance {a b : Pth} : Decidable (a.eqv b) := by unfold Pth.eqv; exact inferInstance
def bigH (h : Hop) : Prop := 100 < h.chs.length ∨ 100 < h.ps.length
instance {h : Hop} : Decidable (bigH h) := by unfold bigH; exact inferInstance
def GreatP (p : Pth) : Prop := (4 < p.hs.length ∧ p.hs.length ≤ 30) ∨ 35 < p.hs.length ∨ ¬ (∀ i, i < p.hs.length → ¬ bigH (p.hs.getD i Hop.z))
instance {p : Pth} : Decidable (GreatP p) := by unfold GreatP; exact inferInstance
theorem great_1 {p : Pth} (h : 4 < p.hs.length) (h2 : p.hs.length ≤ 30) : GreatP p := .inl ⟨h, h2⟩
theorem great_2 {p : Pth} (h : 35 < p.hs.length) : GreatP p := .inr (.inl h)
theorem great_3 {p : Pth} {i : Nat} (h : i < p.hs.length) (h2 : bigH (p.hs.getD i Hop.z)) : GreatP p := .inr (.inr fun f => f i h h2)
theorem great_4 {p : Pth} (h : ¬ (4 < p.hs.length ∧ p.hs.length ≤ 30)) (h2 : ¬ 35 < p.hs.length) (h3 : ∀ i, i < p.hs.length → ¬ bigH (p.hs.getD i Hop.z)) : ¬ GreatP p := by
  rintro (h1 | h1 | h1)
  · exact h h1
  · exact h2 h1
  · exact h1 h3
theorem great_no {p : Pth} (h : ¬ GreatP p) : SmP p ∧ p.hs.length ≤ 35 := by
  unfold GreatP at h
  rw [not_or, not_or, Decidable.not_not] at h
  refine ⟨fun x hx => ?_, by omega⟩
  obtain ⟨i, hi, rfl⟩ := List.mem_iff_getElem.1 hx
  have := h.2.2 i hi
  rw [List.getD_eq_getElem?_getD, List.getElem?_eq_getElem hi] at this
  unfold bigH at this
  rw [not_or] at this
  exact ⟨Nat.not_lt.1 this.1, Nat.not_lt.1 this.2⟩
theorem same_step32 (xs ys : List UInt32) (i : Nat) (h : xs.take i = ys.take i) (h1 : i < xs.length) (h2 : i < ys.length) (h3 : xs.getD i 0 = ys.getD i 0) : xs.take (i + 1) = ys.take (i + 1) := by
  rw [List.take_add_one, List.take_add_one, h, List.getElem?_eq_getElem h1, List.getElem?_eq_getElem h2]
  rw [List.getD_eq_getElem?_getD, List.getD_eq_getElem?_getD, List.getElem?_eq_getElem h1, List.getElem?_eq_getElem h2] at h3
  rw [show xs[i] = ys[i] from h3]

set_option maxRecDepth 100000 in
theorem refSameSystems (av : Value) (xs : List UInt32) (bv : Value) (ys : List UInt32) (w : World) (hav : Seen w.cell? av xs.length 1 (v32s xs)) (hbv : Seen w.cell? bv ys.length 1 (v32s ys))  :
    Calls Tryd.prog 20 [av, bv].toArray w (Pur w (.bool (decide (xs = ys)))) := by
  have sav := hav.sv
  have lav := sav.le
  simp only [maxLen] at lav
  have sbv := hbv.sv
  have lbv := sbv.le
  simp only [maxLen] at lbv
  refine enter (m := 26) (R := Mem w [] [] []) Tryd.func20 rfl rfl (Nat.le_of_ble_eq_true rfl) (Mem.start w) ?_
  refine wpc_seq ?_
  refine wpc_region ?_
  refine wpl_q (q_pure rfl) rfl ?_
  refine wpl_nil ?_
  refine ex_then ?_
  refine wpc_seq ?_
  refine wpc_seq ?_
  refine wpc_region ?_
  refine wpl_q (q_pure rfl) rfl ?_
  refine wpl_q (q_lenW Tryd.underlying38 rfl (by first | assumption | exact SV.nil | exact SV.slv (by assumption) (by omega) (by omega) | exact arv_sv (by first | decide | (simp only [maxLen]; omega)))) rfl ?_
  refine wpl_q (q_pure rfl) rfl ?_
  refine wpl_q (q_lenW Tryd.underlying38 rfl (by first | assumption | exact SV.nil | exact SV.slv (by assumption) (by omega) (by omega) | exact arv_sv (by first | decide | (simp only [maxLen]; omega)))) rfl ?_
  refine wpl_q (q_pure rfl) rfl ?_
  refine wpl_nil ?_
  refine ex_then ?_
  refine wpc_cond rfl (fun hc10 => ?_) (fun hc10 => ?_)
  ·
   simp only [bne_iff_ne, ne_eq, decide_eq_true_eq, Bool.not_eq_true', decide_eq_false_iff_not] at hc10
   have hne : xs ≠ ys := fun e => hc10 (by rw [e])
   refine wpc_seq ?_
   refine wpc_region ?_
   refine wpl_q (q_pure rfl) rfl ?_
   refine wpl_nil ?_
   refine ex_then ?_
   refine wpc_ret ?_
   refine ex_then_ret ?_
   refine ret1 (.inl rfl) rfl rfl ?_
   exact fun w h => ⟨by simp [hne], h.below⟩
  ·
   simp only [bne_eq_false_iff_eq, Bool.not_eq_false', decide_eq_true_eq] at hc10
   have hl : xs.length = ys.length := by omega
   refine wpc_skip ?_
   refine ex_then ?_
   refine wpc_seq ?_
   refine wpc_seq ?_
   refine wpc_region ?_
   refine wpl_q (q_pure rfl) rfl ?_
   refine wpl_nil ?_
   refine ex_then ?_
   refine wpc_block ?_
   refine wpc_loopc (ι := { x : Nat // (x ≤ xs.length) ∧ (xs.take x = ys.take x) }) [(0, _), (1, _)] (fun x Lc => (5, .int .i64 ((x.1 : Nat) : Int)) :: Lc) (fun x => Mem w [] [] []) (fun x => xs.length - x.1) ⟨0, ⟨Nat.zero_le _, rfl⟩⟩ (by repeat (first | exact trivial | refine ⟨rfl, ?_⟩)) ?_ ?_
   ·
    exact fun w h => h
   ·
    rintro ⟨i, ⟨hi0, hi1⟩⟩; try dsimp only
    have hi0 : i ≤ xs.length := hi0; have hi1 : xs.take i = ys.take i := hi1
    refine wpc_seq ?_
    refine wpc_seq ?_
    refine wpc_region ?_
    refine wpl_q (q_pure rfl) rfl ?_
    refine wpl_q (q_pure rfl) rfl ?_
    refine wpl_q (q_lenW Tryd.underlying38 rfl (by first | assumption | exact SV.nil | exact SV.slv (by assumption) (by omega) (by omega) | exact arv_sv (by first | decide | (simp only [maxLen]; omega)))) rfl ?_
    refine wpl_q (q_pure rfl) rfl ?_
    refine wpl_nil ?_
    refine ex_then ?_
    refine wpc_cond rfl (fun hc14 => ?_) (fun hc14 => ?_)
    ·
     simp only [decide_eq_true_eq] at hc14
     have hix : i < xs.length := by omega
     have hiy : i < ys.length := by omega
     refine wpc_skip ?_
     refine ex_then ?_
     refine wpc_seq ?_
     refine wpc_block ?_
     refine wpc_seq ?_
     refine wpc_draw 9 (by kernel_rfl) (fun _ h => h.drew) ?_
     refine wpd_p 0 rfl (by kernel_rfl) trivial (q_pure rfl) rfl sk0 ?_
     refine wpd_p 1 rfl (by kernel_rfl) trivial (q_pure rfl) rfl sk0 ?_
     refine wpd_p 2 rfl (by kernel_rfl) trivial (q_idxW1 Tryd.underlying38 Tryd.ti49 rfl rfl (by first | assumption | exact SV.nil | exact SV.slv (by assumption) (by omega) (by omega) | exact arv_sv (by first | decide | (simp only [maxLen]; omega))) (by first | omega | (simp only [maxLen]; omega) | (simp only [List.length_append, List.length_cons, List.length_nil, List.length_take, maxLen]; omega) | (simp only [List.length_append, List.length_cons, List.length_nil, List.length_take]; omega))) rfl sk0 ?_
     refine wpd_q 3 rfl (by kernel_rfl) trivial (q_ldW Tryd.underlying49 rfl rfl (fun w h => by first | exact h.seenV | exact h.seenA (by first | decide | (simp only [maxLen]; omega)) (by first | (with_reducible exact key_len _ _ (by (first | with_reducible assumption | exact L16.h))) | with_reducible rfl | (simp only [v8s_length, v32s_length, vis_length, vns_length, v64s_length, List.length_replicate]; first | done | with_reducible assumption | omega) | (rw [v8s_length]; (first | with_reducible assumption | exact L16.h)) | rfl) | exact h.seen_old (by assumption) | exact h.seen_oldL (by assumption) (by assumption) | exact h.seen_fact (by repeat (first | exact List.mem_cons_self .. | apply List.mem_cons_of_mem))) (by first | exact v32s_get (by first | decide | omega | exact Nat.zero_lt_one | (simp; omega) | (simp; done) | (simp only [v8s_length, v32s_length, vis_length, vns_length, v64s_length]; omega)) | rfl)) rfl (fun _ h => h) ?_
     refine wpd_p 4 rfl (by kernel_rfl) trivial (q_pure rfl) rfl sk0 ?_
     refine wpd_p 5 rfl (by kernel_rfl) trivial (q_pure rfl) rfl sk0 ?_
     refine wpd_p 6 rfl (by kernel_rfl) trivial (q_idxW1 Tryd.underlying38 Tryd.ti49 rfl rfl (by first | assumption | exact SV.nil | exact SV.slv (by assumption) (by omega) (by omega) | exact arv_sv (by first | decide | (simp only [maxLen]; omega))) (by first | omega | (simp only [maxLen]; omega) | (simp only [List.length_append, List.length_cons, List.length_nil, List.length_take, maxLen]; omega) | (simp only [List.length_append, List.length_cons, List.length_nil, List.length_take]; omega))) rfl sk0 ?_
     refine wpd_q 7 rfl (by kernel_rfl) trivial (q_ldW Tryd.underlying49 rfl rfl (fun w h => by first | exact h.seenV | exact h.seenA (by first | decide | (simp only [maxLen]; omega)) (by first | (with_reducible exact key_len _ _ (by (first | with_reducible assumption | exact L16.h))) | with_reducible rfl | (simp only [v8s_length, v32s_length, vis_length, vns_length, v64s_length, List.length_replicate]; first | done | with_reducible assumption | omega) | (rw [v8s_length]; (first | with_reducible assumption | exact L16.h)) | rfl) | exact h.seen_old (by assumption) | exact h.seen_oldL (by assumption) (by assumption) | exact h.seen_fact (by repeat (first | exact List.mem_cons_self .. | apply List.mem_cons_of_mem))) (by first | exact v32s_get (by first | decide | omega | exact Nat.zero_lt_one | (simp; omega) | (simp; done) | (simp only [v8s_length, v32s_length, vis_length, vns_length, v64s_length]; omega)) | rfl)) rfl (fun _ h => h) ?_
     refine wpd_p 8 rfl (by kernel_rfl) trivial (q32_neq rfl rfl) rfl sk0 ?_
     refine wpd_done (by kernel_rfl) ?_
     refine ex_then ?_
     refine wpc_cond rfl (fun hc25 => ?_) (fun hc25 => ?_)
     ·
      have hq25 : ¬ xs.getD i 0 = ys.getD i 0 := by simpa using hc25
      have hne : xs ≠ ys := fun e => hq25 (by rw [e])
      refine wpc_seq ?_
      refine wpc_region ?_
      refine wpl_q (q_pure rfl) rfl ?_
      refine wpl_nil ?_
      refine ex_then ?_
      refine wpc_ret ?_
      refine ex_block_ret ?_
      refine ex_then_ret ?_
      refine ex_then_ret ?_
      refine ex_block_ret ?_
      refine ex_then_ret ?_
      refine ret1 (.inl rfl) rfl rfl ?_
      exact fun w h => ⟨by simp [hne], h.below⟩
     ·
      have hq25 : xs.getD i 0 = ys.getD i 0 := by simpa using hc25
      refine wpc_skip ?_
      refine ex_block ?_
      refine ex_then ?_
      refine wpc_region ?_
      refine wpl_q (q_pure rfl) rfl ?_
      refine wpl_q (q_addN (b := 1) rfl rfl (by first | omega | (simp only [maxLen]; omega) | (simp only [List.length_append, List.length_cons, List.length_nil, List.length_take, maxLen]; omega) | (simp only [List.length_append, List.length_cons, List.length_nil, List.length_take]; omega))) rfl ?_
      refine wpl_q (q_pure rfl) rfl ?_
      refine wpl_nil ?_
      refine ex_again ⟨i + 1, ⟨by omega, same_step32 xs ys i hi1 (by omega) (by omega) hq25⟩⟩ ?_ ?_ ?_
      ·
       exact (by repeat (first | exact trivial | refine ⟨rfl, ?_⟩))
      ·
       exact fun w h => by first | exact h | exact h.sub SubC.h SubC.h | exact h.sub (by repeat (first | exact Sub.nil | exact Sub.refl _ | with_reducible refine Sub.keep ?_ | refine Sub.drop ?_)) (by repeat (first | exact Sub.nil | exact Sub.refl _ | with_reducible refine Sub.keep ?_ | refine Sub.drop ?_))
      ·
       (show xs.length - (i + 1) < xs.length - i); omega
    ·
     simp only [decide_eq_false_iff_not] at hc14
     obtain rfl : i = xs.length := by omega
     have heq : xs = ys := by rw [List.take_length, hl, List.take_length] at hi1; exact hi1
     refine wpc_exit ?_
     refine ex_then_exit ?_
     refine ex_then_exit ?_
     refine ex_block_hit ?_
     refine ex_then ?_
     refine wpc_seq ?_
     refine wpc_region ?_
     refine wpl_q (q_pure rfl) rfl ?_
     refine wpl_nil ?_
     refine ex_then ?_
     refine wpc_ret ?_
     refine ret1 (.inl rfl) rfl rfl ?_
     exact fun w h => ⟨by simp [heq], h.below⟩

set_option maxRecDepth 100000 in
theorem refGreat42 (p : Pth) (w : World) (hp : p.seen w.cell?)  :
    Calls Tryd.prog 11 [.agg p.c.toArray].toArray w (Pur w (.bool (decide (GreatP p)))) := by
  obtain ⟨pf, pa, pb, pl, hv, hs⟩ := p
  have hh : Seen w.cell? hv hs.length 24 (hcs hs) := hp.1
  have hq : ∀ h ∈ hs, h.seen w.cell? := hp.2
  have svh := hh.sv
  have lh := svh.le
  simp only [maxLen] at lh
  refine enter (m := 34) (R := Mem w [] [] []) Tryd.func11 rfl rfl (Nat.le_of_ble_eq_true rfl) (Mem.start w) ?_
  refine wpc_seq ?_
  refine wpc_region ?_
  refine wpl_t (t_box rfl [.int .u8 (pf.toNat : Int), .int .u64 (pa.toNat : Int), .int .u64 (pb.toNat : Int), .int .i64 pl, hv] rfl) rfl (fun b1 => ?_)
  refine wpl_q (q_pure rfl) rfl ?_
  refine wpl_nil ?_
  refine ex_then ?_
  refine wpc_seq ?_
  refine wpc_seq ?_
  refine wpc_region ?_
  refine wpl_q (q_field Tryd.underlying29 rfl Tryd.ti27 rfl rfl _ rfl) rfl ?_
  refine wpl_q (q_ld Tryd.underlying27 rfl rfl rfl) rfl ?_
  refine wpl_q (q_lenW Tryd.underlying27 rfl (by first | assumption | exact SV.nil | exact SV.slv (by assumption) (by omega) (by omega) | exact arv_sv (by first | decide | (simp only [maxLen]; omega)))) rfl ?_
  refine wpl_q (q_pure rfl) rfl ?_
  refine wpl_q (q_pure rfl) rfl ?_
  refine wpl_bool2 8 7 rfl rfl (fun hb8 => ?_) (fun hb8 => ?_)
  ·
   try simp only [decide_eq_true_eq] at hb8
   have h4 : 4 < hs.length := by omega
   refine wpl_on rfl rfl ?_
   refine wpl_q (q_field Tryd.underlying29 rfl Tryd.ti27 rfl rfl _ rfl) rfl ?_
   refine wpl_on rfl rfl ?_
   refine wpl_q (q_ld Tryd.underlying27 rfl rfl rfl) rfl ?_
   refine wpl_on rfl rfl ?_
   refine wpl_q (q_lenW Tryd.underlying27 rfl (by first | assumption | exact SV.nil | exact SV.slv (by assumption) (by omega) (by omega) | exact arv_sv (by first | decide | (simp only [maxLen]; omega)))) rfl ?_
   refine wpl_on rfl rfl ?_
   refine wpl_q (q_pure rfl) rfl ?_
   refine wpl_q (q_pure rfl) rfl ?_
   refine wpl_q (q_pure rfl) rfl ?_
   refine wpl_bool2 14 12 rfl rfl (fun hb14 => ?_) (fun hb14 => ?_)
   ·
    try simp only [decide_eq_true_eq] at hb14
    have hR : GreatP ⟨pf, pa, pb, pl, hv, hs⟩ := great_1 (p := ⟨pf, pa, pb, pl, hv, hs⟩) h4 (by show hs.length ≤ 30; omega)
    refine wpl_off rfl rfl rfl rfl ?_
    refine wpl_off rfl rfl rfl rfl ?_
    refine wpl_off rfl rfl rfl rfl ?_
    refine wpl_off rfl rfl rfl rfl ?_
    refine wpl_q (q_pure rfl) rfl ?_
    refine wpl_nil ?_
    refine ex_then ?_
    refine wpc_cond_t rfl ?_
    refine wpc_seq ?_
    refine wpc_region ?_
    refine wpl_q (q_pure rfl) rfl ?_
    refine wpl_nil ?_
    refine ex_then ?_
    refine wpc_ret ?_
    refine ex_then_ret ?_
    refine ret1 (.inl rfl) rfl rfl ?_
    exact fun w h => ⟨by rw [decide_eq_true hR], h.below⟩
   ·
    try simp only [decide_eq_false_iff_not] at hb14
    have h4 : ¬ (4 < hs.length ∧ hs.length ≤ 30) := by omega
    refine wpl_on rfl rfl ?_
    refine wpl_q (q_field Tryd.underlying29 rfl Tryd.ti27 rfl rfl _ rfl) rfl ?_
    refine wpl_on rfl rfl ?_
    refine wpl_q (q_ld Tryd.underlying27 rfl rfl rfl) rfl ?_
    refine wpl_on rfl rfl ?_
    refine wpl_q (q_lenW Tryd.underlying27 rfl (by first | assumption | exact SV.nil | exact SV.slv (by assumption) (by omega) (by omega) | exact arv_sv (by first | decide | (simp only [maxLen]; omega)))) rfl ?_
    refine wpl_on rfl rfl ?_
    refine wpl_q (q_pure rfl) rfl ?_
    refine wpl_q (q_pure rfl) rfl ?_
    refine wpl_nil ?_
    refine ex_then ?_
    refine wpc_cond rfl (fun hc19 => ?_) (fun hc19 => ?_)
    ·
     simp only [decide_eq_true_eq] at hc19
     have hR : GreatP ⟨pf, pa, pb, pl, hv, hs⟩ := great_2 (p := ⟨pf, pa, pb, pl, hv, hs⟩) (by show 35 < hs.length; omega)
     refine wpc_seq ?_
     refine wpc_region ?_
     refine wpl_q (q_pure rfl) rfl ?_
     refine wpl_nil ?_
     refine ex_then ?_
     refine wpc_ret ?_
     refine ex_then_ret ?_
     refine ret1 (.inl rfl) rfl rfl ?_
     exact fun w h => ⟨by rw [decide_eq_true hR], h.below⟩
    ·
     simp only [decide_eq_false_iff_not] at hc19
     have h35 : ¬ 35 < hs.length := by omega
     refine wpc_skip ?_
     refine ex_then ?_
     refine wpc_seq ?_
     refine wpc_seq ?_
     refine wpc_region ?_
     refine wpl_q (q_pure rfl) rfl ?_
     refine wpl_nil ?_
     refine ex_then ?_
     refine wpc_block ?_
     refine wpc_loopc (ι := { x : Nat // (x ≤ hs.length) ∧ (∀ j, j < x → ¬ bigH (hs.getD j Hop.z)) }) [(1, _)] (fun x Lc => (3, .int .i64 ((x.1 : Nat) : Int)) :: Lc) (fun x => Mem w [] [.blk b1 29 [.int .u8 (pf.toNat : Int), .int .u64 (pa.toNat : Int), .int .u64 (pb.toNat : Int), .int .i64 pl, hv]] []) (fun x => hs.length - x.1) ⟨0, ⟨Nat.zero_le _, fun j hj => by omega⟩⟩ (by repeat (first | exact trivial | refine ⟨rfl, ?_⟩)) ?_ ?_
     ·
      exact fun w h => h
     ·
      rintro ⟨i, ⟨hi0, hi1⟩⟩; try dsimp only
      have hi0 : i ≤ hs.length := hi0; have hi1 : ∀ j, j < i → ¬ bigH (hs.getD j Hop.z) := hi1
      refine wpc_seq ?_
      refine wpc_seq ?_
      refine wpc_region ?_
      refine wpl_q (q_pure rfl) rfl ?_
      refine wpl_q (q_field Tryd.underlying29 rfl Tryd.ti27 rfl rfl _ rfl) rfl ?_
      refine wpl_q (q_ld Tryd.underlying27 rfl rfl rfl) rfl ?_
      refine wpl_q (q_lenW Tryd.underlying27 rfl (by first | assumption | exact SV.nil | exact SV.slv (by assumption) (by omega) (by omega) | exact arv_sv (by first | decide | (simp only [maxLen]; omega)))) rfl ?_
      refine wpl_q (q_pure rfl) rfl ?_
      refine wpl_nil ?_
      refine ex_then ?_
      refine wpc_cond rfl (fun hc24 => ?_) (fun hc24 => ?_)
      ·
       simp only [decide_eq_true_eq] at hc24
       have hil : i < hs.length := by omega
       have hsi := hq _ (getD_memO hil)
       refine wpc_skip ?_
       refine ex_then ?_
       refine wpc_seq ?_
       refine wpc_block ?_
       refine wpc_seq ?_
       refine wpc_region ?_
       refine wpl_q (q_field Tryd.underlying29 rfl Tryd.ti27 rfl rfl _ rfl) rfl ?_
       refine wpl_q (q_ld Tryd.underlying27 rfl rfl rfl) rfl ?_
       refine wpl_q (q_pure rfl) rfl ?_
       refine wpl_q (q_idxW Tryd.underlying27 Tryd.ti68 rfl rfl (by first | assumption | exact SV.nil | exact SV.slv (by assumption) (by omega) (by omega) | exact arv_sv (by first | decide | (simp only [maxLen]; omega))) (by first | omega | (simp only [maxLen]; omega) | (simp only [List.length_append, List.length_cons, List.length_nil, List.length_take, maxLen]; omega) | (simp only [List.length_append, List.length_cons, List.length_nil, List.length_take]; omega))) rfl ?_
       refine wpl_q (q_fieldPo 21 Tryd.underlying68 rfl Tryd.ti66 rfl rfl rfl) rfl ?_
       refine wpl_q (q_ldWFN Tryd.underlying66 rfl Tryd.ti66 rfl (fun w h => h.seen_old hh) (hs.getD i Hop.z).sig (hcs_sig hil) rfl) rfl ?_
       refine wpl_t (t_pur Tryd.hb36 rfl fun w h => refGreat7 _ _ _ _ _ w (hsi.old h).1 (hsi.old h).2.1 (hsi.old h).2.2.1 (hsi.old h).2.2.2) rfl (fun b33 => ?_)
       refine wpl_nil ?_
       refine ex_then ?_
       refine wpc_cond rfl (fun hc33 => ?_) (fun hc33 => ?_)
       ·
        have hbg : bigH (hs.getD i Hop.z) := of_decide_eq_true hc33
        have hR : GreatP ⟨pf, pa, pb, pl, hv, hs⟩ := great_3 (p := ⟨pf, pa, pb, pl, hv, hs⟩) hil hbg
        refine wpc_seq ?_
        refine wpc_region ?_
        refine wpl_q (q_pure rfl) rfl ?_
        refine wpl_nil ?_
        refine ex_then ?_
        refine wpc_ret ?_
        refine ex_block_ret ?_
        refine ex_then_ret ?_
        refine ex_then_ret ?_
        refine ex_block_ret ?_
        refine ex_then_ret ?_
        refine ret1 (.inl rfl) rfl rfl ?_
        exact fun w h => ⟨by rw [decide_eq_true hR], h.below⟩
       ·
        have hok : ¬ bigH (hs.getD i Hop.z) := of_decide_eq_false hc33
        refine wpc_skip ?_
        refine ex_block ?_
        refine ex_then ?_
        refine wpc_region ?_
        refine wpl_q (q_pure rfl) rfl ?_
        refine wpl_q (q_addN (b := 1) rfl rfl (by first | omega | (simp only [maxLen]; omega) | (simp only [List.length_append, List.length_cons, List.length_nil, List.length_take, maxLen]; omega) | (simp only [List.length_append, List.length_cons, List.length_nil, List.length_take]; omega))) rfl ?_
        refine wpl_q (q_pure rfl) rfl ?_
        refine wpl_nil ?_
        refine ex_again ⟨i + 1, ⟨by show i + 1 ≤ hs.length; omega, fun j hj => by rcases Nat.lt_or_ge j i with h | h; exact hi1 j h; obtain rfl : j = i := (by have hj : j < i + 1 := hj; omega); exact hok⟩⟩ ?_ ?_ ?_
        ·
         exact (by repeat (first | exact trivial | refine ⟨rfl, ?_⟩))
        ·
         exact fun w h => by first | exact h | exact h.sub SubC.h SubC.h | exact h.sub (by repeat (first | exact Sub.nil | exact Sub.refl _ | with_reducible refine Sub.keep ?_ | refine Sub.drop ?_)) (by repeat (first | exact Sub.nil | exact Sub.refl _ | with_reducible refine Sub.keep ?_ | refine Sub.drop ?_))
        ·
         (show hs.length - (i + 1) < hs.length - i); omega
      ·
       simp only [decide_eq_false_iff_not] at hc24
       obtain rfl : i = hs.length := by omega
       have hR : ¬ GreatP ⟨pf, pa, pb, pl, hv, hs⟩ := great_4 (p := ⟨pf, pa, pb, pl, hv, hs⟩) h4 h35 hi1
       refine wpc_exit ?_
       refine ex_then_exit ?_
       refine ex_then_exit ?_
       refine ex_block_hit ?_
       refine ex_then ?_
       refine wpc_seq ?_
       refine wpc_region ?_
       refine wpl_q (q_pure rfl) rfl ?_
       refine wpl_nil ?_
       refine ex_then ?_
       refine wpc_ret ?_
       refine ret1 (.inl rfl) rfl rfl ?_
       exact fun w h => ⟨by rw [decide_eq_false hR], h.below⟩
  ·
   try simp only [decide_eq_false_iff_not] at hb8
   have h4 : ¬ (4 < hs.length ∧ hs.length ≤ 30) := by omega
   refine wpl_off rfl rfl rfl rfl ?_
   refine wpl_off rfl rfl rfl rfl ?_
   refine wpl_off rfl rfl rfl rfl ?_
   refine wpl_off rfl rfl rfl rfl ?_
   refine wpl_q (q_pure rfl) rfl ?_
   refine wpl_q (q_pure rfl) rfl ?_
   refine wpl_on rfl rfl ?_
   refine wpl_q (q_field Tryd.underlying29 rfl Tryd.ti27 rfl rfl _ rfl) rfl ?_
   refine wpl_on rfl rfl ?_
   refine wpl_q (q_ld Tryd.underlying27 rfl rfl rfl) rfl ?_
   refine wpl_on rfl rfl ?_
   refine wpl_q (q_lenW Tryd.underlying27 rfl (by first | assumption | exact SV.nil | exact SV.slv (by assumption) (by omega) (by omega) | exact arv_sv (by first | decide | (simp only [maxLen]; omega)))) rfl ?_
   refine wpl_on rfl rfl ?_
   refine wpl_q (q_pure rfl) rfl ?_
   refine wpl_q (q_pure rfl) rfl ?_
   refine wpl_nil ?_
   refine ex_then ?_
   refine wpc_cond rfl (fun hc19 => ?_) (fun hc19 => ?_)
   ·
    simp only [decide_eq_true_eq] at hc19
    have hR : GreatP ⟨pf, pa, pb, pl, hv, hs⟩ := great_2 (p := ⟨pf, pa, pb, pl, hv, hs⟩) (by show 35 < hs.length; omega)
    refine wpc_seq ?_
    refine wpc_region ?_
    refine wpl_q (q_pure rfl) rfl ?_
    refine wpl_nil ?_
    refine ex_then ?_
    refine wpc_ret ?_
    refine ex_then_ret ?_
    refine ret1 (.inl rfl) rfl rfl ?_
    exact fun w h => ⟨by rw [decide_eq_true hR], h.below⟩
   ·
    simp only [decide_eq_false_iff_not] at hc19
    have h35 : ¬ 35 < hs.length := by omega
    refine wpc_skip ?_
    refine ex_then ?_
    refine wpc_seq ?_
    refine wpc_seq ?_
    refine wpc_region ?_
    refine wpl_q (q_pure rfl) rfl ?_
    refine wpl_nil ?_
    refine ex_then ?_
    refine wpc_block ?_
    refine wpc_loopc (ι := { x : Nat // (x ≤ hs.length) ∧ (∀ j, j < x → ¬ bigH (hs.getD j Hop.z)) }) [(1, _)] (fun x Lc => (3, .int .i64 ((x.1 : Nat) : Int)) :: Lc) (fun x => Mem w [] [.blk b1 29 [.int .u8 (pf.toNat : Int), .int .u64 (pa.toNat : Int), .int .u64 (pb.toNat : Int), .int .i64 pl, hv]] []) (fun x => hs.length - x.1) ⟨0, ⟨Nat.zero_le _, fun j hj => by omega⟩⟩ (by repeat (first | exact trivial | refine ⟨rfl, ?_⟩)) ?_ ?_
    ·
     exact fun w h => h
    ·
     rintro ⟨i, ⟨hi0, hi1⟩⟩; try dsimp only
     have hi0 : i ≤ hs.length := hi0; have hi1 : ∀ j, j < i → ¬ bigH (hs.getD j Hop.z) := hi1
     refine wpc_seq ?_
     refine wpc_seq ?_
     refine wpc_region ?_
     refine wpl_q (q_pure rfl) rfl ?_
     refine wpl_q (q_field Tryd.underlying29 rfl Tryd.ti27 rfl rfl _ rfl) rfl ?_
     refine wpl_q (q_ld Tryd.underlying27 rfl rfl rfl) rfl ?_
     refine wpl_q (q_lenW Tryd.underlying27 rfl (by first | assumption | exact SV.nil | exact SV.slv (by assumption) (by omega) (by omega) | exact arv_sv (by first | decide | (simp only [maxLen]; omega)))) rfl ?_
     refine wpl_q (q_pure rfl) rfl ?_
     refine wpl_nil ?_
     refine ex_then ?_
     refine wpc_cond rfl (fun hc24 => ?_) (fun hc24 => ?_)
     ·
      simp only [decide_eq_true_eq] at hc24
      have hil : i < hs.length := by omega
      have hsi := hq _ (getD_memO hil)
      refine wpc_skip ?_
      refine ex_then ?_
      refine wpc_seq ?_
      refine wpc_block ?_
      refine wpc_seq ?_
      refine wpc_region ?_
      refine wpl_q (q_field Tryd.underlying29 rfl Tryd.ti27 rfl rfl _ rfl) rfl ?_
      refine wpl_q (q_ld Tryd.underlying27 rfl rfl rfl) rfl ?_
      refine wpl_q (q_pure rfl) rfl ?_
      refine wpl_q (q_idxW Tryd.underlying27 Tryd.ti68 rfl rfl (by first | assumption | exact SV.nil | exact SV.slv (by assumption) (by omega) (by omega) | exact arv_sv (by first | decide | (simp only [maxLen]; omega))) (by first | omega | (simp only [maxLen]; omega) | (simp only [List.length_append, List.length_cons, List.length_nil, List.length_take, maxLen]; omega) | (simp only [List.length_append, List.length_cons, List.length_nil, List.length_take]; omega))) rfl ?_
      refine wpl_q (q_fieldPo 21 Tryd.underlying68 rfl Tryd.ti66 rfl rfl rfl) rfl ?_
      refine wpl_q (q_ldWFN Tryd.underlying66 rfl Tryd.ti66 rfl (fun w h => h.seen_old hh) (hs.getD i Hop.z).sig (hcs_sig hil) rfl) rfl ?_
      refine wpl_t (t_pur Tryd.hb36 rfl fun w h => refGreat7 _ _ _ _ _ w (hsi.old h).1 (hsi.old h).2.1 (hsi.old h).2.2.1 (hsi.old h).2.2.2) rfl (fun b33 => ?_)
      refine wpl_nil ?_
      refine ex_then ?_
      refine wpc_cond rfl (fun hc33 => ?_) (fun hc33 => ?_)
      ·
       have hbg : bigH (hs.getD i Hop.z) := of_decide_eq_true hc33
       have hR : GreatP ⟨pf, pa, pb, pl, hv, hs⟩ := great_3 (p := ⟨pf, pa, pb, pl, hv, hs⟩) hil hbg
       refine wpc_seq ?_
       refine wpc_region ?_
       refine wpl_q (q_pure rfl) rfl ?_
       refine wpl_nil ?_
       refine ex_then ?_
       refine wpc_ret ?_
       refine ex_block_ret ?_
       refine ex_then_ret ?_
       refine ex_then_ret ?_
       refine ex_block_ret ?_
       refine ex_then_ret ?_
       refine ret1 (.inl rfl) rfl rfl ?_
       exact fun w h => ⟨by rw [decide_eq_true hR], h.below⟩
      ·
       have hok : ¬ bigH (hs.getD i Hop.z) := of_decide_eq_false hc33
       refine wpc_skip ?_
       refine ex_block ?_
       refine ex_then ?_
       refine wpc_region ?_
       refine wpl_q (q_pure rfl) rfl ?_
       refine wpl_q (q_addN (b := 1) rfl rfl (by first | omega | (simp only [maxLen]; omega) | (simp only [List.length_append, List.length_cons, List.length_nil, List.length_take, maxLen]; omega) | (simp only [List.length_append, List.length_cons, List.length_nil, List.length_take]; omega))) rfl ?_
       refine wpl_q (q_pure rfl) rfl ?_
       refine wpl_nil ?_
       refine ex_again ⟨i + 1, ⟨by show i + 1 ≤ hs.length; omega, fun j hj => by rcases Nat.lt_or_ge j i with h | h; exact hi1 j h; obtain rfl : j = i := (by have hj : j < i + 1 := hj; omega); exact hok⟩⟩ ?_ ?_ ?_
       ·
        exact (by repeat (first | exact trivial | refine ⟨rfl, ?_⟩))
       ·
        exact fun w h => by first | exact h | exact h.sub SubC.h SubC.h | exact h.sub (by repeat (first | exact Sub.nil | exact Sub.refl _ | with_reducible refine Sub.keep ?_ | refine Sub.drop ?_)) (by repeat (first | exact Sub.nil | exact Sub.refl _ | with_reducible refine Sub.keep ?_ | refine Sub.drop ?_))
       ·
        (show hs.length - (i + 1) < hs.length - i); omega
     ·
      simp only [decide_eq_false_iff_not] at hc24
      obtain rfl : i = hs.length := by omega
      have hR : ¬ GreatP ⟨pf, pa, pb, pl, hv, hs⟩ := great_4 (p := ⟨pf, pa, pb, pl, hv, hs⟩) h4 h35 hi1
      refine wpc_exit ?_
      refine ex_then_exit ?_
      refine ex_then_exit ?_
      refine ex_block_hit ?_
      refine ex_then ?_
      refine wpc_seq ?_
      refine wpc_region ?_
      refine wpl_q (q_pure rfl) rfl ?_
      refine wpl_nil ?_
      refine ex_then ?_
      refine wpc_ret ?_
      refine ret1 (.inl rfl) rfl rfl ?_
      exact fun w h => ⟨by rw [decide_eq_false hR], h.below⟩

end Go.Proofs.YtjpfhkjmjnjggaaDoor

namespace Go.Proofs.YtjpfhkjmjnjggaaDoor
set_option linter.unusedSimpArgs false
set_option linter.unusedVariables false
open Go Go.PL Go.RowKit
set_option maxRecDepth 100000 in
theorem refSame42 (p : Pth) (q : Pth) (w : World) (hp : p.seen w.cell?) (hqp : q.seen w.cell?)  :
    Calls Tryd.prog 21 [.agg p.c.toArray, .agg q.c.toArray].toArray w (Pur w (.bool (decide (Pth.eqv p q)))) := by
  obtain ⟨pf, pa, pb, pl, hv, hs⟩ := p
  have hh : Seen w.cell? hv hs.length 24 (hcs hs) := hp.1
  have hq : ∀ h ∈ hs, h.seen w.cell? := hp.2
  have svh := hh.sv
  have lh := svh.le
  simp only [maxLen] at lh
  obtain ⟨pf2, pa2, pb2, pl2, hv2, hs2⟩ := q
  have hh2 : Seen w.cell? hv2 hs2.length 24 (hcs hs2) := hqp.1
  have hq2 : ∀ h ∈ hs2, h.seen w.cell? := hqp.2
  have svh2 := hh2.sv
  have lh2 := svh2.le
  simp only [maxLen] at lh2
  refine enter (m := 80) (R := Mem w [] [] []) Tryd.func21 rfl rfl (Nat.le_of_ble_eq_true rfl) (Mem.start w) ?_
  refine wpc_seq ?_
  refine wpc_region ?_
  refine wpl_t (t_box rfl [.int .u8 (pf.toNat : Int), .int .u64 (pa.toNat : Int), .int .u64 (pb.toNat : Int), .int .i64 pl, hv] rfl) rfl (fun b2 => ?_)
  refine wpl_t (t_box rfl [.int .u8 (pf2.toNat : Int), .int .u64 (pa2.toNat : Int), .int .u64 (pb2.toNat : Int), .int .i64 pl2, hv2] rfl) rfl (fun b3 => ?_)
  refine wpl_q (q_pure rfl) rfl ?_
  refine wpl_nil ?_
  refine ex_then ?_
  refine wpc_seq ?_
  refine wpc_seq ?_
  refine wpc_region ?_
  refine wpl_q (q_field Tryd.underlying29 rfl Tryd.ti26 rfl rfl _ rfl) rfl ?_
  refine wpl_q (q_ldP Tryd.underlying26 rfl Tryd.ti26 rfl (pfL pf pa pb pl) rfl (by first | (with_reducible exact key_len _ _ (by (first | with_reducible assumption | exact L16.h))) | with_reducible rfl | (simp only [v8s_length, v32s_length, vis_length, vns_length, v64s_length, List.length_replicate]; first | done | with_reducible assumption | omega) | (rw [v8s_length]; (first | with_reducible assumption | exact L16.h)) | rfl)) rfl ?_
  refine wpl_q (q_field Tryd.underlying29 rfl Tryd.ti26 rfl rfl _ rfl) rfl ?_
  refine wpl_q (q_ldP Tryd.underlying26 rfl Tryd.ti26 rfl (pfL pf2 pa2 pb2 pl2) rfl (by first | (with_reducible exact key_len _ _ (by (first | with_reducible assumption | exact L16.h))) | with_reducible rfl | (simp only [v8s_length, v32s_length, vis_length, vns_length, v64s_length, List.length_replicate]; first | done | with_reducible assumption | omega) | (rw [v8s_length]; (first | with_reducible assumption | exact L16.h)) | rfl)) rfl ?_
  refine wpl_q (q_nePfx rfl rfl) rfl ?_
  refine wpl_q (q_pure rfl) rfl ?_
  refine wpl_bool2 13 12 rfl rfl (fun hb13 => ?_) (fun hb13 => ?_)
  ·
   have hdd : ¬ (pf = pf2 ∧ pa = pa2 ∧ pb = pb2 ∧ pl = pl2) := by simpa only [Bool.not_eq_true', decide_eq_false_iff_not] using hb13
   have hne : ¬ Pth.eqv ⟨pf, pa, pb, pl, hv, hs⟩ ⟨pf2, pa2, pb2, pl2, hv2, hs2⟩ := fun e => hdd e.1
   refine wpl_off rfl rfl rfl rfl ?_
   refine wpl_off rfl rfl rfl rfl ?_
   refine wpl_off rfl rfl rfl rfl ?_
   refine wpl_off rfl rfl rfl rfl ?_
   refine wpl_off rfl rfl rfl rfl ?_
   refine wpl_off rfl rfl rfl rfl ?_
   refine wpl_off rfl rfl rfl rfl ?_
   refine wpl_q (q_pure rfl) rfl ?_
   refine wpl_nil ?_
   refine ex_then ?_
   refine wpc_cond_t rfl ?_
   refine wpc_seq ?_
   refine wpc_region ?_
   refine wpl_q (q_pure rfl) rfl ?_
   refine wpl_nil ?_
   refine ex_then ?_
   refine wpc_ret ?_
   refine ex_then_ret ?_
   refine ret1 (.inl rfl) rfl rfl ?_
   first | exact fun w h => ⟨by rw [decide_eq_false hne], h.below⟩ | exact fun w h => ⟨by rw [decide_eq_true hR], h.below⟩
  ·
   have hpx : pf = pf2 ∧ pa = pa2 ∧ pb = pb2 ∧ pl = pl2 := by simpa only [Bool.not_eq_false', decide_eq_true_eq] using hb13
   refine wpl_on rfl rfl ?_
   refine wpl_q (q_field Tryd.underlying29 rfl Tryd.ti27 rfl rfl _ rfl) rfl ?_
   refine wpl_on rfl rfl ?_
   refine wpl_q (q_ld Tryd.underlying27 rfl rfl rfl) rfl ?_
   refine wpl_on rfl rfl ?_
   refine wpl_q (q_lenW Tryd.underlying27 rfl (by first | assumption | exact SV.nil | exact SV.slv (by assumption) (by omega) (by omega) | exact arv_sv (by first | decide | (simp only [maxLen]; omega)))) rfl ?_
   refine wpl_on rfl rfl ?_
   refine wpl_q (q_field Tryd.underlying29 rfl Tryd.ti27 rfl rfl _ rfl) rfl ?_
   refine wpl_on rfl rfl ?_
   refine wpl_q (q_ld Tryd.underlying27 rfl rfl rfl) rfl ?_
   refine wpl_on rfl rfl ?_
   refine wpl_q (q_lenW Tryd.underlying27 rfl (by first | assumption | exact SV.nil | exact SV.slv (by assumption) (by omega) (by omega) | exact arv_sv (by first | decide | (simp only [maxLen]; omega)))) rfl ?_
   refine wpl_on rfl rfl ?_
   refine wpl_q (q_pure rfl) rfl ?_
   refine wpl_q (q_pure rfl) rfl ?_
   refine wpl_nil ?_
   refine ex_then ?_
   refine wpc_cond rfl (fun hc21 => ?_) (fun hc21 => ?_)
   ·
    have hdd : ¬ ((hs.length : Nat) : Int) = ((hs2.length : Nat) : Int) := by simpa using hc21
    have hne : ¬ Pth.eqv ⟨pf, pa, pb, pl, hv, hs⟩ ⟨pf2, pa2, pb2, pl2, hv2, hs2⟩ := fun e => hdd (congrArg _ e.2.1)
    refine wpc_seq ?_
    refine wpc_region ?_
    refine wpl_q (q_pure rfl) rfl ?_
    refine wpl_nil ?_
    refine ex_then ?_
    refine wpc_ret ?_
    refine ex_then_ret ?_
    refine ret1 (.inl rfl) rfl rfl ?_
    first | exact fun w h => ⟨by rw [decide_eq_false hne], h.below⟩ | exact fun w h => ⟨by rw [decide_eq_true hR], h.below⟩
   ·
    have hdd : ((hs.length : Nat) : Int) = ((hs2.length : Nat) : Int) := by simpa using hc21
    have hl : hs.length = hs2.length := by omega
    refine wpc_skip ?_
    refine ex_then ?_
    refine wpc_seq ?_
    refine wpc_seq ?_
    refine wpc_region ?_
    refine wpl_q (q_pure rfl) rfl ?_
    refine wpl_nil ?_
    refine ex_then ?_
    refine wpc_block ?_
    refine wpc_loopc (ι := { x : Nat // (x ≤ hs.length) ∧ (∀ j, j < x → Hop.eqv (hs.getD j Hop.z) (hs2.getD j Hop.z)) }) [(2, _), (3, _)] (fun x Lc => (5, .int .i64 ((x.1 : Nat) : Int)) :: Lc) (fun x => Mem w [] [.blk b3 29 [.int .u8 (pf2.toNat : Int), .int .u64 (pa2.toNat : Int), .int .u64 (pb2.toNat : Int), .int .i64 pl2, hv2], .blk b2 29 [.int .u8 (pf.toNat : Int), .int .u64 (pa.toNat : Int), .int .u64 (pb.toNat : Int), .int .i64 pl, hv]] []) (fun x => hs.length - x.1) ⟨0, ⟨Nat.zero_le _, fun j hj => by omega⟩⟩ (by repeat (first | exact trivial | refine ⟨rfl, ?_⟩)) ?_ ?_
    ·
     exact fun w h => h
    ·
     rintro ⟨i, ⟨hi0, hi1⟩⟩; try dsimp only
     have hi0 : i ≤ hs.length := hi0; have hi1 : ∀ j, j < i → Hop.eqv (hs.getD j Hop.z) (hs2.getD j Hop.z) := hi1
     refine wpc_seq ?_
     refine wpc_seq ?_
     refine wpc_region ?_
     refine wpl_q (q_pure rfl) rfl ?_
     refine wpl_q (q_field Tryd.underlying29 rfl Tryd.ti27 rfl rfl _ rfl) rfl ?_
     refine wpl_q (q_ld Tryd.underlying27 rfl rfl rfl) rfl ?_
     refine wpl_q (q_lenW Tryd.underlying27 rfl (by first | assumption | exact SV.nil | exact SV.slv (by assumption) (by omega) (by omega) | exact arv_sv (by first | decide | (simp only [maxLen]; omega)))) rfl ?_
     refine wpl_q (q_pure rfl) rfl ?_
     refine wpl_nil ?_
     refine ex_then ?_
     refine wpc_cond rfl (fun hc26 => ?_) (fun hc26 => ?_)
     ·
      simp only [decide_eq_true_eq] at hc26
      have hil : i < hs.length := by omega
      have hil2 : i < hs2.length := by omega
      have hsi := hq _ (getD_memO hil)
      have hsi2 := hq2 _ (getD_memO hil2)
      haveI := hsi.sv.one
      haveI := hsi2.sv.one
      refine wpc_skip ?_
      refine ex_then ?_
      refine wpc_seq ?_
      refine wpc_block ?_
      refine wpc_cutc ({ x : Nat × Nat // True }) [(2, .pointer (some ⟨b2, 0, none⟩)), (3, .pointer (some ⟨b3, 0, none⟩)), (5, .int .i64 ((i : Nat) : Int))] (fun x Lc => (6, .pointer (some ⟨x.1.1, 0, none⟩)) :: (7, .pointer (some ⟨x.1.2, 0, none⟩)) :: Lc) (fun x => Mem w [] [.blk x.1.1 68 (hs.getD i Hop.z).c, .blk x.1.2 68 (hs2.getD i Hop.z).c, .blk b3 29 [.int .u8 (pf2.toNat : Int), .int .u64 (pa2.toNat : Int), .int .u64 (pb2.toNat : Int), .int .i64 pl2, hv2], .blk b2 29 [.int .u8 (pf.toNat : Int), .int .u64 (pa.toNat : Int), .int .u64 (pb.toNat : Int), .int .i64 pl, hv]] []) ?_ ?_
      ·
       refine wpc_draw 99 (by kernel_rfl) (fun _ h => h.drew) ?_
       refine wpd_p 0 rfl (by kernel_rfl) trivial (q_field Tryd.underlying29 rfl Tryd.ti27 rfl rfl _ rfl) rfl sk0 ?_
       refine wpd_q 1 rfl (by kernel_rfl) trivial (q_ld Tryd.underlying27 rfl rfl rfl) rfl (fun _ h => h) ?_
       refine wpd_p 2 rfl (by kernel_rfl) trivial (q_pure rfl) rfl sk0 ?_
       refine wpd_p 3 rfl (by kernel_rfl) trivial (q_idxW Tryd.underlying27 Tryd.ti68 rfl rfl (by first | assumption | exact SV.nil | exact SV.slv (by assumption) (by omega) (by omega) | exact arv_sv (by first | decide | (simp only [maxLen]; omega))) (by first | omega | (simp only [maxLen]; omega) | (simp only [List.length_append, List.length_cons, List.length_nil, List.length_take, maxLen]; omega) | (simp only [List.length_append, List.length_cons, List.length_nil, List.length_take]; omega))) rfl sk0 ?_
       refine wpd_q 4 rfl (by kernel_rfl) trivial (q_ldWN Tryd.underlying68 rfl Tryd.ti68 rfl (fun w h => h.seen_old hh) (hs.getD i Hop.z).c (cat_part Hop.c_length Hop.z hil) (Hop.c_length _)) rfl (fun _ h => h) ?_
       refine wpd_p 5 rfl (by kernel_rfl) trivial (q_field Tryd.underlying29 rfl Tryd.ti27 rfl rfl _ rfl) rfl sk0 ?_
       refine wpd_q 6 rfl (by kernel_rfl) trivial (q_ld Tryd.underlying27 rfl rfl rfl) rfl (fun _ h => h) ?_
       refine wpd_p 7 rfl (by kernel_rfl) trivial (q_pure rfl) rfl sk0 ?_
       refine wpd_p 8 rfl (by kernel_rfl) trivial (q_idxW Tryd.underlying27 Tryd.ti68 rfl rfl (by first | assumption | exact SV.nil | exact SV.slv (by assumption) (by omega) (by omega) | exact arv_sv (by first | decide | (simp only [maxLen]; omega))) (by first | omega | (simp only [maxLen]; omega) | (simp only [List.length_append, List.length_cons, List.length_nil, List.length_take, maxLen]; omega) | (simp only [List.length_append, List.length_cons, List.length_nil, List.length_take]; omega))) rfl sk0 ?_
       refine wpd_q 9 rfl (by kernel_rfl) trivial (q_ldWN Tryd.underlying68 rfl Tryd.ti68 rfl (fun w h => h.seen_old hh2) (hs2.getD i Hop.z).c (cat_part Hop.c_length Hop.z hil2) (Hop.c_length _)) rfl (fun _ h => h) ?_
       refine wpd_two 10 11 (by kernel_rfl) ?_ ?_
       ·
        refine wpa_t 10 rfl trivial (t_alloc Tryd.ti68 Hop.z.c rfl) rfl (fun _ => (fun w h => .inr (h.sub SubC.h SubC.h))) (fun b6 => ?_)
        refine wpd_t 11 rfl (by kernel_rfl) trivial (t_alloc Tryd.ti68 Hop.z.c rfl) rfl (fun _ => (fun w h => .inr (h.sub SubC.h SubC.h))) (fun b7 => ?_)
        refine wpd_t0 12 rfl (by kernel_rfl) trivial (t_stA Tryd.ti68 rfl rfl LenC.h OneC.h LenC.h) (fun _ => (fun w h => .inr (h.sub SubC.h SubC.h))) (fun _ => ?_)
        refine wpd_t0 13 rfl (by kernel_rfl) trivial (t_stA Tryd.ti68 rfl rfl LenC.h OneC.h LenC.h) (fun _ => (fun w h => .inr (h.sub SubC.h SubC.h))) (fun _ => ?_)
        refine wpd_done (by kernel_rfl) ?_
        refine ex_mid ⟨(b6, b7), trivial⟩ ?_ ?_
        ·
         exact (by repeat (first | exact trivial | refine ⟨rfl, ?_⟩))
        ·
         exact fun w h => h.sel
       ·
        refine wpa_t 11 rfl trivial (t_alloc Tryd.ti68 Hop.z.c rfl) rfl (fun _ => (fun w h => .inr (h.sub SubC.h SubC.h))) (fun b7 => ?_)
        refine wpd_t 10 rfl (by kernel_rfl) trivial (t_alloc Tryd.ti68 Hop.z.c rfl) rfl (fun _ => (fun w h => .inr (h.sub SubC.h SubC.h))) (fun b6 => ?_)
        refine wpd_t0 12 rfl (by kernel_rfl) trivial (t_stA Tryd.ti68 rfl rfl LenC.h OneC.h LenC.h) (fun _ => (fun w h => .inr (h.sub SubC.h SubC.h))) (fun _ => ?_)
        refine wpd_t0 13 rfl (by kernel_rfl) trivial (t_stA Tryd.ti68 rfl rfl LenC.h OneC.h LenC.h) (fun _ => (fun w h => .inr (h.sub SubC.h SubC.h))) (fun _ => ?_)
        refine wpd_done (by kernel_rfl) ?_
        refine ex_mid ⟨(b6, b7), trivial⟩ ?_ ?_
        ·
         exact (by repeat (first | exact trivial | refine ⟨rfl, ?_⟩))
        ·
         exact fun w h => h.sel
      ·
       rintro ⟨⟨a6, a7⟩, _⟩; try dsimp only
       refine wpc_seq ?_
       refine wpc_region ?_
       refine wpl_q (q_field Tryd.underlying68 rfl Tryd.ti49 rfl rfl _ rfl) rfl ?_
       refine wpl_q (q_ld Tryd.underlying49 rfl rfl (Hop.c_sy _)) rfl ?_
       refine wpl_q (q_field Tryd.underlying68 rfl Tryd.ti49 rfl rfl _ rfl) rfl ?_
       refine wpl_q (q_ld Tryd.underlying49 rfl rfl (Hop.c_sy _)) rfl ?_
       refine wpl_q (q32_neq rfl rfl) rfl ?_
       refine wpl_q (q_pure rfl) rfl ?_
       refine wpl_bool2 44 43 rfl rfl (fun hb44 => ?_) (fun hb44 => ?_)
       ·
        have hdd : ¬ (hs.getD i Hop.z).sy = (hs2.getD i Hop.z).sy := by simpa using hb44
        have hne : ¬ Pth.eqv ⟨pf, pa, pb, pl, hv, hs⟩ ⟨pf2, pa2, pb2, pl2, hv2, hs2⟩ := fun e => hdd (e.2.2 i hil).1
        refine wpl_off rfl rfl rfl rfl ?_
        refine wpl_off rfl rfl rfl rfl ?_
        refine wpl_off rfl rfl rfl rfl ?_
        refine wpl_off rfl rfl rfl rfl ?_
        refine wpl_off rfl rfl rfl rfl ?_
        refine wpl_q (q_pure rfl) rfl ?_
        refine wpl_q (q_pure rfl) rfl ?_
        refine wpl_off rfl rfl rfl rfl ?_
        refine wpl_off rfl rfl rfl rfl ?_
        refine wpl_off rfl rfl rfl rfl ?_
        refine wpl_off rfl rfl rfl rfl ?_
        refine wpl_off rfl rfl rfl rfl ?_
        refine wpl_q (q_pure rfl) rfl ?_
        refine wpl_q (q_pure rfl) rfl ?_
        refine wpl_off rfl rfl rfl rfl ?_
        refine wpl_off rfl rfl rfl rfl ?_
        refine wpl_off rfl rfl rfl rfl ?_
        refine wpl_off rfl rfl rfl rfl ?_
        refine wpl_off rfl rfl rfl rfl ?_
        refine wpl_q (q_pure rfl) rfl ?_
        refine wpl_q (q_pure rfl) rfl ?_
        refine wpl_off rfl rfl rfl rfl ?_
        refine wpl_off rfl rfl rfl rfl ?_
        refine wpl_off rfl rfl rfl rfl ?_
        refine wpl_off rfl rfl rfl rfl ?_
        refine wpl_off rfl rfl rfl rfl ?_
        refine wpl_q (q_pure rfl) rfl ?_
        refine wpl_q (q_pure rfl) rfl ?_
        refine wpl_off rfl rfl rfl rfl ?_
        refine wpl_off rfl rfl rfl rfl ?_
        refine wpl_off rfl rfl rfl rfl ?_
        refine wpl_off rfl rfl rfl rfl ?_
        refine wpl_off rfl rfl rfl rfl ?_
        refine wpl_off rfl rfl rfl rfl ?_
        refine wpl_q (q_pure rfl) rfl ?_
        refine wpl_nil ?_
        refine ex_then ?_
        refine wpc_cond_t rfl ?_
        refine wpc_seq ?_
        refine wpc_region ?_
        refine wpl_q (q_pure rfl) rfl ?_
        refine wpl_nil ?_
        refine ex_then ?_
        refine wpc_ret ?_
        refine ex_block_ret ?_
        refine ex_then_ret ?_
        refine ex_then_ret ?_
        refine ex_block_ret ?_
        refine ex_then_ret ?_
        refine ret1 (.inl rfl) rfl rfl ?_
        first | exact fun w h => ⟨by rw [decide_eq_false hne], h.below⟩ | exact fun w h => ⟨by rw [decide_eq_true hR], h.below⟩
       ·
        have hd44 : (hs.getD i Hop.z).sy = (hs2.getD i Hop.z).sy := by simpa using hb44
        refine wpl_on rfl rfl ?_
        refine wpl_q (q_field Tryd.underlying68 rfl Tryd.ti5 rfl rfl _ rfl) rfl ?_
        refine wpl_on rfl rfl ?_
        refine wpl_q (q_ld Tryd.underlying5 rfl rfl (Hop.c_cnt _)) rfl ?_
        refine wpl_on rfl rfl ?_
        refine wpl_q (q_field Tryd.underlying68 rfl Tryd.ti5 rfl rfl _ rfl) rfl ?_
        refine wpl_on rfl rfl ?_
        refine wpl_q (q_ld Tryd.underlying5 rfl rfl (Hop.c_cnt _)) rfl ?_
        refine wpl_on rfl rfl ?_
        refine wpl_q (q8_neq rfl rfl) rfl ?_
        refine wpl_q (q_pure rfl) rfl ?_
        refine wpl_q (q_pure rfl) rfl ?_
        refine wpl_bool2 51 49 rfl rfl (fun hb51 => ?_) (fun hb51 => ?_)
        ·
         have hdd : ¬ (hs.getD i Hop.z).cnt = (hs2.getD i Hop.z).cnt := by simpa using hb51
         have hne : ¬ Pth.eqv ⟨pf, pa, pb, pl, hv, hs⟩ ⟨pf2, pa2, pb2, pl2, hv2, hs2⟩ := fun e => hdd (e.2.2 i hil).2.1
         refine wpl_off rfl rfl rfl rfl ?_
         refine wpl_off rfl rfl rfl rfl ?_
         refine wpl_off rfl rfl rfl rfl ?_
         refine wpl_off rfl rfl rfl rfl ?_
         refine wpl_off rfl rfl rfl rfl ?_
         refine wpl_q (q_pure rfl) rfl ?_
         refine wpl_q (q_pure rfl) rfl ?_
         refine wpl_off rfl rfl rfl rfl ?_
         refine wpl_off rfl rfl rfl rfl ?_
         refine wpl_off rfl rfl rfl rfl ?_
         refine wpl_off rfl rfl rfl rfl ?_
         refine wpl_off rfl rfl rfl rfl ?_
         refine wpl_q (q_pure rfl) rfl ?_
         refine wpl_q (q_pure rfl) rfl ?_
         refine wpl_off rfl rfl rfl rfl ?_
         refine wpl_off rfl rfl rfl rfl ?_
         refine wpl_off rfl rfl rfl rfl ?_
         refine wpl_off rfl rfl rfl rfl ?_
         refine wpl_off rfl rfl rfl rfl ?_
         refine wpl_q (q_pure rfl) rfl ?_
         refine wpl_q (q_pure rfl) rfl ?_
         refine wpl_off rfl rfl rfl rfl ?_
         refine wpl_off rfl rfl rfl rfl ?_
         refine wpl_off rfl rfl rfl rfl ?_
         refine wpl_off rfl rfl rfl rfl ?_
         refine wpl_off rfl rfl rfl rfl ?_
         refine wpl_off rfl rfl rfl rfl ?_
         refine wpl_q (q_pure rfl) rfl ?_
         refine wpl_nil ?_
         refine ex_then ?_
         refine wpc_cond_t rfl ?_
         refine wpc_seq ?_
         refine wpc_region ?_
         refine wpl_q (q_pure rfl) rfl ?_
         refine wpl_nil ?_
         refine ex_then ?_
         refine wpc_ret ?_
         refine ex_block_ret ?_
         refine ex_then_ret ?_
         refine ex_then_ret ?_
         refine ex_block_ret ?_
         refine ex_then_ret ?_
         refine ret1 (.inl rfl) rfl rfl ?_
         first | exact fun w h => ⟨by rw [decide_eq_false hne], h.below⟩ | exact fun w h => ⟨by rw [decide_eq_true hR], h.below⟩
        ·
         have hd51 : (hs.getD i Hop.z).cnt = (hs2.getD i Hop.z).cnt := by simpa using hb51
         refine wpl_on rfl rfl ?_
         refine wpl_q (q_field Tryd.underlying68 rfl Tryd.ti5 rfl rfl _ rfl) rfl ?_
         refine wpl_on rfl rfl ?_
         refine wpl_q (q_ld Tryd.underlying5 rfl rfl (Hop.c_fl _)) rfl ?_
         refine wpl_on rfl rfl ?_
         refine wpl_q (q_field Tryd.underlying68 rfl Tryd.ti5 rfl rfl _ rfl) rfl ?_
         refine wpl_on rfl rfl ?_
         refine wpl_q (q_ld Tryd.underlying5 rfl rfl (Hop.c_fl _)) rfl ?_
         refine wpl_on rfl rfl ?_
         refine wpl_q (q8_neq rfl rfl) rfl ?_
         refine wpl_q (q_pure rfl) rfl ?_
         refine wpl_q (q_pure rfl) rfl ?_
         refine wpl_bool2 58 56 rfl rfl (fun hb58 => ?_) (fun hb58 => ?_)
         ·
          have hdd : ¬ (hs.getD i Hop.z).fl = (hs2.getD i Hop.z).fl := by simpa using hb58
          have hne : ¬ Pth.eqv ⟨pf, pa, pb, pl, hv, hs⟩ ⟨pf2, pa2, pb2, pl2, hv2, hs2⟩ := fun e => hdd (e.2.2 i hil).2.2.1
          refine wpl_off rfl rfl rfl rfl ?_
          refine wpl_off rfl rfl rfl rfl ?_
          refine wpl_off rfl rfl rfl rfl ?_
          refine wpl_off rfl rfl rfl rfl ?_
          refine wpl_off rfl rfl rfl rfl ?_
          refine wpl_q (q_pure rfl) rfl ?_
          refine wpl_q (q_pure rfl) rfl ?_
          refine wpl_off rfl rfl rfl rfl ?_
          refine wpl_off rfl rfl rfl rfl ?_
          refine wpl_off rfl rfl rfl rfl ?_
          refine wpl_off rfl rfl rfl rfl ?_
          refine wpl_off rfl rfl rfl rfl ?_
          refine wpl_q (q_pure rfl) rfl ?_
          refine wpl_q (q_pure rfl) rfl ?_
          refine wpl_off rfl rfl rfl rfl ?_
          refine wpl_off rfl rfl rfl rfl ?_
          refine wpl_off rfl rfl rfl rfl ?_
          refine wpl_off rfl rfl rfl rfl ?_
          refine wpl_off rfl rfl rfl rfl ?_
          refine wpl_off rfl rfl rfl rfl ?_
          refine wpl_q (q_pure rfl) rfl ?_
          refine wpl_nil ?_
          refine ex_then ?_
          refine wpc_cond_t rfl ?_
          refine wpc_seq ?_
          refine wpc_region ?_
          refine wpl_q (q_pure rfl) rfl ?_
          refine wpl_nil ?_
          refine ex_then ?_
          refine wpc_ret ?_
          refine ex_block_ret ?_
          refine ex_then_ret ?_
          refine ex_then_ret ?_
          refine ex_block_ret ?_
          refine ex_then_ret ?_
          refine ret1 (.inl rfl) rfl rfl ?_
          first | exact fun w h => ⟨by rw [decide_eq_false hne], h.below⟩ | exact fun w h => ⟨by rw [decide_eq_true hR], h.below⟩
         ·
          have hd58 : (hs.getD i Hop.z).fl = (hs2.getD i Hop.z).fl := by simpa using hb58
          refine wpl_on rfl rfl ?_
          refine wpl_q (q_field Tryd.underlying68 rfl Tryd.ti49 rfl rfl _ rfl) rfl ?_
          refine wpl_on rfl rfl ?_
          refine wpl_q (q_ld Tryd.underlying49 rfl rfl (Hop.c_to _)) rfl ?_
          refine wpl_on rfl rfl ?_
          refine wpl_q (q_field Tryd.underlying68 rfl Tryd.ti49 rfl rfl _ rfl) rfl ?_
          refine wpl_on rfl rfl ?_
          refine wpl_q (q_ld Tryd.underlying49 rfl rfl (Hop.c_to _)) rfl ?_
          refine wpl_on rfl rfl ?_
          refine wpl_q (q32_neq rfl rfl) rfl ?_
          refine wpl_q (q_pure rfl) rfl ?_
          refine wpl_q (q_pure rfl) rfl ?_
          refine wpl_bool2 65 63 rfl rfl (fun hb65 => ?_) (fun hb65 => ?_)
          ·
           have hdd : ¬ (hs.getD i Hop.z).to = (hs2.getD i Hop.z).to := by simpa using hb65
           have hne : ¬ Pth.eqv ⟨pf, pa, pb, pl, hv, hs⟩ ⟨pf2, pa2, pb2, pl2, hv2, hs2⟩ := fun e => hdd (e.2.2 i hil).2.2.2.1
           refine wpl_off rfl rfl rfl rfl ?_
           refine wpl_off rfl rfl rfl rfl ?_
           refine wpl_off rfl rfl rfl rfl ?_
           refine wpl_off rfl rfl rfl rfl ?_
           refine wpl_off rfl rfl rfl rfl ?_
           refine wpl_q (q_pure rfl) rfl ?_
           refine wpl_q (q_pure rfl) rfl ?_
           refine wpl_off rfl rfl rfl rfl ?_
           refine wpl_off rfl rfl rfl rfl ?_
           refine wpl_off rfl rfl rfl rfl ?_
           refine wpl_off rfl rfl rfl rfl ?_
           refine wpl_off rfl rfl rfl rfl ?_
           refine wpl_off rfl rfl rfl rfl ?_
           refine wpl_q (q_pure rfl) rfl ?_
           refine wpl_nil ?_
           refine ex_then ?_
           refine wpc_cond_t rfl ?_
           refine wpc_seq ?_
           refine wpc_region ?_
           refine wpl_q (q_pure rfl) rfl ?_
           refine wpl_nil ?_
           refine ex_then ?_
           refine wpc_ret ?_
           refine ex_block_ret ?_
           refine ex_then_ret ?_
           refine ex_then_ret ?_
           refine ex_block_ret ?_
           refine ex_then_ret ?_
           refine ret1 (.inl rfl) rfl rfl ?_
           first | exact fun w h => ⟨by rw [decide_eq_false hne], h.below⟩ | exact fun w h => ⟨by rw [decide_eq_true hR], h.below⟩
          ·
           have hd65 : (hs.getD i Hop.z).to = (hs2.getD i Hop.z).to := by simpa using hb65
           refine wpl_on rfl rfl ?_
           refine wpl_q (q_field Tryd.underlying68 rfl Tryd.ti63 rfl rfl _ rfl) rfl ?_
           refine wpl_on rfl rfl ?_
           refine wpl_q (q_ldP Tryd.underlying63 rfl Tryd.ti63 rfl (hs.getD i Hop.z).key (Hop.c_key _) (Hop.key_length _)) rfl ?_
           refine wpl_on rfl rfl ?_
           refine wpl_q (q_field Tryd.underlying68 rfl Tryd.ti63 rfl rfl _ rfl) rfl ?_
           refine wpl_on rfl rfl ?_
           refine wpl_q (q_ldP Tryd.underlying63 rfl Tryd.ti63 rfl (hs2.getD i Hop.z).key (Hop.c_key _) (Hop.key_length _)) rfl ?_
           refine wpl_on rfl rfl ?_
           refine wpl_q (q_neK rfl rfl (hs.getD i Hop.z).root.2 (hs2.getD i Hop.z).root.2) rfl ?_
           refine wpl_q (q_pure rfl) rfl ?_
           refine wpl_q (q_pure rfl) rfl ?_
           refine wpl_bool2 72 70 rfl rfl (fun hb72 => ?_) (fun hb72 => ?_)
           ·
            have hdd : ¬ ((hs.getD i Hop.z).root.1 = (hs2.getD i Hop.z).root.1 ∧ (hs.getD i Hop.z).ht = (hs2.getD i Hop.z).ht) := by simpa only [Bool.not_eq_true', decide_eq_false_iff_not] using hb72
            have hne : ¬ Pth.eqv ⟨pf, pa, pb, pl, hv, hs⟩ ⟨pf2, pa2, pb2, pl2, hv2, hs2⟩ := fun e => hdd (e.2.2 i hil).2.2.2.2.1
            refine wpl_off rfl rfl rfl rfl ?_
            refine wpl_off rfl rfl rfl rfl ?_
            refine wpl_off rfl rfl rfl rfl ?_
            refine wpl_off rfl rfl rfl rfl ?_
            refine wpl_off rfl rfl rfl rfl ?_
            refine wpl_off rfl rfl rfl rfl ?_
            refine wpl_q (q_pure rfl) rfl ?_
            refine wpl_nil ?_
            refine ex_then ?_
            refine wpc_cond_t rfl ?_
            refine wpc_seq ?_
            refine wpc_region ?_
            refine wpl_q (q_pure rfl) rfl ?_
            refine wpl_nil ?_
            refine ex_then ?_
            refine wpc_ret ?_
            refine ex_block_ret ?_
            refine ex_then_ret ?_
            refine ex_then_ret ?_
            refine ex_block_ret ?_
            refine ex_then_ret ?_
            refine ret1 (.inl rfl) rfl rfl ?_
            first | exact fun w h => ⟨by rw [decide_eq_false hne], h.below⟩ | exact fun w h => ⟨by rw [decide_eq_true hR], h.below⟩
           ·
            have hd72 : (hs.getD i Hop.z).root.1 = (hs2.getD i Hop.z).root.1 ∧ (hs.getD i Hop.z).ht = (hs2.getD i Hop.z).ht := by simpa only [Bool.not_eq_false', decide_eq_true_eq] using hb72
            refine wpl_on rfl rfl ?_
            refine wpl_q (q_field Tryd.underlying68 rfl Tryd.ti66 rfl rfl _ rfl) rfl ?_
            refine wpl_on rfl rfl ?_
            refine wpl_q (q_ldP Tryd.underlying66 rfl Tryd.ti66 rfl (hs.getD i Hop.z).sig (Hop.c_sig _) rfl) rfl ?_
            refine wpl_on rfl rfl ?_
            refine wpl_q (q_field Tryd.underlying68 rfl Tryd.ti66 rfl rfl _ rfl) rfl ?_
            refine wpl_on rfl rfl ?_
            refine wpl_q (q_ldP Tryd.underlying66 rfl Tryd.ti66 rfl (hs2.getD i Hop.z).sig (Hop.c_sig _) rfl) rfl ?_
            refine wpl_on rfl rfl ?_
            refine wpl_t (t_pur Tryd.hb46 rfl fun w h => refSame7 _ _ _ _ _ _ _ _ _ _ w (hsi.old h).1 (hsi.old h).2.1 (hsi.old h).2.2.1 (hsi.old h).2.2.2 (hsi2.old h).1 (hsi2.old h).2.1 (hsi2.old h).2.2.1 (hsi2.old h).2.2.2) rfl (fun b77 => ?_)
            refine wpl_on rfl rfl ?_
            refine wpl_q (q_pure rfl) rfl ?_
            refine wpl_q (q_pure rfl) rfl ?_
            refine wpl_nil ?_
            refine ex_then ?_
            refine wpc_cond rfl (fun hc79 => ?_) (fun hc79 => ?_)
            ·
             have hdd : ¬ ((hs.getD i Hop.z).ix = (hs2.getD i Hop.z).ix ∧ (hs.getD i Hop.z).chs = (hs2.getD i Hop.z).chs ∧ (hs.getD i Hop.z).ps = (hs2.getD i Hop.z).ps) := by simpa only [Bool.not_eq_true', decide_eq_false_iff_not] using hc79
             have hne : ¬ Pth.eqv ⟨pf, pa, pb, pl, hv, hs⟩ ⟨pf2, pa2, pb2, pl2, hv2, hs2⟩ := fun e => hdd (e.2.2 i hil).2.2.2.2.2
             refine wpc_seq ?_
             refine wpc_region ?_
             refine wpl_q (q_pure rfl) rfl ?_
             refine wpl_nil ?_
             refine ex_then ?_
             refine wpc_ret ?_
             refine ex_block_ret ?_
             refine ex_then_ret ?_
             refine ex_then_ret ?_
             refine ex_block_ret ?_
             refine ex_then_ret ?_
             refine ret1 (.inl rfl) rfl rfl ?_
             first | exact fun w h => ⟨by rw [decide_eq_false hne], h.below⟩ | exact fun w h => ⟨by rw [decide_eq_true hR], h.below⟩
            ·
             have hd79 : (hs.getD i Hop.z).ix = (hs2.getD i Hop.z).ix ∧ (hs.getD i Hop.z).chs = (hs2.getD i Hop.z).chs ∧ (hs.getD i Hop.z).ps = (hs2.getD i Hop.z).ps := by simpa only [Bool.not_eq_false', decide_eq_true_eq] using hc79
             have hok : Hop.eqv (hs.getD i Hop.z) (hs2.getD i Hop.z) := ⟨hd44, hd51, hd58, hd65, hd72, hd79⟩
             refine wpc_skip ?_
             refine ex_block ?_
             refine ex_then ?_
             refine wpc_region ?_
             refine wpl_q (q_pure rfl) rfl ?_
             refine wpl_q (q_addN (b := 1) rfl rfl (by first | omega | (simp only [maxLen]; omega) | (simp only [List.length_append, List.length_cons, List.length_nil, List.length_take, maxLen]; omega) | (simp only [List.length_append, List.length_cons, List.length_nil, List.length_take]; omega))) rfl ?_
             refine wpl_q (q_pure rfl) rfl ?_
             refine wpl_nil ?_
             refine ex_again ⟨i + 1, ⟨by show i + 1 ≤ hs.length; omega, fun j hj => by rcases Nat.lt_or_ge j i with h | h; exact hi1 j h; obtain rfl : j = i := (by have hj : j < i + 1 := hj; omega); exact hok⟩⟩ ?_ ?_ ?_
             ·
              exact (by repeat (first | exact trivial | refine ⟨rfl, ?_⟩))
             ·
              exact fun w h => h.sel
             ·
              (show hs.length - (i + 1) < hs.length - i); omega
     ·
      simp only [decide_eq_false_iff_not] at hc26
      obtain rfl : i = hs.length := by omega
      have hR : Pth.eqv ⟨pf, pa, pb, pl, hv, hs⟩ ⟨pf2, pa2, pb2, pl2, hv2, hs2⟩ := ⟨hpx, hl, hi1⟩
      refine wpc_exit ?_
      refine ex_then_exit ?_
      refine ex_then_exit ?_
      refine ex_block_hit ?_
      refine ex_then ?_
      refine wpc_seq ?_
      refine wpc_region ?_
      refine wpl_q (q_pure rfl) rfl ?_
      refine wpl_nil ?_
      refine ex_then ?_
      refine wpc_ret ?_
      refine ret1 (.inl rfl) rfl rfl ?_
      first | exact fun w h => ⟨by rw [decide_eq_false hne], h.below⟩ | exact fun w h => ⟨by rw [decide_eq_true hR], h.below⟩

end Go.Proofs.YtjpfhkjmjnjggaaDoor

namespace Go.Proofs.YtjpfhkjmjnjggaaDoor
set_option linter.unusedSimpArgs false
set_option linter.unusedVariables false
open Go Go.PL Go.RowKit

instance lenC_pthz : LenC Pth.z.c 5 := ⟨rfl⟩
def hopsF (qs : List Hop) : Fact := ⟨fun r => ∀ h ∈ qs, h.seen r, fun _ _ hr h q hq => (h q hq).mono hr⟩
theorem hopsF_at {w0 w : World} {Ln : List Nat} {M : List Ent} {S : List Fact} (h : Mem w0 Ln M S w) {qs : List Hop} (hs : hopsF qs ∈ S) : ∀ q ∈ qs, q.seen w.cell? := h.fact hs
/-- The copy of a hop with other handles. -/
def Hop.re (h : Hop) (x : Value × Value) : Hop := { h with cv := x.1, pv := x.2 }
theorem Hop.re_set (h : Hop) (x : Value × Value) : h.c.take 21 ++ [.int .i64 h.ix, x.1, x.2] ++ h.c.drop (21 + 3) = (h.re x).c := by
  have e : h.c = (.int .u32 (h.sy.toNat : Int) :: .int .u8 (h.cnt.toNat : Int) :: .int .u8 (h.fl.toNat : Int) :: .int .u32 (h.to.toNat : Int) :: (v8s h.root.1 ++ [.int .i64 h.ht])) ++ [.int .i64 h.ix, h.cv, h.pv] := by simp [Hop.c]
  have l : (.int .u32 (h.sy.toNat : Int) :: .int .u8 (h.cnt.toNat : Int) :: .int .u8 (h.fl.toNat : Int) :: .int .u32 (h.to.toNat : Int) :: (v8s h.root.1 ++ [Value.int .i64 h.ht])).length = 21 := by simp [v8s_length, h.root.2]
  rw [e, List.take_left' l, List.drop_of_length_le (by rw [List.length_append, l]; exact Nat.le_refl _)]
  simp [Hop.c, Hop.re]
theorem twin_fact {r : Rd} {qs : List Hop} {h : Hop} {x : Value × Value} (h1 : ∀ q ∈ qs, q.seen r) (h2 : Seen r x.1 h.chs.length 16 (v8s h.chs.flatten)) (h3 : Seen r x.2 h.ps.length 16 (v8s h.ps.flatten)) (ha : ∀ y ∈ h.chs, y.length = 16) (hb : ∀ y ∈ h.ps, y.length = 16) : ∀ q ∈ qs ++ [h.re x], q.seen r := fun q hq => by
  rcases List.mem_append.1 hq with hq | hq
  · exact h1 q hq
  · rw [List.mem_singleton] at hq; subst hq
    exact ⟨h2, ha, h3, hb⟩
theorem eqv_re (h : Hop) (x : Value × Value) : h.eqv (h.re x) := ⟨rfl, rfl, rfl, rfl, ⟨rfl, rfl⟩, rfl, rfl, rfl⟩
theorem getD_app {qs : List Hop} {a : Hop} {i : Nat} (h : qs.length = i) : (qs ++ [a]).getD i Hop.z = a := by
  rw [List.getD_eq_getElem?_getD, List.getElem?_append_right (by omega), h, Nat.sub_self]; rfl
theorem getD_left {qs : List Hop} {a : Hop} {i j : Nat} (h : qs.length = i) (hj : j < i) : (qs ++ [a]).getD j Hop.z = qs.getD j Hop.z := by
  rw [List.getD_eq_getElem?_getD, List.getD_eq_getElem?_getD, List.getElem?_append_left (by omega)]
theorem hcs_snoc (qs : List Hop) (a : Hop) : hcs qs ++ a.c = hcs (qs ++ [a]) := cat_snoc Hop.c qs a
theorem built_pre (f : UInt8) (a b : UInt64) (n : Int) : Tryd.prog.built 29 [(0, .agg (pfL f a b n).toArray)] = some #[.int .u8 (f.toNat : Int), .int .u64 (a.toNat : Int), .int .u64 (b.toNat : Int), .int .i64 n, .slice none 0 0] := by kernel_rfl

set_option maxRecDepth 100000 in
theorem refTwin42 (p : Pth) (w : World) (hp : p.seen w.cell?) (hlim : SmP p) (hn35 : p.hs.length ≤ 35) :
    Calls Tryd.prog 12 [.agg p.c.toArray].toArray w (GivesP w (fun x : Value × List Hop => SV x.1 p.hs.length ∧ HsEqv p.hs x.2) (fun x => .agg (Pth.mk p.pf p.pa p.pb p.pl x.1 x.2).c.toArray) (fun x => [.row x.1 p.hs.length 68 24 (hcs x.2)]) (fun x => [hopsF x.2])) := by
  obtain ⟨pf, pa, pb, pl, hv, hs⟩ := p
  have hh : Seen w.cell? hv hs.length 24 (hcs hs) := hp.1
  have hq : ∀ h ∈ hs, h.seen w.cell? := hp.2
  have svh := hh.sv
  have lh := svh.le
  simp only [maxLen] at lh
  have hn35 : hs.length ≤ 35 := hn35
  refine enter (m := 32) (R := Mem w [] [] []) Tryd.func12 rfl rfl (Nat.le_of_ble_eq_true rfl) (Mem.start w) ?_
  refine wpc_seq ?_
  refine wpc_region ?_
  refine wpl_t (t_box rfl [.int .u8 (pf.toNat : Int), .int .u64 (pa.toNat : Int), .int .u64 (pb.toNat : Int), .int .i64 pl, hv] rfl) rfl (fun b1 => ?_)
  refine wpl_t (t_alloc Tryd.ti29 Pth.z.c rfl) rfl (fun b2 => ?_)
  refine wpl_nil ?_
  refine ex_then ?_
  refine wpc_seq ?_
  refine wpc_region ?_
  refine wpl_q (q_field Tryd.underlying29 rfl Tryd.ti26 rfl rfl _ rfl) rfl ?_
  refine wpl_q (q_ldP Tryd.underlying26 rfl Tryd.ti26 rfl (pfL pf pa pb pl) rfl (by first | (with_reducible exact key_len _ _ (by (first | with_reducible assumption | exact L16.h))) | with_reducible rfl | (simp only [v8s_length, v32s_length, vis_length, vns_length, v64s_length, List.length_replicate]; first | done | with_reducible assumption | omega) | (rw [v8s_length]; (first | with_reducible assumption | exact L16.h)) | rfl)) rfl ?_
  refine wpl_q (q_build (cs := [.int .u8 (pf.toNat : Int), .int .u64 (pa.toNat : Int), .int .u64 (pb.toNat : Int), .int .i64 pl, .slice none 0 0]) rfl (built_pre pf pa pb pl)) rfl ?_
  refine wpl_t (t_alloc Tryd.ti29 Pth.z.c rfl) rfl (fun b3 => ?_)
  refine wpl_t0 (t_stA Tryd.ti29 rfl rfl LenC.h OneC.h LenC.h) (fun _ => ?_)
  refine wpl_nil ?_
  refine ex_then ?_
  refine wpc_seq ?_
  refine wpc_seq ?_
  refine wpc_region ?_
  refine wpl_q (q_pure rfl) rfl ?_
  refine wpl_nil ?_
  refine ex_then ?_
  refine wpc_block ?_
  refine wpc_loopc (ι := { x : Nat × Value × List Hop // (x.1 ≤ hs.length) ∧ (SV x.2.1 x.1) ∧ (x.2.2.length = x.1) ∧ (∀ j, j < x.1 → Hop.eqv (hs.getD j Hop.z) (x.2.2.getD j Hop.z)) }) [(1, _), (2, _), (3, _)] (fun x Lc => (4, .int .i64 ((x.1.1 : Nat) : Int)) :: Lc) (fun x => Mem w [] [.row x.1.2.1 x.1.1 68 24 (hcs x.1.2.2), .blk b3 29 [.int .u8 (pf.toNat : Int), .int .u64 (pa.toNat : Int), .int .u64 (pb.toNat : Int), .int .i64 pl, x.1.2.1], .blk b2 29 Pth.z.c, .blk b1 29 [.int .u8 (pf.toNat : Int), .int .u64 (pa.toNat : Int), .int .u64 (pb.toNat : Int), .int .i64 pl, hv]] [hopsF x.1.2.2]) (fun x => hs.length - x.1.1) ⟨(0, .slice none 0 0, []), ⟨Nat.zero_le _, SV.nil, rfl, fun j hj => by omega⟩⟩ (by repeat (first | exact trivial | refine ⟨rfl, ?_⟩)) ?_ ?_
  ·
   exact fun w h => Mem.imp (h.nilRow 68 24) (fun r _ t ht => by rw [List.mem_singleton] at ht; subst ht; exact fun q hq => by cases hq)
  ·
   rintro ⟨⟨i, v, qs⟩, ⟨hi0, hi1, hi2, hi3⟩⟩; try dsimp only
   have hi0 : i ≤ hs.length := hi0; have hi1 : SV v i := hi1; have hi2 : qs.length = i := hi2; have hi3 : ∀ j, j < i → Hop.eqv (hs.getD j Hop.z) (qs.getD j Hop.z) := hi3
   refine wpc_seq ?_
   refine wpc_seq ?_
   refine wpc_region ?_
   refine wpl_q (q_pure rfl) rfl ?_
   refine wpl_q (q_field Tryd.underlying29 rfl Tryd.ti27 rfl rfl _ rfl) rfl ?_
   refine wpl_q (q_ld Tryd.underlying27 rfl rfl rfl) rfl ?_
   refine wpl_q (q_lenW Tryd.underlying27 rfl (by first | assumption | exact SV.nil | exact SV.slv (by assumption) (by omega) (by omega) | exact arv_sv (by first | decide | (simp only [maxLen]; omega)))) rfl ?_
   refine wpl_q (q_pure rfl) rfl ?_
   refine wpl_nil ?_
   refine ex_then ?_
   refine wpc_cond rfl (fun hc13 => ?_) (fun hc13 => ?_)
   ·
    simp only [decide_eq_true_eq] at hc13
    have hil : i < hs.length := by omega
    have hsi := hq _ (getD_memO hil)
    haveI := hsi.sv.one
    have hlm : (hs.getD i Hop.z).chs.length ≤ 100 ∧ (hs.getD i Hop.z).ps.length ≤ 100 := hlim _ (getD_memO hil)
    refine wpc_skip ?_
    refine ex_then ?_
    refine wpc_seq ?_
    refine wpc_block ?_
    refine wpc_seq ?_
    refine wpc_region ?_
    refine wpl_q (q_field Tryd.underlying29 rfl Tryd.ti27 rfl rfl _ rfl) rfl ?_
    refine wpl_q (q_ld Tryd.underlying27 rfl rfl rfl) rfl ?_
    refine wpl_q (q_pure rfl) rfl ?_
    refine wpl_q (q_idxW Tryd.underlying27 Tryd.ti68 rfl rfl (by first | assumption | exact SV.nil | exact SV.slv (by assumption) (by omega) (by omega) | exact arv_sv (by first | decide | (simp only [maxLen]; omega))) (by first | omega | (simp only [maxLen]; omega) | (simp only [List.length_append, List.length_cons, List.length_nil, List.length_take, maxLen]; omega) | (simp only [List.length_append, List.length_cons, List.length_nil, List.length_take]; omega))) rfl ?_
    refine wpl_q (q_ldWN Tryd.underlying68 rfl Tryd.ti68 rfl (fun w h => h.seen_old hh) (hs.getD i Hop.z).c (cat_part Hop.c_length Hop.z hil) (Hop.c_length _)) rfl ?_
    refine wpl_t (t_alloc Tryd.ti68 Hop.z.c rfl) rfl (fun b5 => ?_)
    refine wpl_t0 (t_stA Tryd.ti68 rfl rfl LenC.h OneC.h LenC.h) (fun _ => ?_)
    refine wpl_nil ?_
    refine ex_then ?_
    refine wpc_seq ?_
    refine wpc_region ?_
    refine wpl_q (q_field Tryd.underlying68 rfl Tryd.ti66 rfl rfl _ rfl) rfl ?_
    refine wpl_q (q_ldP Tryd.underlying66 rfl Tryd.ti66 rfl (hs.getD i Hop.z).sig (Hop.c_sig _) rfl) rfl ?_
    refine wpl_tp (t_callP2 Tryd.hb37 rfl fun w h => refTwin7 (hs.getD i Hop.z).cv (hs.getD i Hop.z).pv (hs.getD i Hop.z).chs (hs.getD i Hop.z).ps (hs.getD i Hop.z).ix w (hsi.old h).1 (hsi.old h).2.1 (hsi.old h).2.2.1 (hsi.old h).2.2.2 (by omega) (by omega)) rfl (fun b23 p23 => ?_)
    haveI : OneC (((hs.getD i Hop.z).re b23)).c := Hop.sv.one ⟨p23.1, p23.2⟩
    refine wpl_q (q_field Tryd.underlying68 rfl Tryd.ti66 rfl rfl _ rfl) rfl ?_
    refine wpl_t0 (t_stP Tryd.ti66 rfl rfl (by first | (with_reducible exact key_len _ _ (by (first | with_reducible assumption | exact L16.h))) | with_reducible rfl | (simp only [v8s_length, v32s_length, vis_length, vns_length, v64s_length, List.length_replicate]; first | done | with_reducible assumption | omega) | (rw [v8s_length]; (first | with_reducible assumption | exact L16.h)) | rfl) (OneC.cons rfl (OneC.cons (SV.one p23.1) (OneC.cons (SV.one p23.2) oneC_nil))).h (by rw [Hop.c_length]; exact Nat.le_refl _) ((hs.getD i Hop.z).re b23).c (Hop.re_set _ _)) (fun _ => ?_)
    refine wpl_nil ?_
    refine ex_then ?_
    refine wpc_region ?_
    refine wpl_q (q_field Tryd.underlying29 rfl Tryd.ti27 rfl rfl _ rfl) rfl ?_
    refine wpl_q (q_ld Tryd.underlying27 rfl rfl rfl) rfl ?_
    refine wpl_q (q_ldN Tryd.underlying68 rfl Tryd.ti68 rfl LenC.h) rfl ?_
    refine wpl_tp (t_bsG [.agg ((hs.getD i Hop.z).re b23).c.toArray] ((hs.getD i Hop.z).re b23).c Tryd.underlying27 Tryd.ti68 rfl (by decide) rfl (by decide) (by decide) rfl (by intro v hv; rw [List.mem_singleton] at hv; subst hv; exact Hop.c_length _) (List.append_nil _)) rfl (fun b28 p28 => ?_)
    refine wpl_tp (t_apW Tryd.underlying27 Tryd.ti68 rfl (by decide) rfl rfl (fun w h => by first | exact h.seenV | exact h.seenA (by first | decide | (simp only [maxLen]; omega)) (by first | (with_reducible exact key_len _ _ (by (first | with_reducible assumption | exact L16.h))) | with_reducible rfl | (simp only [v8s_length, v32s_length, vis_length, vns_length, v64s_length, List.length_replicate]; first | done | with_reducible assumption | omega) | (rw [v8s_length]; (first | with_reducible assumption | exact L16.h)) | rfl) | exact h.seen_old (by assumption) | exact h.seen_oldL (by assumption) (by assumption) | exact h.seen_fact (by repeat (first | exact List.mem_cons_self .. | apply List.mem_cons_of_mem))) OneC.h (by first | omega | (simp only [maxLen]; omega) | (simp only [List.length_append, List.length_cons, List.length_nil, List.length_take, maxLen]; omega) | (simp only [List.length_append, List.length_cons, List.length_nil, List.length_take]; omega)) (by first | omega | (simp only [maxLen]; omega) | (simp only [List.length_append, List.length_cons, List.length_nil, List.length_take, maxLen]; omega) | (simp only [List.length_append, List.length_cons, List.length_nil, List.length_take]; omega)) (hcs (qs ++ [((hs.getD i Hop.z).re b23)])) (hcs_snoc _ _)) rfl (fun b29 p29 => ?_)
    refine wpl_q (q_field Tryd.underlying29 rfl Tryd.ti27 rfl rfl _ rfl) rfl ?_
    refine wpl_t0 (t_st1 Tryd.ti27 rfl rfl (SV.one (by first | assumption | exact SV.nil | exact SV.slv (by assumption) (by omega) (by omega) | exact arv_sv (by first | decide | (simp only [maxLen]; omega)))) (by first | decide | omega | exact Nat.zero_lt_one | (simp; omega) | (simp; done) | (simp only [v8s_length, v32s_length, vis_length, vns_length, v64s_length]; omega)) [.int .u8 (pf.toNat : Int), .int .u64 (pa.toNat : Int), .int .u64 (pb.toNat : Int), .int .i64 pl, b29] rfl) (fun _ => ?_)
    refine wpl_nil ?_
    refine ex_block ?_
    refine ex_then ?_
    refine wpc_region ?_
    refine wpl_q (q_pure rfl) rfl ?_
    refine wpl_q (q_addN (b := 1) rfl rfl (by first | omega | (simp only [maxLen]; omega) | (simp only [List.length_append, List.length_cons, List.length_nil, List.length_take, maxLen]; omega) | (simp only [List.length_append, List.length_cons, List.length_nil, List.length_take]; omega))) rfl ?_
    refine wpl_q (q_pure rfl) rfl ?_
    refine wpl_nil ?_
    refine ex_again ⟨(i + 1, b29, qs ++ [((hs.getD i Hop.z).re b23)]), ⟨by show i + 1 ≤ hs.length; omega, p29, by show (qs ++ [((hs.getD i Hop.z).re b23)]).length = i + 1; rw [List.length_append, hi2]; rfl, fun j hj => by
      dsimp only
      rcases Nat.lt_or_ge j i with h | h
      · rw [getD_left hi2 h]; exact hi3 j h
      · obtain rfl : j = i := (by have hj : j < i + 1 := hj; omega)
        rw [getD_app hi2]; exact eqv_re _ _⟩⟩ ?_ ?_ ?_
    ·
     exact (by repeat (first | exact trivial | refine ⟨rfl, ?_⟩))
    ·
     exact fun w h => by
       have h1 := h.sel (M' := .row b23.1 (hs.getD i Hop.z).chs.length 61 16 (v8s (hs.getD i Hop.z).chs.flatten) :: .row b23.2 (hs.getD i Hop.z).ps.length 61 16 (v8s (hs.getD i Hop.z).ps.flatten) :: [.row b29 (i + 1) 68 24 (hcs (qs ++ [((hs.getD i Hop.z).re b23)])), .blk b3 29 [.int .u8 (pf.toNat : Int), .int .u64 (pa.toNat : Int), .int .u64 (pb.toNat : Int), .int .i64 pl, b29], .blk b2 29 Pth.z.c, .blk b1 29 [.int .u8 (pf.toNat : Int), .int .u64 (pa.toNat : Int), .int .u64 (pb.toNat : Int), .int .i64 pl, hv]])
       have h2 := (h1.freezeRow .here).freezeRow .here
       exact h2.imp fun r hr t ht => by
         rw [List.mem_singleton] at ht
         subst ht
         exact twin_fact (hr (hopsF qs) (by simp)) (hr (Go.PL.seen b23.1 (hs.getD i Hop.z).chs.length 16 (v8s (hs.getD i Hop.z).chs.flatten)) (by simp)) (hr (Go.PL.seen b23.2 (hs.getD i Hop.z).ps.length 16 (v8s (hs.getD i Hop.z).ps.flatten)) (by simp)) hsi.2.1 hsi.2.2.2
    ·
     (show hs.length - (i + 1) < hs.length - i); omega
   ·
    simp only [decide_eq_false_iff_not] at hc13
    obtain rfl : i = hs.length := by omega
    have svv := hi1
    haveI : OneC [.int .u8 (pf.toNat : Int), .int .u64 (pa.toNat : Int), .int .u64 (pb.toNat : Int), .int .i64 pl, v] := Pth.sv.one (p := ⟨pf, pa, pb, pl, v, hs⟩) svv
    refine wpc_exit ?_
    refine ex_then_exit ?_
    refine ex_then_exit ?_
    refine ex_block_hit ?_
    refine ex_then ?_
    refine wpc_seq ?_
    refine wpc_region ?_
    refine wpl_q (q_ldN Tryd.underlying29 rfl Tryd.ti29 rfl LenC.h) rfl ?_
    refine wpl_t0 (t_stA Tryd.ti29 rfl rfl LenC.h OneC.h LenC.h) (fun _ => ?_)
    refine wpl_nil ?_
    refine ex_then ?_
    refine wpc_ret ?_
    refine retv1 (.inl rfl) rfl (rv_agg Tryd.underlying29 rfl Tryd.ti29 rfl (fun w h => h.atB) (by first | (with_reducible exact key_len _ _ (by (first | with_reducible assumption | exact L16.h))) | with_reducible rfl | (simp only [v8s_length, v32s_length, vis_length, vns_length, v64s_length, List.length_replicate]; first | done | with_reducible assumption | omega) | (rw [v8s_length]; (first | with_reducible assumption | exact L16.h)) | rfl)) ?_
    exact fun w h => ⟨(v, qs), ⟨svv, hi2.symm, hi3⟩, rfl, h.below, h.made (by repeat (first | exact Sub.nil | exact Sub.refl _ | with_reducible refine Sub.keep ?_ | refine Sub.drop ?_)) (by repeat (first | exact Sub.nil | exact Sub.refl _ | with_reducible refine Sub.keep ?_ | refine Sub.drop ?_))⟩

end Go.Proofs.YtjpfhkjmjnjggaaDoor

namespace Go.Proofs.YtjpfhkjmjnjggaaDoor
set_option linter.unusedSimpArgs false
set_option linter.unusedVariables false
open Go Go.PL Go.RowKit
set_option maxRecDepth 100000 in
theorem systems (p : Pth) (w : World) (hp : p.seen w.cell?)  :
    Calls Tryd.prog 15 [.agg p.c.toArray].toArray w (GivesP w (fun v => SV v (sysV p).length) (fun v => .tuple #[v, .int .i64 (sysE p)]) (fun v => [.row v (sysV p).length 49 1 (v32s (sysV p))]) (fun _ => [])) := by
  obtain ⟨pf, pa, pb, pl, hv, hs⟩ := p
  have hh : Seen w.cell? hv hs.length 24 (hcs hs) := hp.1
  have svh := hh.sv
  have lh := svh.le
  simp only [maxLen] at lh
  refine enterN (m := 31) (R := Mem w [] [] []) Tryd.func15 rfl rfl (Nat.le_of_ble_eq_true rfl) (Mem.start w) ?_
  refine wpc_seq ?_
  refine wpc_region ?_
  refine wpl_t (t_box rfl [.int .u8 (pf.toNat : Int), .int .u64 (pa.toNat : Int), .int .u64 (pb.toNat : Int), .int .i64 pl, hv] rfl) rfl (fun b1 => ?_)
  refine wpl_q (q_pure rfl) rfl ?_
  refine wpl_q (q_pure rfl) rfl ?_
  refine wpl_nil ?_
  refine ex_then ?_
  refine wpc_seq ?_
  refine wpc_region ?_
  refine wpl_q (q_ldN Tryd.underlying29 rfl Tryd.ti29 rfl LenC.h) rfl ?_
  refine wpl_t (t_pur Tryd.hb17 rfl fun w h => hopCheck ⟨pf, pa, pb, pl, hv, hs⟩ w (hp.old h)) rfl (fun b9 => ?_)
  refine wpl_q (q_pure rfl) rfl ?_
  refine wpl_nil ?_
  refine ex_then ?_
  refine wpc_seq ?_
  refine wpc_seq ?_
  refine wpc_region ?_
  refine wpl_q (q_pure rfl) rfl ?_
  refine wpl_q (q_pure rfl) rfl ?_
  refine wpl_nil ?_
  refine ex_then ?_
  refine wpc_cond rfl (fun hc11 => ?_) (fun hc11 => ?_)
  ·
   have hk : chkP ⟨pf, pa, pb, pl, hv, hs⟩ ≠ 0 := by simpa using hc11
   have hE : sysE ⟨pf, pa, pb, pl, hv, hs⟩ = chkP ⟨pf, pa, pb, pl, hv, hs⟩ := sysE_chk hk
   have hE0 : sysE ⟨pf, pa, pb, pl, hv, hs⟩ ≠ 0 := by rw [hE]; exact hk
   refine wpc_seq ?_
   refine wpc_region ?_
   refine wpl_q (q_pure rfl) rfl ?_
   refine wpl_q (q_pure rfl) rfl ?_
   refine wpl_q (q_pure rfl) rfl ?_
   refine wpl_nil ?_
   refine ex_then ?_
   refine wpc_ret ?_
   refine ex_then_ret ?_
   refine ex_mark0 (.inl rfl) ?_
   refine ret2 (.inl rfl) rfl rfl rfl ?_
   exact fun w h => ⟨.slice none 0 0, by rw [sysV_no hE0]; exact SV.nil, by rw [hE], h.below, (nilRowS h hE0).made SubC.h .nil⟩
  ·
   have hk0 : chkP ⟨pf, pa, pb, pl, hv, hs⟩ = 0 := by simpa using hc11
   have hn30 : hs.length ≤ 30 := (chk_inv hk0).1
   have hsv : ∀ h ∈ hs, h.sv := fun h hh1 => (hp.2 h hh1).sv
   refine wpc_skip ?_
   refine ex_then ?_
   refine wpc_seq ?_
   refine wpc_region ?_
   refine wpl_t (t_alloc Tryd.ti38 [.slice none 0 0] rfl) rfl (fun b5 => ?_)
   refine wpl_nil ?_
   refine ex_then ?_
   refine wpc_seq ?_
   refine wpc_seq ?_
   refine wpc_region ?_
   refine wpl_q (q_field Tryd.underlying29 rfl Tryd.ti27 rfl rfl _ rfl) rfl ?_
   refine wpl_q (q_ld Tryd.underlying27 rfl rfl rfl) rfl ?_
   refine wpl_t (t_call (N := fun pq => [.blk pq 27 [hv]]) (T := fun _ => []) Tryd.hb40 rfl fun w h => backward hv hs.length w svh) rfl (fun b15 => ?_)
   refine wpl_nil ?_
   refine ex_then ?_
   refine wpc_block ?_
   refine wpc_mono (R' := Mem w [] ([.blk b15 27 [hv]] ++ (fun s : Value × List UInt32 => [.blk b5 38 [s.1], .row s.1 s.2.length 49 1 (v32s s.2), .blk b1 29 [.int .u8 (pf.toNat : Int), .int .u64 (pa.toNat : Int), .int .u64 (pb.toNat : Int), .int .i64 pl, hv]]) (.slice none 0 0, [])) []) (fun w1 h => (show Mem w [] [.row (.slice none 0 0) 0 49 1 [], .blk b15 27 [hv], .blk b5 38 [.slice none 0 0], .blk b1 29 [.int .u8 (pf.toNat : Int), .int .u64 (pa.toNat : Int), .int .u64 (pb.toNat : Int), .int .i64 pl, hv]] [] w1 from h.nilRow 49 1).sel (M' := [.blk b15 27 [hv], .blk b5 38 [.slice none 0 0], .row (.slice none 0 0) 0 49 1 [], .blk b1 29 [.int .u8 (pf.toNat : Int), .int .u64 (pa.toNat : Int), .int .u64 (pb.toNat : Int), .int .i64 pl, hv]])) ?_
   refine wpc_rangeS (encs := encBk) (At := AtBk) (Inv := (fun w => Seen w.cell? hv (hopsS hs hsv).length 24 (hcS (hopsS hs hsv)))) (xs := (backL (hopsS hs hsv))) (ρ := Unit) (β := Nat) [.blk b15 27 [hv]] (fun s : Value × List UInt32 => [.blk b5 38 [s.1], .row s.1 s.2.length 49 1 (v32s s.2), .blk b1 29 [.int .u8 (pf.toNat : Int), .int .u64 (pa.toNat : Int), .int .u64 (pb.toNat : Int), .int .i64 pl, hv]]) (fun pre s => SV s.1 s.2.length ∧ s.2 = sysG hs pre.length) (.slice none 0 0, []) (fun _ => False) (fun _ => .ret) (fun _ => []) (fun x _ b => [.blk b 68 x.2.1.c]) (fun x i b => [(5, .pointer (some ⟨b5, 0, none⟩)), (7, .pointer (some ⟨b, 0, none⟩))]) rfl Tryd.hb59 ⟨SV.nil, rfl⟩ (fun w h k hk => by rw [show k = b15 by simpa [nums, Ent.num] using hk]; exact (h.new (.blk b15 27 [hv]) (by simp) b15 rfl).resolve_right (by simp)) (fun w h => back_it hv (hopsS hs hsv) b15 w (h.own (.blk b15 27 [hv]) (by simp))) (fun _ _ _ _ h => by rw [hopsS_cells, hopsS_len]; exact h.seen_old hh) (fun _ _ _ _ _ _ _ => trivial) (fun _ _ => rfl) (by decide) ?_ ?_ ?_ ?_
   ·
    intro l x i w1 K hK
    refine wic_region ?_
    refine wil_t (t_alloc Tryd.ti68 Hop.z.c rfl) rfl (fun b7 => ?_)
    refine wil_t0 (t_stA Tryd.ti68 rfl rfl LenC.h OneC.h LenC.h) (fun _ => ?_)
    refine wil_nil ?_
    exact fun a w hs h => hK b7 a w (hs.weaken (subs_get (by repeat (first | exact trivial | refine ⟨rfl, ?_⟩)))) h
   ·
    intro l pre x i s b w1 T hgs hpre hm hat hT
    obtain ⟨v, o⟩ := s
    obtain ⟨hg1, hg2⟩ := hgs
    have hg1 : SV v o.length := hg1
    have hg2 : o = sysG hs pre.length := hg2
    obtain ⟨hpl, _⟩ := back_get hpre
    rw [hopsS_len] at hpl
    have hsl := sysG_len hs pre.length
    rw [← hg2] at hsl
    have hcl := x.2.1.cnt.toNat_lt
    show WPCI _ _ _ _ (Mem w1 (nums [.blk b 68 x.2.1.c, .blk b5 38 [v], .row v o.length 49 1 (v32s o), .blk b1 29 [.int .u8 (pf.toNat : Int), .int .u64 (pa.toNat : Int), .int .u64 (pb.toNat : Int), .int .i64 pl, hv]]) [.blk b 68 x.2.1.c, .blk b5 38 [v], .row v o.length 49 1 (v32s o), .blk b1 29 [.int .u8 (pf.toNat : Int), .int .u64 (pa.toNat : Int), .int .u64 (pb.toNat : Int), .int .i64 pl, hv]] []) _ _
    refine wic_block ?_
    refine wic_draw 8 (by kernel_rfl) (fun _ h => h.drew) ?_
    refine wid_q 0 rfl (by kernel_rfl) trivial (q_ld Tryd.underlying38 rfl rfl rfl) rfl (fun _ h => h) ?_
    refine wid_p 1 rfl (by kernel_rfl) trivial (q_field Tryd.underlying68 rfl Tryd.ti49 rfl rfl _ rfl) rfl sk0 ?_
    refine wid_qB 2 [3, 7, 8] rfl (by kernel_rfl) trivial (q_ld Tryd.underlying49 rfl rfl (Hop.c_sy _)) rfl (fun _ h => h) ?_
    refine wid_p 4 rfl (by kernel_rfl) trivial (q_field Tryd.underlying68 rfl Tryd.ti5 rfl rfl _ rfl) rfl sk0 ?_
    refine wid_qB 5 [6, 7, 8] rfl (by kernel_rfl) trivial (q_ld Tryd.underlying5 rfl rfl (Hop.c_cnt _)) rfl (fun _ h => h) ?_
    refine wid_p 6 rfl (by kernel_rfl) trivial (q8_int Tryd.underlying5 Tryd.underlying3 rfl) rfl sk0 ?_
    refine wid_tp 3 rfl (by kernel_rfl) trivial (t_bsV (v32s [_]) Tryd.underlying38 Tryd.ti49 rfl rfl (by decide) (by decide) rfl (v32s_one _)) rfl (fun _ => (fun w h => .inr (h.sub SubC.h SubC.h))) (fun b21 p21 => ?_)
    refine wid_tp 7 rfl (by kernel_rfl) trivial (t_callP1 Tryd.hb41 rfl fun w h => repeat_ b21 x.2.1.sy x.2.1.cnt.toNat w h.seenV (by omega)) rfl (fun _ => (fun w h => .inr (h.sub SubC.h SubC.h))) (fun b25 p25 => ?_)
    refine wid_tp 8 rfl (by kernel_rfl) trivial (t_apW Tryd.underlying38 Tryd.ti49 rfl (by decide) rfl rfl (fun w h => by first | exact h.seenV | exact h.seenA (by first | decide | (simp only [maxLen]; omega)) (by first | (with_reducible exact key_len _ _ (by (first | with_reducible assumption | exact L16.h))) | with_reducible rfl | (simp only [v8s_length, v32s_length, vis_length, vns_length, v64s_length, List.length_replicate]; first | done | with_reducible assumption | omega) | (rw [v8s_length]; (first | with_reducible assumption | exact L16.h)) | rfl) | exact h.seen_old (by assumption) | exact h.seen_oldL (by assumption) (by assumption) | exact h.seen_fact (by repeat (first | exact List.mem_cons_self .. | apply List.mem_cons_of_mem))) (v32s_one _) (by first | omega | (simp only [maxLen]; omega) | (simp only [List.length_append, List.length_cons, List.length_nil, List.length_take, maxLen]; omega) | (simp only [List.length_append, List.length_cons, List.length_nil, List.length_take]; omega)) (by first | omega | (simp only [maxLen]; omega) | (simp only [List.length_append, List.length_cons, List.length_nil, List.length_take, maxLen]; omega) | (simp only [List.length_append, List.length_cons, List.length_nil, List.length_take]; omega)) (v32s (o ++ (List.replicate x.2.1.cnt.toNat x.2.1.sy))) (v32s_append _ _).symm) rfl (fun _ => skk rfl) (fun b26 p26 => ?_)
    refine wid_t0 9 rfl (by kernel_rfl) trivial (t_st1 Tryd.ti38 rfl rfl (SV.one p26) (by first | decide | omega | exact Nat.zero_lt_one | (simp; omega) | (simp; done) | (simp only [v8s_length, v32s_length, vis_length, vns_length, v64s_length]; omega)) [b26] rfl) (fun _ => skk rfl) (fun _ => ?_)
    refine wid_done (by kernel_rfl) ?_
    refine ex_block ?_
    refine ex_roundN ?_
    exact fun w h => ⟨(b26, o ++ (List.replicate x.2.1.cnt.toNat x.2.1.sy)), ⟨by show SV b26 (o ++ (List.replicate x.2.1.cnt.toNat x.2.1.sy)).length; rw [List.length_append, List.length_replicate]; exact p26, by show o ++ (List.replicate x.2.1.cnt.toNat x.2.1.sy) = _; rw [hg2]; exact sys_next hpre⟩, by
      show Mem _ _ [.blk b5 38 [b26], .row b26 (o ++ (List.replicate x.2.1.cnt.toNat x.2.1.sy)).length 49 1 (v32s (o ++ (List.replicate x.2.1.cnt.toNat x.2.1.sy))), .blk b1 29 [.int .u8 (pf.toNat : Int), .int .u64 (pa.toNat : Int), .int .u64 (pb.toNat : Int), .int .i64 pl, hv]] [] w
      rw [List.length_append, List.length_replicate]
      exact h.sel⟩
   ·
    intro D s hgs
    obtain ⟨v, o⟩ := s
    obtain ⟨hg1, hg2⟩ := hgs
    have hg1 : SV v o.length := hg1
    have hg3 : o = sysG hs (backL (hopsS hs hsv)).length := hg2
    rw [backL_len, hopsS_len] at hg3
    have hg2 : o = sysR hs := hg3
    refine ex_weaken (R1 := Mem w [] [.obj D (.deferred (some [])), .blk b5 38 [v], .row v o.length 49 1 (v32s o), .blk b1 29 [.int .u8 (pf.toNat : Int), .int .u64 (pa.toNat : Int), .int .u64 (pb.toNat : Int), .int .i64 pl, hv]] []) (L1 := [(5, .pointer (some ⟨b5, 0, none⟩))]) (by repeat (first | exact trivial | refine ⟨rfl, ?_⟩)) (fun w h => h) ?_
    refine ex_block ?_
    refine ex_then ?_
    refine wpc_seq ?_
    refine wpc_seq ?_
    refine wpc_region ?_
    refine wpl_q (q_ld Tryd.underlying38 rfl rfl rfl) rfl ?_
    refine wpl_q (q_lenW Tryd.underlying38 rfl (by first | assumption | exact SV.nil | exact SV.slv (by assumption) (by omega) (by omega) | exact arv_sv (by first | decide | (simp only [maxLen]; omega)))) rfl ?_
    refine wpl_q (q_pure rfl) rfl ?_
    refine wpl_nil ?_
    refine ex_then ?_
    refine wpc_cond rfl (fun hc29 => ?_) (fun hc29 => ?_)
    ·
     simp only [decide_eq_true_eq] at hc29
     have hmn : 30 < o.length := by omega
     have hE : sysE ⟨pf, pa, pb, pl, hv, hs⟩ = 4 := sysE_many hk0 (by show 30 < (sysR hs).length; rw [← hg2]; exact hmn)
     have hE0 : sysE ⟨pf, pa, pb, pl, hv, hs⟩ ≠ 0 := by rw [hE]; decide
     refine wpc_seq ?_
     refine wpc_region ?_
     refine wpl_q (q_pure rfl) rfl ?_
     refine wpl_q (q_pure rfl) rfl ?_
     refine wpl_nil ?_
     refine ex_then ?_
     refine wpc_ret ?_
     refine ex_then_ret ?_
     refine ex_markN (.inl rfl) .here ?_
     refine ret2 (.inl rfl) rfl rfl rfl ?_
     exact fun w h => ⟨.slice none 0 0, by rw [sysV_no hE0]; exact SV.nil, by rw [hE], h.below, (nilRowS h hE0).made SubC.h .nil⟩
    ·
     simp only [decide_eq_false_iff_not] at hc29
     have hmn : ¬ 30 < o.length := by omega
     have hE : sysE ⟨pf, pa, pb, pl, hv, hs⟩ = 0 := sysE_ok hk0 (by show ¬ 30 < (sysR hs).length; rw [← hg2]; exact hmn)
     have hVo : o = sysV ⟨pf, pa, pb, pl, hv, hs⟩ := by rw [sysV_ok hE]; exact hg2
     refine wpc_skip ?_
     refine ex_then ?_
     refine wpc_seq ?_
     refine wpc_region ?_
     refine wpl_q (q_ld Tryd.underlying38 rfl rfl rfl) rfl ?_
     refine wpl_q (q_pure rfl) rfl ?_
     refine wpl_q (q_pure rfl) rfl ?_
     refine wpl_nil ?_
     refine ex_then ?_
     refine wpc_ret ?_
     refine ex_markN (.inl rfl) .here ?_
     refine ret2 (.inl rfl) rfl rfl rfl ?_
     exact fun w h => ⟨v, hVo ▸ hg1, by rw [hE], h.below, by rw [← hVo]; exact h.made (by repeat (first | exact Sub.nil | exact Sub.refl _ | with_reducible refine Sub.keep ?_ | refine Sub.drop ?_)) .nil⟩
   ·
    intro D r hr; exact hr.elim

end Go.Proofs.YtjpfhkjmjnjggaaDoor

namespace Go.Proofs.YtjpfhkjmjnjggaaDoor
set_option linter.unusedSimpArgs false
set_option linter.unusedVariables false
open Go Go.PL Go.RowKit

abbrev tw (p : Pth) (x : Value × List Hop) : Pth := ⟨p.pf, p.pa, p.pb, p.pl, x.1, x.2⟩
theorem tw_eqv {p : Pth} {x : Value × List Hop} (h : HsEqv p.hs x.2) : p.eqv (tw p x) := ⟨⟨rfl, rfl, rfl, rfl⟩, h⟩
theorem tw_seen {p : Pth} {x : Value × List Hop} {r : Rd} (h : HsEqv p.hs x.2) (h1 : Seen r x.1 p.hs.length 24 (hcs x.2)) (h2 : ∀ q ∈ x.2, q.seen r) : (tw p x).seen r := ⟨by
  show Seen r x.1 x.2.length 24 (hcs x.2)
  rw [← h.1]; exact h1, h2⟩
theorem tw_one {p : Pth} {x : Value × List Hop} (h : SV x.1 p.hs.length) : OneC (tw p x).c := OneC.cons rfl (OneC.cons rfl (OneC.cons rfl (OneC.cons rfl (OneC.cons (SV.one h) oneC_nil))))
instance lenC_pth {p : Pth} : LenC p.c 5 := ⟨rfl⟩

set_option maxRecDepth 100000 in
theorem lawShapes (p : Pth) (i : Int) (w : World) (hp : p.seen w.cell?) (hG : Glb w) :
    Calls Tryd.prog 3 [.agg p.c.toArray, .int .i64 i].toArray w (Pur w (.bool true)) := by
  obtain ⟨pf, pa, pb, pl, hv, hs⟩ := p
  have hh : Seen w.cell? hv hs.length 24 (hcs hs) := hp.1
  have hq : ∀ h ∈ hs, h.seen w.cell? := hp.2
  have svh := hh.sv
  have lh := svh.le
  simp only [maxLen] at lh
  refine enter (m := 70) (R := Mem w [] [] []) Tryd.func3 rfl rfl (Nat.le_of_ble_eq_true rfl) (Mem.start w) ?_
  refine wpc_seq ?_
  refine wpc_region ?_
  refine wpl_t (t_box rfl [.int .u8 (pf.toNat : Int), .int .u64 (pa.toNat : Int), .int .u64 (pb.toNat : Int), .int .i64 pl, hv] rfl) rfl (fun b2 => ?_)
  refine wpl_q (q_pure rfl) rfl ?_
  refine wpl_nil ?_
  refine ex_then ?_
  refine wpc_seq ?_
  refine wpc_seq ?_
  refine wpc_region ?_
  refine wpl_q (q_ldN Tryd.underlying29 rfl Tryd.ti29 rfl LenC.h) rfl ?_
  refine wpl_t (t_pur Tryd.hb11 rfl fun w h => refGreat42 ⟨pf, pa, pb, pl, hv, hs⟩ w (hp.old h)) rfl (fun b15 => ?_)
  refine wpl_nil ?_
  refine ex_then ?_
  refine wpc_cond rfl (fun hc15 => ?_) (fun hc15 => ?_)
  ·
   try simp only [decide_eq_true_eq, decide_eq_false_iff_not, Bool.and_eq_true, Bool.or_eq_true, beq_iff_eq, bne_iff_ne, ne_eq, Bool.not_eq_true', Bool.not_eq_false', Decidable.not_not] at hc15
   refine wpc_seq ?_
   refine wpc_region ?_
   refine wpl_q (q_pure rfl) rfl ?_
   refine wpl_nil ?_
   refine ex_then ?_
   refine wpc_ret ?_
   refine ex_then_ret ?_
   refine ret1 (.inl rfl) rfl rfl ?_
   exact fun w h => ⟨rfl, h.below⟩
  ·
   have hng : ¬ GreatP ⟨pf, pa, pb, pl, hv, hs⟩ := of_decide_eq_false hc15
   obtain ⟨hsm, hn35⟩ := great_no hng
   refine wpc_skip ?_
   refine ex_then ?_
   refine wpc_seq ?_
   refine wpc_region ?_
   refine wpl_q (q_ldN Tryd.underlying29 rfl Tryd.ti29 rfl LenC.h) rfl ?_
   refine wpl_tp (t_callPF Tryd.hb12 rfl fun w h => refTwin42 ⟨pf, pa, pb, pl, hv, hs⟩ w (hp.old h) hsm hn35) rfl (fun b17 p17 => ?_)
   haveI : OneC (tw ⟨pf, pa, pb, pl, hv, hs⟩ b17).c := tw_one p17.1
   have htq := tw_eqv (p := ⟨pf, pa, pb, pl, hv, hs⟩) p17.2
   refine wpl_t (t_alloc Tryd.ti29 Pth.z.c rfl) rfl (fun b5 => ?_)
   refine wpl_t0 (t_stA Tryd.ti29 rfl rfl LenC.h OneC.h LenC.h) (fun _ => ?_)
   refine wpl_nil ?_
   refine ex_then ?_
   refine wpc_seq ?_
   refine wpc_region ?_
   refine wpl_q (q_ldN Tryd.underlying29 rfl Tryd.ti29 rfl LenC.h) rfl ?_
   refine wpl_q (q_pure rfl) rfl ?_
   refine wpl_tp (t_callP1 Tryd.hb13 rfl fun w h => hopMessage ⟨pf, pa, pb, pl, hv, hs⟩ i w (hp.old h) hsm (glob h hG)) rfl (fun b21 p21 => ?_)
   refine wpl_q (q_pure rfl) rfl ?_
   refine wpl_q (q_pure rfl) rfl ?_
   refine wpl_q (q_pure rfl) rfl ?_
   refine wpl_q (q_pure rfl) rfl ?_
   refine wpl_q (q_pure rfl) rfl ?_
   refine wpl_nil ?_
   refine ex_then ?_
   refine wpc_seq ?_
   refine wpc_region ?_
   refine wpl_q (q_ldN Tryd.underlying29 rfl Tryd.ti29 rfl LenC.h) rfl ?_
   refine wpl_q (q_pure rfl) rfl ?_
   refine wpl_tp (t_callP1 Tryd.hb14 rfl fun w h => refMessage42 ⟨pf, pa, pb, pl, hv, hs⟩ i w (hp.old h) hsm (glob h hG)) rfl (fun b27 p27 => ?_)
   refine wpl_q (q_pure rfl) rfl ?_
   refine wpl_q (q_pure rfl) rfl ?_
   refine wpl_q (q_pure rfl) rfl ?_
   refine wpl_q (q_pure rfl) rfl ?_
   refine wpl_q (q_pure rfl) rfl ?_
   refine wpl_nil ?_
   refine ex_then ?_
   refine wpc_seq ?_
   refine wpc_region ?_
   refine wpl_q (q_ldN Tryd.underlying29 rfl Tryd.ti29 rfl LenC.h) rfl ?_
   refine wpl_tp (t_callP1 Tryd.hb15 rfl fun w h => systems ⟨pf, pa, pb, pl, hv, hs⟩ w (hp.old h)) rfl (fun b32 p32 => ?_)
   refine wpl_q (q_pure rfl) rfl ?_
   refine wpl_q (q_pure rfl) rfl ?_
   refine wpl_q (q_pure rfl) rfl ?_
   refine wpl_q (q_pure rfl) rfl ?_
   refine wpl_q (q_pure rfl) rfl ?_
   refine wpl_nil ?_
   refine ex_then ?_
   refine wpc_seq ?_
   refine wpc_region ?_
   refine wpl_q (q_ldN Tryd.underlying29 rfl Tryd.ti29 rfl LenC.h) rfl ?_
   refine wpl_tp (t_callP1 Tryd.hb16 rfl fun w h => refSystems ⟨pf, pa, pb, pl, hv, hs⟩ w (hp.old h)) rfl (fun b37 p37 => ?_)
   refine wpl_q (q_pure rfl) rfl ?_
   refine wpl_q (q_pure rfl) rfl ?_
   refine wpl_q (q_pure rfl) rfl ?_
   refine wpl_q (q_pure rfl) rfl ?_
   refine wpl_q (q_pure rfl) rfl ?_
   refine wpl_nil ?_
   refine ex_then ?_
   refine wpc_seq ?_
   refine wpc_draw 31 (by kernel_rfl) (fun _ h => h.drew) ?_
   refine wpd_q 0 rfl (by kernel_rfl) trivial (q_ldN Tryd.underlying29 rfl Tryd.ti29 rfl LenC.h) rfl (fun _ h => h) ?_
   refine wpd_q 2 rfl (by kernel_rfl) trivial (q_ldN Tryd.underlying29 rfl Tryd.ti29 rfl LenC.h) rfl (fun _ h => h) ?_
   refine wpd_t 1 rfl (by kernel_rfl) trivial (t_pur Tryd.hb17 rfl fun w h => hopCheck ⟨pf, pa, pb, pl, hv, hs⟩ w (hp.old h)) rfl (fun _ => sk0) (fun b41 => ?_)
   refine wpd_t 3 rfl (by kernel_rfl) trivial (t_pur Tryd.hb18 rfl fun w h => refCheck42 ⟨pf, pa, pb, pl, hv, hs⟩ w (hp.old h)) rfl (fun _ => sk0) (fun b43 => ?_)
   refine wpd_p 4 rfl (by kernel_rfl) trivial (q_tru (q_eqI rfl rfl) rfl) rfl sk0 ?_
   refine wpd_p 5 rfl (by kernel_rfl) trivial (q_pure rfl) rfl sk0 ?_
   refine wpd_p 6 rfl (by kernel_rfl) ⟨_, rfl, rfl⟩ (q_pure rfl) rfl sk0 ?_
   refine wpd_p 7 rfl (by kernel_rfl) ⟨_, rfl, rfl⟩ (q_pure rfl) rfl sk0 ?_
   refine wpd_t 8 rfl (by kernel_rfl) ⟨_, rfl, rfl⟩ (t_pur (v := .bool true) Tryd.hb19 rfl fun w h => by
     have q := refSame b21 (msgV ⟨pf, pa, pb, pl, hv, hs⟩ i) b27 (msgV ⟨pf, pa, pb, pl, hv, hs⟩ i) w (h.seen_row (by repeat (first | exact List.mem_cons_self .. | apply List.mem_cons_of_mem))) (h.seen_row (by repeat (first | exact List.mem_cons_self .. | apply List.mem_cons_of_mem)))
     rwa [decide_eq_true rfl] at q) rfl (fun _ => sk0) (fun b48 => ?_)
   refine wpd_p 9 rfl (by kernel_rfl) trivial (q_pure rfl) rfl sk0 ?_
   refine wpd_p 10 rfl (by kernel_rfl) trivial (q_pure rfl) rfl sk0 ?_
   refine wpd_p 11 rfl (by kernel_rfl) ⟨_, rfl, rfl⟩ (q_pure rfl) rfl sk0 ?_
   refine wpd_p 12 rfl (by kernel_rfl) ⟨_, rfl, rfl⟩ (q_pure rfl) rfl sk0 ?_
   refine wpd_p 13 rfl (by kernel_rfl) ⟨_, rfl, rfl⟩ (q_tru (q_eqI rfl rfl) rfl) rfl sk0 ?_
   refine wpd_p 14 rfl (by kernel_rfl) trivial (q_pure rfl) rfl sk0 ?_
   refine wpd_p 15 rfl (by kernel_rfl) trivial (q_pure rfl) rfl sk0 ?_
   refine wpd_p 16 rfl (by kernel_rfl) ⟨_, rfl, rfl⟩ (q_pure rfl) rfl sk0 ?_
   refine wpd_p 17 rfl (by kernel_rfl) ⟨_, rfl, rfl⟩ (q_pure rfl) rfl sk0 ?_
   refine wpd_t 18 rfl (by kernel_rfl) ⟨_, rfl, rfl⟩ (t_pur (v := .bool true) Tryd.hb20 rfl fun w h => by
     have q := refSameSystems b32 (sysV ⟨pf, pa, pb, pl, hv, hs⟩) b37 (sysV ⟨pf, pa, pb, pl, hv, hs⟩) w (h.seen_row (by repeat (first | exact List.mem_cons_self .. | apply List.mem_cons_of_mem))) (h.seen_row (by repeat (first | exact List.mem_cons_self .. | apply List.mem_cons_of_mem)))
     rwa [decide_eq_true rfl] at q) rfl (fun _ => sk0) (fun b58 => ?_)
   refine wpd_p 19 rfl (by kernel_rfl) trivial (q_pure rfl) rfl sk0 ?_
   refine wpd_p 20 rfl (by kernel_rfl) trivial (q_pure rfl) rfl sk0 ?_
   refine wpd_p 21 rfl (by kernel_rfl) ⟨_, rfl, rfl⟩ (q_pure rfl) rfl sk0 ?_
   refine wpd_p 22 rfl (by kernel_rfl) ⟨_, rfl, rfl⟩ (q_pure rfl) rfl sk0 ?_
   refine wpd_p 23 rfl (by kernel_rfl) ⟨_, rfl, rfl⟩ (q_tru (q_eqI rfl rfl) rfl) rfl sk0 ?_
   refine wpd_p 24 rfl (by kernel_rfl) trivial (q_pure rfl) rfl sk0 ?_
   refine wpd_p 25 rfl (by kernel_rfl) trivial (q_pure rfl) rfl sk0 ?_
   refine wpd_q 26 rfl (by kernel_rfl) ⟨_, rfl, rfl⟩ (q_ldN Tryd.underlying29 rfl Tryd.ti29 rfl LenC.h) rfl (fun _ h => h) ?_
   refine wpd_q 27 rfl (by kernel_rfl) ⟨_, rfl, rfl⟩ (q_ldN Tryd.underlying29 rfl Tryd.ti29 rfl LenC.h) rfl (fun _ h => h) ?_
   refine wpd_t 28 rfl (by kernel_rfl) ⟨_, rfl, rfl⟩ (t_pur (v := .bool true) Tryd.hb21 rfl fun w h => by
     have q := refSame42 ⟨pf, pa, pb, pl, hv, hs⟩ (tw ⟨pf, pa, pb, pl, hv, hs⟩ b17) w (hp.old h) (tw_seen p17.2 (h.seen_row (by repeat (first | exact List.mem_cons_self .. | apply List.mem_cons_of_mem))) (hopsF_at h (by repeat (first | exact List.mem_cons_self .. | apply List.mem_cons_of_mem))))
     rwa [decide_eq_true htq] at q) rfl (fun _ => sk0) (fun b68 => ?_)
   refine wpd_p 29 rfl (by kernel_rfl) trivial (q_pure rfl) rfl sk0 ?_
   refine wpd_p 30 rfl (by kernel_rfl) trivial (q_pure rfl) rfl sk0 ?_
   refine wpd_done (by kernel_rfl) ?_
   refine ex_then ?_
   refine wpc_ret ?_
   refine ret1 (.inl rfl) rfl rfl ?_
   exact fun w h => ⟨rfl, h.below⟩

end Go.Proofs.YtjpfhkjmjnjggaaDoor

