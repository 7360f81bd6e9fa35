/- Values compared. -/
import Derived.Test.YtommkigkkeailaaOF
namespace Go.Proofs.Ytommkigkkeailaa
set_option linter.unusedSimpArgs false
set_option linter.unusedVariables false
open Go Go.PL Go.RowKit

mutual
def sameF : Tr → Tr → Bool
  | .nd t bs l, .nd u cs m => decide (t = u) && decide (bs = cs) && sameL l m
def sameL : List Tr → List Tr → Bool
  | [], [] => true
  | x :: l, y :: m => sameF x y && sameL l m
  | _, _ => false
end
mutual
theorem sameF_iff : ∀ (a b : Tr), sameF a b = true ↔ a = b
  | .nd t bs l, .nd u cs m => by simp [sameF, sameL_iff l m, and_assoc]
theorem sameL_iff : ∀ (a b : List Tr), sameL a b = true ↔ a = b
  | [], [] => by simp [sameL]
  | [], _ :: _ => by simp [sameL]
  | _ :: _, [] => by simp [sameL]
  | x :: l, y :: m => by simp [sameL, sameF_iff x y, sameL_iff l m]
end
instance : DecidableEq Tr := fun a b => decidable_of_iff _ (sameF_iff a b)
theorem trs_stepD (l m : List HT) (i : Nat) (h : trs (l.take i) = trs (m.take i)) (hl : i < l.length) (hm : i < m.length) (he : (l.getD i HT.z).tr = (m.getD i HT.z).tr) : trs (l.take (i + 1)) = trs (m.take (i + 1)) := by
  rw [trs_takeS hl, trs_takeS hm, h, he]
theorem trs_diff {l m : List HT} {i : Nat} (hl : i < l.length) (hm : i < m.length) (he : ¬ (l.getD i HT.z).tr = (m.getD i HT.z).tr) : ¬ trs l = trs m := fun e => he (by rw [← trs_get hl, ← trs_get hm, e])
theorem trs_len {l m : List HT} (h : trs l = trs m) : l.length = m.length := by rw [← trs_length l, h, trs_length]

set_option maxRecDepth 100000 in
theorem refSameL_step (lv : Value) (l : List HT) (mv : Value) (m : List HT) (w : World) (hlv : Seen w.cell? lv l.length 3 (hcs l)) (hhlv : HSeenL w.cell? l) (hmv : Seen w.cell? mv m.length 3 (hcs m)) (hhmv : HSeenL w.cell? m) (ih : ∀ x ∈ l, ∀ (y : HT) (w : World), HSeen w.cell? x → HSeen w.cell? y → Calls Try.prog 21 [.agg x.c.toArray, .agg y.c.toArray].toArray w (Pur w (.bool (decide (x.tr = y.tr))))) :
    Calls Try.prog 27 [lv, mv].toArray w (Pur w (.bool (decide (trs l = trs m)))) := by
  have slv := hlv.sv
  have llv := slv.le
  simp only [maxLen] at llv
  have smv := hmv.sv
  have lmv := smv.le
  simp only [maxLen] at lmv
  refine enter (m := 27) (R := Mem w [] [] []) Try.func27 rfl rfl (Nat.le_of_ble_eq_true rfl) (Mem.start w) ?_
  refine wpc_seq ?_
  refine wpc_region ?_
  refine wpl_q (q_pure rfl) rfl ?_
  refine wpl_nil ?_
  refine ex_then ?_
  refine wpc_seq ?_
  refine wpc_seq ?_
  refine wpc_region ?_
  refine wpl_q (q_pure rfl) rfl ?_
  refine wpl_q (q_lenW Try.underlying23 rfl (by first | assumption | exact SV.nil | exact SV.slv (by assumption) (by omega) (by omega) | exact arv_sv (by first | decide | (simp only [maxLen]; omega)))) rfl ?_
  refine wpl_q (q_pure rfl) rfl ?_
  refine wpl_q (q_lenW Try.underlying23 rfl (by first | assumption | exact SV.nil | exact SV.slv (by assumption) (by omega) (by omega) | exact arv_sv (by first | decide | (simp only [maxLen]; omega)))) rfl ?_
  refine wpl_q (q_pure rfl) rfl ?_
  refine wpl_nil ?_
  refine ex_then ?_
  refine wpc_cond rfl (fun hc10 => ?_) (fun hc10 => ?_)
  ·
   simp only [decide_eq_true_eq, bne_iff_ne, ne_eq] at hc10
   have hne : ¬ trs l = trs m := fun e => hc10 (by rw [trs_len e])
   refine wpc_seq ?_
   refine wpc_region ?_
   refine wpl_q (q_pure rfl) rfl ?_
   refine wpl_nil ?_
   refine ex_then ?_
   refine wpc_ret ?_
   refine ex_then_ret ?_
   refine ret1 (.inl rfl) rfl rfl ?_
   exact fun w h => ⟨by simp [hne], h.below⟩
  ·
   simp only [bne_eq_false_iff_eq] at hc10
   have hl : l.length = m.length := by omega
   refine wpc_skip ?_
   refine ex_then ?_
   refine wpc_seq ?_
   refine wpc_seq ?_
   refine wpc_region ?_
   refine wpl_q (q_pure rfl) rfl ?_
   refine wpl_nil ?_
   refine ex_then ?_
   refine wpc_block ?_
   refine wpc_loopc (ι := { x : Nat // (x ≤ l.length) ∧ (trs (l.take x) = trs (m.take x)) }) [(0, _), (1, _)] (fun x Lc => (5, .int .i64 ((x.1 : Nat) : Int)) :: Lc) (fun x => Mem w [] [] []) (fun x => l.length - x.1) ⟨0, ⟨Nat.zero_le _, rfl⟩⟩ (by repeat (first | exact trivial | refine ⟨rfl, ?_⟩)) ?_ ?_
   ·
    exact fun w h => h.sub .nil .nil
   ·
    rintro ⟨i, ⟨hi0, hi1⟩⟩; try dsimp only
    have hi0 : i ≤ l.length := hi0; have hi1 : trs (l.take i) = trs (m.take i) := hi1
    refine wpc_seq ?_
    refine wpc_seq ?_
    refine wpc_region ?_
    refine wpl_q (q_pure rfl) rfl ?_
    refine wpl_q (q_pure rfl) rfl ?_
    refine wpl_q (q_lenW Try.underlying23 rfl (by first | assumption | exact SV.nil | exact SV.slv (by assumption) (by omega) (by omega) | exact arv_sv (by first | decide | (simp only [maxLen]; omega)))) rfl ?_
    refine wpl_q (q_pure rfl) rfl ?_
    refine wpl_nil ?_
    refine ex_then ?_
    refine wpc_cond rfl (fun hc14 => ?_) (fun hc14 => ?_)
    ·
     simp only [decide_eq_true_eq] at hc14
     have hil : i < l.length := by omega
     have him : i < m.length := by omega
     have hx := HSeenL_iff.1 hhlv _ (getD_memH hil)
     have hy := HSeenL_iff.1 hhmv _ (getD_memH him)
     haveI := hx.sv.one
     haveI := hy.sv.one
     refine wpc_skip ?_
     refine ex_then ?_
     refine wpc_seq ?_
     refine wpc_block ?_
     refine wpc_seq ?_
     refine wpc_draw 10 (by kernel_rfl) (fun _ h => h.drew) ?_
     refine wpd_p 0 rfl (by kernel_rfl) trivial (q_pure rfl) rfl sk0 ?_
     refine wpd_p 1 rfl (by kernel_rfl) trivial (q_pure rfl) rfl sk0 ?_
     refine wpd_p 2 rfl (by kernel_rfl) trivial (q_idxW Try.underlying23 Try.ti25 rfl rfl (by first | assumption | exact SV.nil | exact SV.slv (by assumption) (by omega) (by omega) | exact arv_sv (by first | decide | (simp only [maxLen]; omega))) (by first | omega | (simp only [maxLen]; omega) | (simp only [List.length_append, List.length_cons, List.length_nil, List.length_take, maxLen]; omega) | (simp only [List.length_append, List.length_cons, List.length_nil, List.length_take]; omega))) rfl sk0 ?_
     refine wpd_q 3 rfl (by kernel_rfl) trivial (q_ldWN Try.underlying25 rfl Try.ti25 rfl (fun w h => h.seen_old hlv) (l.getD i HT.z).c (cat_part HT.c_length HT.z hil) (HT.c_length _)) rfl (fun _ h => h) ?_
     refine wpd_p 4 rfl (by kernel_rfl) trivial (q_pure rfl) rfl sk0 ?_
     refine wpd_p 5 rfl (by kernel_rfl) trivial (q_pure rfl) rfl sk0 ?_
     refine wpd_p 6 rfl (by kernel_rfl) trivial (q_idxW Try.underlying23 Try.ti25 rfl rfl (by first | assumption | exact SV.nil | exact SV.slv (by assumption) (by omega) (by omega) | exact arv_sv (by first | decide | (simp only [maxLen]; omega))) (by first | omega | (simp only [maxLen]; omega) | (simp only [List.length_append, List.length_cons, List.length_nil, List.length_take, maxLen]; omega) | (simp only [List.length_append, List.length_cons, List.length_nil, List.length_take]; omega))) rfl sk0 ?_
     refine wpd_q 7 rfl (by kernel_rfl) trivial (q_ldWN Try.underlying25 rfl Try.ti25 rfl (fun w h => h.seen_old hmv) (m.getD i HT.z).c (cat_part HT.c_length HT.z him) (HT.c_length _)) rfl (fun _ h => h) ?_
     refine wpd_t 8 rfl (by kernel_rfl) trivial (t_pur Try.hb21 rfl fun w h => ih (l.getD i HT.z) (getD_memH hil) (m.getD i HT.z) w (hx.old h) (hy.old h)) rfl (fun _ => sk0) (fun b25 => ?_)
     refine wpd_p 9 rfl (by kernel_rfl) trivial (q_pure rfl) rfl sk0 ?_
     refine wpd_done (by kernel_rfl) ?_
     refine ex_then ?_
     refine wpc_cond rfl (fun hc26 => ?_) (fun hc26 => ?_)
     ·
      have hdf : ¬ trs l = trs m := trs_diff hil him (by simpa using hc26)
      refine wpc_seq ?_
      refine wpc_region ?_
      refine wpl_q (q_pure rfl) rfl ?_
      refine wpl_nil ?_
      refine ex_then ?_
      refine wpc_ret ?_
      refine ex_block_ret ?_
      refine ex_then_ret ?_
      refine ex_then_ret ?_
      refine ex_block_ret ?_
      refine ex_then_ret ?_
      refine ret1 (.inl rfl) rfl rfl ?_
      exact fun w h => ⟨by simp [hdf], h.below⟩
     ·
      have heq : (l.getD i HT.z).tr = (m.getD i HT.z).tr := by simpa using hc26
      refine wpc_skip ?_
      refine ex_block ?_
      refine ex_then ?_
      refine wpc_region ?_
      refine wpl_q (q_pure rfl) rfl ?_
      refine wpl_q (q_addN (b := 1) rfl rfl (by first | omega | (simp only [maxLen]; omega) | (simp only [List.length_append, List.length_cons, List.length_nil, List.length_take, maxLen]; omega) | (simp only [List.length_append, List.length_cons, List.length_nil, List.length_take]; omega))) rfl ?_
      refine wpl_q (q_pure rfl) rfl ?_
      refine wpl_nil ?_
      refine ex_again ⟨i + 1, ⟨by omega, trs_stepD l m i hi1 hil him heq⟩⟩ ?_ ?_ ?_
      ·
       exact (by repeat (first | exact trivial | refine ⟨rfl, ?_⟩))
      ·
       exact fun w h => h.sub .nil .nil
      ·
       (show l.length - (i + 1) < l.length - i); omega
    ·
     simp only [decide_eq_false_iff_not] at hc14
     obtain rfl : i = l.length := by omega
     have hes : trs l = trs m := by rw [List.take_length, hl, List.take_length] at hi1; exact hi1
     refine wpc_exit ?_
     refine ex_then_exit ?_
     refine ex_then_exit ?_
     refine ex_block_hit ?_
     refine ex_then ?_
     refine wpc_seq ?_
     refine wpc_region ?_
     refine wpl_q (q_pure rfl) rfl ?_
     refine wpl_nil ?_
     refine ex_then ?_
     refine wpc_ret ?_
     refine ret1 (.inl rfl) rfl rfl ?_
     exact fun w h => ⟨by simp [hes], h.below⟩

set_option maxRecDepth 100000 in
theorem refSame_step (t : HT) (u : HT) (w : World) (ht : HSeen w.cell? t) (hu : HSeen w.cell? u) (ih : ∀ x ∈ t.kids, ∀ (y : HT) (w : World), HSeen w.cell? x → HSeen w.cell? y → Calls Try.prog 21 [.agg x.c.toArray, .agg y.c.toArray].toArray w (Pur w (.bool (decide (x.tr = y.tr))))) :
    Calls Try.prog 21 [.agg t.c.toArray, .agg u.c.toArray].toArray w (Pur w (.bool (decide (t.tr = u.tr)))) := by
  obtain ⟨tg, bv, bs, lv, l⟩ := t
  have hb := ht.1
  have hk := ht.2.1
  have svb := hb.sv
  have svl := hk.sv
  have lb := svb.le
  have ll := svl.le
  simp only [maxLen] at lb ll
  obtain ⟨tg2, bv2, bs2, lv2, l2⟩ := u
  have hb2 := hu.1
  have hk2 := hu.2.1
  have svb2 := hb2.sv
  have svl2 := hk2.sv
  have lb2 := svb2.le
  have ll2 := svl2.le
  simp only [maxLen] at lb2 ll2
  refine enter (m := 24) (R := Mem w [] [] []) Try.func21 rfl rfl (Nat.le_of_ble_eq_true rfl) (Mem.start w) ?_
  refine wpc_seq ?_
  refine wpc_region ?_
  refine wpl_t (t_box rfl [.int .u8 (tg.toNat : Int), bv, lv] rfl) rfl (fun b2 => ?_)
  refine wpl_t (t_box rfl [.int .u8 (tg2.toNat : Int), bv2, lv2] rfl) rfl (fun b3 => ?_)
  refine wpl_q (q_pure rfl) rfl ?_
  refine wpl_nil ?_
  refine ex_then ?_
  refine wpc_seq ?_
  refine wpc_region ?_
  refine wpl_q (q_field Try.underlying25 rfl Try.ti5 rfl rfl _ rfl) rfl ?_
  refine wpl_q (q_ld Try.underlying5 rfl rfl (by first | exact v8s_get (by first | decide | omega | exact Nat.zero_lt_one | (simp; omega) | (simp; done) | (simp only [v8s_length, v32s_length, vis_length, vns_length, v64s_length]; omega)) | rfl)) rfl ?_
  refine wpl_q (q_field Try.underlying25 rfl Try.ti5 rfl rfl _ rfl) rfl ?_
  refine wpl_q (q_ld Try.underlying5 rfl rfl (by first | exact v8s_get (by first | decide | omega | exact Nat.zero_lt_one | (simp; omega) | (simp; done) | (simp only [v8s_length, v32s_length, vis_length, vns_length, v64s_length]; omega)) | rfl)) rfl ?_
  refine wpl_q (q8_eql rfl rfl) rfl ?_
  refine wpl_q (q_pure rfl) rfl ?_
  refine wpl_bool2 10 9 rfl rfl (fun hb10 => ?_) (fun hb10 => ?_)
  ·
   have e1 : tg = tg2 := by simpa using hb10
   refine wpl_on rfl rfl ?_
   refine wpl_q (q_field Try.underlying25 rfl Try.ti22 rfl rfl _ rfl) rfl ?_
   refine wpl_on rfl rfl ?_
   refine wpl_q (q_ld Try.underlying22 rfl rfl rfl) rfl ?_
   refine wpl_on rfl rfl ?_
   refine wpl_q (q_field Try.underlying25 rfl Try.ti22 rfl rfl _ rfl) rfl ?_
   refine wpl_on rfl rfl ?_
   refine wpl_q (q_ld Try.underlying22 rfl rfl rfl) rfl ?_
   refine wpl_on rfl rfl ?_
   refine wpl_t (t_pur Try.hb37 rfl fun w h => sameB _ _ _ _ w (h.seen_old hb) (h.seen_old hb2)) rfl (fun b15 => ?_)
   refine wpl_q (q_pure rfl) rfl ?_
   refine wpl_q (q_pure rfl) rfl ?_
   refine wpl_bool2 17 15 rfl rfl (fun hb17 => ?_) (fun hb17 => ?_)
   ·
    have e2 : bs = bs2 := by simpa using hb17
    refine wpl_on rfl rfl ?_
    refine wpl_q (q_field Try.underlying25 rfl Try.ti23 rfl rfl _ rfl) rfl ?_
    refine wpl_on rfl rfl ?_
    refine wpl_q (q_ld Try.underlying23 rfl rfl rfl) rfl ?_
    refine wpl_on rfl rfl ?_
    refine wpl_q (q_field Try.underlying25 rfl Try.ti23 rfl rfl _ rfl) rfl ?_
    refine wpl_on rfl rfl ?_
    refine wpl_q (q_ld Try.underlying23 rfl rfl rfl) rfl ?_
    refine wpl_on rfl rfl ?_
    refine wpl_t (t_pur Try.hb27 rfl fun w h => refSameL_step _ l _ l2 w (h.seen_old hk) (HSeenL_iff.2 fun x hx => (HSeenL_iff.1 ht.2.2 x hx).old h) (h.seen_old hk2) (HSeenL_iff.2 fun x hx => (HSeenL_iff.1 hu.2.2 x hx).old h) (fun x hx y w => ih x hx y w)) rfl (fun b22 => ?_)
    refine wpl_q (q_pure rfl) rfl ?_
    refine wpl_q (q_pure rfl) rfl ?_
    refine wpl_nil ?_
    refine ex_then ?_
    refine wpc_ret ?_
    refine ret1 (.inl rfl) rfl rfl ?_
    exact fun w h => ⟨by
      show Ending.returned (.bool (decide (trs l = trs l2))) = .returned (.bool (decide (Tr.nd tg bs (trs l) = Tr.nd tg2 bs2 (trs l2))))
      congr 2; rw [decide_eq_decide, e1, e2]; simp, h.below⟩
   ·
    have n2 : ¬ bs = bs2 := by simpa using hb17
    refine wpl_off rfl rfl rfl rfl ?_
    refine wpl_off rfl rfl rfl rfl ?_
    refine wpl_off rfl rfl rfl rfl ?_
    refine wpl_off rfl rfl rfl rfl ?_
    refine wpl_off rfl rfl rfl rfl ?_
    refine wpl_q (q_pure rfl) rfl ?_
    refine wpl_q (q_pure rfl) rfl ?_
    refine wpl_nil ?_
    refine ex_then ?_
    refine wpc_ret ?_
    refine ret1 (.inl rfl) rfl rfl ?_
    exact fun w h => ⟨by
      show Ending.returned (.bool false) = .returned (.bool (decide (Tr.nd tg bs (trs l) = Tr.nd tg2 bs2 (trs l2))))
      congr 2; symm; rw [decide_eq_false_iff_not]; intro hh; simp only [Tr.nd.injEq] at hh; exact n2 hh.2.1, h.below⟩
  ·
   have n1 : ¬ tg = tg2 := by simpa using hb10
   refine wpl_off rfl rfl rfl rfl ?_
   refine wpl_off rfl rfl rfl rfl ?_
   refine wpl_off rfl rfl rfl rfl ?_
   refine wpl_off rfl rfl rfl rfl ?_
   refine wpl_off rfl rfl rfl rfl ?_
   refine wpl_q (q_pure rfl) rfl ?_
   refine wpl_q (q_pure rfl) rfl ?_
   refine wpl_off rfl rfl rfl rfl ?_
   refine wpl_off rfl rfl rfl rfl ?_
   refine wpl_off rfl rfl rfl rfl ?_
   refine wpl_off rfl rfl rfl rfl ?_
   refine wpl_off rfl rfl rfl rfl ?_
   refine wpl_q (q_pure rfl) rfl ?_
   refine wpl_q (q_pure rfl) rfl ?_
   refine wpl_nil ?_
   refine ex_then ?_
   refine wpc_ret ?_
   refine ret1 (.inl rfl) rfl rfl ?_
   exact fun w h => ⟨by
     show Ending.returned (.bool false) = .returned (.bool (decide (Tr.nd tg bs (trs l) = Tr.nd tg2 bs2 (trs l2))))
     congr 2; symm; rw [decide_eq_false_iff_not]; intro hh; simp only [Tr.nd.injEq] at hh; exact n1 hh.1, h.below⟩
theorem refSame : ∀ (t u : HT) (w : World), HSeen w.cell? t → HSeen w.cell? u → Calls Try.prog 21 [.agg t.c.toArray, .agg u.c.toArray].toArray w (Pur w (.bool (decide (t.tr = u.tr)))) := by
  intro t
  induction t using HT.ind with
  | _ tg bv bs lv l ih => intro u w h hu; exact refSame_step _ u w h hu (fun x hx y w hx' hy' => ih x hx y w hx' hy')

theorem refSameL (lv : Value) (l : List HT) (mv : Value) (m : List HT) (w : World) (h1 : Seen w.cell? lv l.length 3 (hcs l)) (h2 : HSeenL w.cell? l) (h3 : Seen w.cell? mv m.length 3 (hcs m)) (h4 : HSeenL w.cell? m) : Calls Try.prog 27 [lv, mv].toArray w (Pur w (.bool (decide (trs l = trs m)))) := refSameL_step lv l mv m w h1 h2 h3 h4 (fun x _ y w => refSame x y w)

set_option maxRecDepth 100000 in
theorem eqFunc_step (lv : Value) (l : List HT) (mv : Value) (m : List HT) (w : World) (hlv : Seen w.cell? lv l.length 3 (hcs l)) (hhlv : HSeenL w.cell? l) (hmv : Seen w.cell? mv m.length 3 (hcs m)) (hhmv : HSeenL w.cell? m) (ih : ∀ x ∈ l, ∀ (y : HT) (w : World), HSeen w.cell? x → HSeen w.cell? y → Calls Try.prog 32 [.agg x.c.toArray, .agg y.c.toArray].toArray w (Pur w (.bool (decide (x.tr = y.tr))))) :
    Calls Try.prog 53 [lv, mv, .func (.func 32) #[] #[]].toArray w (Pur w (.bool (decide (trs l = trs m)))) := by
  have slv := hlv.sv
  have llv := slv.le
  simp only [maxLen] at llv
  have smv := hmv.sv
  have lmv := smv.le
  simp only [maxLen] at lmv
  refine enter (m := 32) (R := Mem w [] [] []) Try.func53 rfl rfl (Nat.le_of_ble_eq_true rfl) (Mem.start w) ?_
  refine wpc_seq ?_
  refine wpc_region ?_
  refine wpl_q (q_pure rfl) rfl ?_
  refine wpl_nil ?_
  refine ex_then ?_
  refine wpc_seq ?_
  refine wpc_seq ?_
  refine wpc_region ?_
  refine wpl_q (q_pure rfl) rfl ?_
  refine wpl_q (q_lenW Try.underlying23 rfl (by first | assumption | exact SV.nil | exact SV.slv (by assumption) (by omega) (by omega) | exact arv_sv (by first | decide | (simp only [maxLen]; omega)))) rfl ?_
  refine wpl_q (q_pure rfl) rfl ?_
  refine wpl_q (q_lenW Try.underlying23 rfl (by first | assumption | exact SV.nil | exact SV.slv (by assumption) (by omega) (by omega) | exact arv_sv (by first | decide | (simp only [maxLen]; omega)))) rfl ?_
  refine wpl_q (q_pure rfl) rfl ?_
  refine wpl_nil ?_
  refine ex_then ?_
  refine wpc_cond rfl (fun hc14 => ?_) (fun hc14 => ?_)
  ·
   simp only [decide_eq_true_eq, bne_iff_ne, ne_eq] at hc14
   have hne : ¬ trs l = trs m := fun e => hc14 (by rw [trs_len e])
   refine wpc_seq ?_
   refine wpc_region ?_
   refine wpl_q (q_pure rfl) rfl ?_
   refine wpl_nil ?_
   refine ex_then ?_
   refine wpc_ret ?_
   refine ex_then_ret ?_
   refine ret1 (.inl rfl) rfl rfl ?_
   exact fun w h => ⟨by simp [hne], h.below⟩
  ·
   simp only [bne_eq_false_iff_eq] at hc14
   have hl : l.length = m.length := by omega
   refine wpc_skip ?_
   refine ex_then ?_
   refine wpc_seq ?_
   refine wpc_seq ?_
   refine wpc_region ?_
   refine wpl_q (q_pure rfl) rfl ?_
   refine wpl_q (q_lenW Try.underlying23 rfl (by first | assumption | exact SV.nil | exact SV.slv (by assumption) (by omega) (by omega) | exact arv_sv (by first | decide | (simp only [maxLen]; omega)))) rfl ?_
   refine wpl_q (q_pure rfl) rfl ?_
   refine wpl_nil ?_
   refine ex_then ?_
   refine wpc_block ?_
   refine wpc_loopc (ι := { x : Nat // (x ≤ l.length) ∧ (trs (l.take x) = trs (m.take x)) }) [(1, _), (2, _), (15, _), (16, _)] (fun x Lc => (17, .int .i64 ((x.1 : Nat) : Int)) :: Lc) (fun x => Mem w [] [] []) (fun x => l.length - x.1) ⟨0, ⟨Nat.zero_le _, rfl⟩⟩ (by repeat (first | exact trivial | refine ⟨rfl, ?_⟩)) ?_ ?_
   ·
    exact fun w h => h.sub .nil .nil
   ·
    rintro ⟨i, ⟨hi0, hi1⟩⟩; try dsimp only
    have hi0 : i ≤ l.length := hi0; have hi1 : trs (l.take i) = trs (m.take i) := hi1
    refine wpc_seq ?_
    refine wpc_region ?_
    refine wpl_q (q_pure rfl) rfl ?_
    refine wpl_nil ?_
    refine ex_then ?_
    refine wpc_seq ?_
    refine wpc_cond rfl (fun hc18 => ?_) (fun hc18 => ?_)
    ·
     simp only [decide_eq_true_eq] at hc18
     have hil : i < l.length := by omega
     have him : i < m.length := by omega
     have hx := HSeenL_iff.1 hhlv _ (getD_memH hil)
     have hy := HSeenL_iff.1 hhmv _ (getD_memH him)
     haveI := hx.sv.one
     haveI := hy.sv.one
     refine wpc_skip ?_
     refine ex_then ?_
     refine wpc_seq ?_
     refine wpc_block ?_
     refine wpc_seq ?_
     refine wpc_region ?_
     refine wpl_q (q_pure rfl) rfl ?_
     refine wpl_q (q_idxW Try.underlying23 Try.ti25 rfl rfl (by first | assumption | exact SV.nil | exact SV.slv (by assumption) (by omega) (by omega) | exact arv_sv (by first | decide | (simp only [maxLen]; omega))) (by first | omega | (simp only [maxLen]; omega) | (simp only [List.length_append, List.length_cons, List.length_nil, List.length_take, maxLen]; omega) | (simp only [List.length_append, List.length_cons, List.length_nil, List.length_take]; omega))) rfl ?_
     refine wpl_q (q_ldWN Try.underlying25 rfl Try.ti25 rfl (fun w h => h.seen_old hlv) (l.getD i HT.z).c (cat_part HT.c_length HT.z hil) (HT.c_length _)) rfl ?_
     refine wpl_t (t_alloc Try.ti25 HT.z.c rfl) rfl (fun b8 => ?_)
     refine wpl_q (q_pure rfl) rfl ?_
     refine wpl_t0 (t_stA Try.ti25 rfl rfl LenC.h OneC.h LenC.h) (fun _ => ?_)
     refine wpl_nil ?_
     refine ex_then ?_
     refine wpc_seq ?_
     refine wpc_region ?_
     refine wpl_q (q_pure rfl) rfl ?_
     refine wpl_q (q_pure rfl) rfl ?_
     refine wpl_q (q_idxW Try.underlying23 Try.ti25 rfl rfl (by first | assumption | exact SV.nil | exact SV.slv (by assumption) (by omega) (by omega) | exact arv_sv (by first | decide | (simp only [maxLen]; omega))) (by first | omega | (simp only [maxLen]; omega) | (simp only [List.length_append, List.length_cons, List.length_nil, List.length_take, maxLen]; omega) | (simp only [List.length_append, List.length_cons, List.length_nil, List.length_take]; omega))) rfl ?_
     refine wpl_q (q_ldWN Try.underlying25 rfl Try.ti25 rfl (fun w h => h.seen_old hmv) (m.getD i HT.z).c (cat_part HT.c_length HT.z him) (HT.c_length _)) rfl ?_
     refine wpl_t (t_alloc Try.ti25 HT.z.c rfl) rfl (fun b9 => ?_)
     refine wpl_t0 (t_stA Try.ti25 rfl rfl LenC.h OneC.h LenC.h) (fun _ => ?_)
     refine wpl_nil ?_
     refine ex_then ?_
     refine wpc_seq ?_
     refine wpc_region ?_
     refine wpl_q (q_pure rfl) rfl ?_
     refine wpl_q (q_ldN Try.underlying25 rfl Try.ti25 rfl LenC.h) rfl ?_
     refine wpl_q (q_ldN Try.underlying25 rfl Try.ti25 rfl LenC.h) rfl ?_
     refine wpl_t (t_purV rfl Try.hb32 rfl fun w h => by rw [Array.append_empty]; exact ih (l.getD i HT.z) (getD_memH hil) (m.getD i HT.z) w (hx.old h) (hy.old h)) rfl (fun b29 => ?_)
     refine wpl_q (q_pure rfl) rfl ?_
     refine wpl_nil ?_
     refine ex_then ?_
     refine wpc_cond rfl (fun hc30 => ?_) (fun hc30 => ?_)
     ·
      have hdf : ¬ trs l = trs m := trs_diff hil him (by simpa using hc30)
      refine wpc_seq ?_
      refine wpc_region ?_
      refine wpl_q (q_pure rfl) rfl ?_
      refine wpl_nil ?_
      refine ex_then ?_
      refine wpc_ret ?_
      refine ex_block_ret ?_
      refine ex_then_ret ?_
      refine ex_then_ret ?_
      refine ex_block_ret ?_
      refine ex_then_ret ?_
      refine ret1 (.inl rfl) rfl rfl ?_
      exact fun w h => ⟨by simp [hdf], h.below⟩
     ·
      have heq : (l.getD i HT.z).tr = (m.getD i HT.z).tr := by simpa using hc30
      refine wpc_skip ?_
      refine ex_block ?_
      refine ex_then ?_
      refine wpc_region ?_
      refine wpl_q (q_addN (b := 1) rfl rfl (by first | omega | (simp only [maxLen]; omega) | (simp only [List.length_append, List.length_cons, List.length_nil, List.length_take, maxLen]; omega) | (simp only [List.length_append, List.length_cons, List.length_nil, List.length_take]; omega))) rfl ?_
      refine wpl_q (q_pure rfl) rfl ?_
      refine wpl_nil ?_
      refine ex_again ⟨i + 1, ⟨by omega, trs_stepD l m i hi1 hil him heq⟩⟩ ?_ ?_ ?_
      ·
       exact (by repeat (first | exact trivial | refine ⟨rfl, ?_⟩))
      ·
       exact fun w h => h.sub .nil .nil
      ·
       (show l.length - (i + 1) < l.length - i); omega
    ·
     simp only [decide_eq_false_iff_not] at hc18
     obtain rfl : i = l.length := by omega
     have hes : trs l = trs m := by rw [List.take_length, hl, List.take_length] at hi1; exact hi1
     refine wpc_exit ?_
     refine ex_then_exit ?_
     refine ex_then_exit ?_
     refine ex_block_hit ?_
     refine ex_then ?_
     refine wpc_seq ?_
     refine wpc_region ?_
     refine wpl_q (q_pure rfl) rfl ?_
     refine wpl_nil ?_
     refine ex_then ?_
     refine wpc_ret ?_
     refine ret1 (.inl rfl) rfl rfl ?_
     exact fun w h => ⟨by simp [hes], h.below⟩

set_option maxRecDepth 100000 in
theorem octSame_step (t : HT) (u : HT) (w : World) (ht : HSeen w.cell? t) (hu : HSeen w.cell? u) (ih : ∀ x ∈ t.kids, ∀ (y : HT) (w : World), HSeen w.cell? x → HSeen w.cell? y → Calls Try.prog 32 [.agg x.c.toArray, .agg y.c.toArray].toArray w (Pur w (.bool (decide (x.tr = y.tr))))) :
    Calls Try.prog 32 [.agg t.c.toArray, .agg u.c.toArray].toArray w (Pur w (.bool (decide (t.tr = u.tr)))) := by
  obtain ⟨tg, bv, bs, lv, l⟩ := t
  have hb := ht.1
  have hk := ht.2.1
  have svb := hb.sv
  have svl := hk.sv
  have lb := svb.le
  have ll := svl.le
  simp only [maxLen] at lb ll
  obtain ⟨tg2, bv2, bs2, lv2, l2⟩ := u
  have hb2 := hu.1
  have hk2 := hu.2.1
  have svb2 := hb2.sv
  have svl2 := hk2.sv
  have lb2 := svb2.le
  have ll2 := svl2.le
  simp only [maxLen] at lb2 ll2
  refine enter (m := 24) (R := Mem w [] [] []) Try.func32 rfl rfl (Nat.le_of_ble_eq_true rfl) (Mem.start w) ?_
  refine wpc_seq ?_
  refine wpc_region ?_
  refine wpl_t (t_box rfl [.int .u8 (tg.toNat : Int), bv, lv] rfl) rfl (fun b2 => ?_)
  refine wpl_t (t_box rfl [.int .u8 (tg2.toNat : Int), bv2, lv2] rfl) rfl (fun b3 => ?_)
  refine wpl_q (q_pure rfl) rfl ?_
  refine wpl_nil ?_
  refine ex_then ?_
  refine wpc_seq ?_
  refine wpc_region ?_
  refine wpl_q (q_field Try.underlying25 rfl Try.ti5 rfl rfl _ rfl) rfl ?_
  refine wpl_q (q_ld Try.underlying5 rfl rfl (by first | exact v8s_get (by first | decide | omega | exact Nat.zero_lt_one | (simp; omega) | (simp; done) | (simp only [v8s_length, v32s_length, vis_length, vns_length, v64s_length]; omega)) | rfl)) rfl ?_
  refine wpl_q (q_field Try.underlying25 rfl Try.ti5 rfl rfl _ rfl) rfl ?_
  refine wpl_q (q_ld Try.underlying5 rfl rfl (by first | exact v8s_get (by first | decide | omega | exact Nat.zero_lt_one | (simp; omega) | (simp; done) | (simp only [v8s_length, v32s_length, vis_length, vns_length, v64s_length]; omega)) | rfl)) rfl ?_
  refine wpl_q (q8_eql rfl rfl) rfl ?_
  refine wpl_q (q_pure rfl) rfl ?_
  refine wpl_bool2 10 9 rfl rfl (fun hb10 => ?_) (fun hb10 => ?_)
  ·
   have e1 : tg = tg2 := by simpa using hb10
   refine wpl_on rfl rfl ?_
   refine wpl_q (q_field Try.underlying25 rfl Try.ti22 rfl rfl _ rfl) rfl ?_
   refine wpl_on rfl rfl ?_
   refine wpl_q (q_ld Try.underlying22 rfl rfl rfl) rfl ?_
   refine wpl_on rfl rfl ?_
   refine wpl_q (q_field Try.underlying25 rfl Try.ti22 rfl rfl _ rfl) rfl ?_
   refine wpl_on rfl rfl ?_
   refine wpl_q (q_ld Try.underlying22 rfl rfl rfl) rfl ?_
   refine wpl_on rfl rfl ?_
   refine wpl_t (t_pur Try.hb52 rfl fun w h => bytesEq _ _ _ _ w (h.seen_old hb) (h.seen_old hb2)) rfl (fun b15 => ?_)
   refine wpl_q (q_pure rfl) rfl ?_
   refine wpl_q (q_pure rfl) rfl ?_
   refine wpl_bool2 17 15 rfl rfl (fun hb17 => ?_) (fun hb17 => ?_)
   ·
    have e2 : bs = bs2 := by simpa using hb17
    refine wpl_on rfl rfl ?_
    refine wpl_q (q_field Try.underlying25 rfl Try.ti23 rfl rfl _ rfl) rfl ?_
    refine wpl_on rfl rfl ?_
    refine wpl_q (q_ld Try.underlying23 rfl rfl rfl) rfl ?_
    refine wpl_on rfl rfl ?_
    refine wpl_q (q_field Try.underlying25 rfl Try.ti23 rfl rfl _ rfl) rfl ?_
    refine wpl_on rfl rfl ?_
    refine wpl_q (q_ld Try.underlying23 rfl rfl rfl) rfl ?_
    refine wpl_on rfl rfl ?_
    refine wpl_t (t_pur Try.hb53 rfl fun w h => eqFunc_step _ l _ l2 w (h.seen_old hk) (HSeenL_iff.2 fun x hx => (HSeenL_iff.1 ht.2.2 x hx).old h) (h.seen_old hk2) (HSeenL_iff.2 fun x hx => (HSeenL_iff.1 hu.2.2 x hx).old h) (fun x hx y w => ih x hx y w)) rfl (fun b22 => ?_)
    refine wpl_q (q_pure rfl) rfl ?_
    refine wpl_q (q_pure rfl) rfl ?_
    refine wpl_nil ?_
    refine ex_then ?_
    refine wpc_ret ?_
    refine ret1 (.inl rfl) rfl rfl ?_
    exact fun w h => ⟨by
      show Ending.returned (.bool (decide (trs l = trs l2))) = .returned (.bool (decide (Tr.nd tg bs (trs l) = Tr.nd tg2 bs2 (trs l2))))
      congr 2; rw [decide_eq_decide, e1, e2]; simp, h.below⟩
   ·
    have n2 : ¬ bs = bs2 := by simpa using hb17
    refine wpl_off rfl rfl rfl rfl ?_
    refine wpl_off rfl rfl rfl rfl ?_
    refine wpl_off rfl rfl rfl rfl ?_
    refine wpl_off rfl rfl rfl rfl ?_
    refine wpl_off rfl rfl rfl rfl ?_
    refine wpl_q (q_pure rfl) rfl ?_
    refine wpl_q (q_pure rfl) rfl ?_
    refine wpl_nil ?_
    refine ex_then ?_
    refine wpc_ret ?_
    refine ret1 (.inl rfl) rfl rfl ?_
    exact fun w h => ⟨by
      show Ending.returned (.bool false) = .returned (.bool (decide (Tr.nd tg bs (trs l) = Tr.nd tg2 bs2 (trs l2))))
      congr 2; symm; rw [decide_eq_false_iff_not]; intro hh; simp only [Tr.nd.injEq] at hh; exact n2 hh.2.1, h.below⟩
  ·
   have n1 : ¬ tg = tg2 := by simpa using hb10
   refine wpl_off rfl rfl rfl rfl ?_
   refine wpl_off rfl rfl rfl rfl ?_
   refine wpl_off rfl rfl rfl rfl ?_
   refine wpl_off rfl rfl rfl rfl ?_
   refine wpl_off rfl rfl rfl rfl ?_
   refine wpl_q (q_pure rfl) rfl ?_
   refine wpl_q (q_pure rfl) rfl ?_
   refine wpl_off rfl rfl rfl rfl ?_
   refine wpl_off rfl rfl rfl rfl ?_
   refine wpl_off rfl rfl rfl rfl ?_
   refine wpl_off rfl rfl rfl rfl ?_
   refine wpl_off rfl rfl rfl rfl ?_
   refine wpl_q (q_pure rfl) rfl ?_
   refine wpl_q (q_pure rfl) rfl ?_
   refine wpl_nil ?_
   refine ex_then ?_
   refine wpc_ret ?_
   refine ret1 (.inl rfl) rfl rfl ?_
   exact fun w h => ⟨by
     show Ending.returned (.bool false) = .returned (.bool (decide (Tr.nd tg bs (trs l) = Tr.nd tg2 bs2 (trs l2))))
     congr 2; symm; rw [decide_eq_false_iff_not]; intro hh; simp only [Tr.nd.injEq] at hh; exact n1 hh.1, h.below⟩
theorem octSame : ∀ (t u : HT) (w : World), HSeen w.cell? t → HSeen w.cell? u → Calls Try.prog 32 [.agg t.c.toArray, .agg u.c.toArray].toArray w (Pur w (.bool (decide (t.tr = u.tr)))) := by
  intro t
  induction t using HT.ind with
  | _ tg bv bs lv l ih => intro u w h hu; exact octSame_step _ u w h hu (fun x hx y w hx' hy' => ih x hx y w hx' hy')

end Go.Proofs.Ytommkigkkeailaa
