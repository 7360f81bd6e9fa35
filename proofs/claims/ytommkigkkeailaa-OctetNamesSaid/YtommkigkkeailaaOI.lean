/- Values spoilt. -/
import Derived.Test.YtommkigkkeailaaOH
namespace Go.Proofs.Ytommkigkkeailaa
set_option linter.unusedSimpArgs false
set_option linter.unusedVariables false
open Go Go.PL Go.RowKit

def HT.wt (t : HT) (g : UInt8) : HT := .nd g t.bv t.bs t.lv t.kids
theorem HT.c0 (t : HT) : t.c[0]? = some (.int .u8 (t.tg.toNat : Int)) := by cases t; rfl
theorem HT.cwt (t : HT) (g : UInt8) : t.c.set 0 (.int .u8 (g.toNat : Int)) = (t.wt g).c := by cases t; rfl
theorem dropD {l ms : List HT} {j : Nat} (h : ms.drop j = l.drop j) (hj : j < l.length) (hl : ms.length = l.length) : ms.getD j HT.z = l.getD j HT.z := by
  rw [drop_consD HT.z hj, drop_consD HT.z (by omega)] at h
  exact (List.cons.inj h).1
theorem getD_setH {ms : List HT} {j : Nat} {y : HT} (hj : j < ms.length) : (ms.set j y).getD j HT.z = y := by
  rw [List.getD_eq_getElem?_getD, List.getElem?_set_self hj]; rfl

set_option maxRecDepth 100000 in
theorem spoil_step (t : HT) (tag : UInt8) (w : World) (hb : Mem w (nums t.ents) t.ents [] w) (ih : ∀ x ∈ t.kids, ∀ (tag : UInt8) (w : World), Mem w (nums x.ents) x.ents [] w → Calls Try.prog 28 [.agg [.int .u8 (tag.toNat : Int), x.bv, x.lv].toArray].toArray w (GivesA w x.ents (fun _ : Unit => True) (fun _ => .tuple #[]) (fun _ => []))) :
    Calls Try.prog 28 [.agg [.int .u8 (tag.toNat : Int), t.bv, t.lv].toArray].toArray w (GivesA w t.ents (fun _ : Unit => True) (fun _ => .tuple #[]) (fun _ => [])) := by
  have ht : HSeen w.cell? t := Mem.hseen hb
  obtain ⟨tg, bv, bs, lv, l⟩ := t
  have svb := ht.1.sv
  have svl := ht.2.1.sv
  have lb := svb.le
  have ll := svl.le
  simp only [maxLen] at lb ll
  refine enter (m := 40) (R := Mem w (nums (HT.nd tg bv bs lv l).ents) (.row bv bs.length 5 1 (v8s bs) :: .row lv l.length 25 3 (hcs l) :: entsL l) []) Try.func28 rfl rfl (Nat.le_of_ble_eq_true rfl) hb ?_
  refine wpc_seq ?_
  refine wpc_region ?_
  refine wpl_t (t_box rfl [.int .u8 (tag.toNat : Int), bv, lv] rfl) rfl (fun b1 => ?_)
  refine wpl_nil ?_
  refine ex_then ?_
  refine wpc_seq ?_
  refine wpc_seq ?_
  refine wpc_region ?_
  refine wpl_q (q_pure rfl) rfl ?_
  refine wpl_nil ?_
  refine ex_then ?_
  refine wpc_block ?_
  refine wpc_loopc (ι := { x : Nat × List UInt8 // (x.1 ≤ bs.length) ∧ (x.2.length = bs.length) }) [(1, _)] (fun x Lc => (2, .int .i64 ((x.1.1 : Nat) : Int)) :: Lc) (fun x => Mem w (nums (HT.nd tg bv bs lv l).ents) (.blk b1 25 [.int .u8 (tag.toNat : Int), bv, lv] :: .row bv bs.length 5 1 (v8s x.1.2) :: .row lv l.length 25 3 (hcs l) :: entsL l) []) (fun x => bs.length - x.1.1) ⟨(0, bs), ⟨Nat.zero_le _, rfl⟩⟩ (by repeat (first | exact trivial | refine ⟨rfl, ?_⟩)) ?_ ?_
  ·
   exact fun w h => h
  ·
   rintro ⟨⟨i, xs⟩, ⟨hi0, hi1⟩⟩; try dsimp only
   have hi0 : i ≤ bs.length := hi0; have hi1 : xs.length = bs.length := hi1
   refine wpc_seq ?_
   refine wpc_seq ?_
   refine wpc_region ?_
   refine wpl_q (q_pure rfl) rfl ?_
   refine wpl_q (q_field Try.underlying25 rfl Try.ti22 rfl rfl _ rfl) rfl ?_
   refine wpl_q (q_ld Try.underlying22 rfl rfl rfl) rfl ?_
   refine wpl_q (q_lenW Try.underlying22 rfl (by first | assumption | exact SV.nil | exact SV.slv (by assumption) (by omega) (by omega) | exact arv_sv (by first | decide | (simp only [maxLen]; omega)))) rfl ?_
   refine wpl_q (q_pure rfl) rfl ?_
   refine wpl_nil ?_
   refine ex_then ?_
   refine wpc_cond rfl (fun hc8 => ?_) (fun hc8 => ?_)
   ·
    simp only [decide_eq_true_eq] at hc8
    have hix : i < xs.length := by omega
    refine wpc_skip ?_
    refine ex_then ?_
    refine wpc_seq ?_
    refine wpc_block ?_
    refine wpc_region ?_
    refine wpl_q (q_field Try.underlying25 rfl Try.ti22 rfl rfl _ rfl) rfl ?_
    refine wpl_q (q_ld Try.underlying22 rfl rfl rfl) rfl ?_
    refine wpl_q (q_pure rfl) rfl ?_
    refine wpl_q (q_idxW1 Try.underlying22 Try.ti5 rfl rfl (by first | assumption | exact SV.nil | exact SV.slv (by assumption) (by omega) (by omega) | exact arv_sv (by first | decide | (simp only [maxLen]; omega))) (by first | omega | (simp only [maxLen]; omega) | (simp only [List.length_append, List.length_cons, List.length_nil, List.length_take, maxLen]; omega) | (simp only [List.length_append, List.length_cons, List.length_nil, List.length_take]; omega))) rfl ?_
    refine wpl_q (q_ldW Try.underlying5 rfl rfl (fun w h => by first | exact h.seenV | exact h.seenA (by first | decide | (simp only [maxLen]; omega)) (by first | with_reducible rfl | (simp only [v8s_length, v32s_length, vis_length, vns_length, v64s_length, List.length_replicate]; first | done | with_reducible assumption | omega) | (rw [v8s_length]; (first | with_reducible assumption | with_reducible exact shortF_length _ | with_reducible exact stepF_length _ _ _ | with_reducible exact sumF_length _ | with_reducible exact climbF_length _ (by first | with_reducible assumption | with_reducible exact shortF_length _ | with_reducible exact beginF_length _ _ | with_reducible exact getD_mem_len (by assumption) (by omega)) _ _ _ | with_reducible exact beginF_length _ _ | with_reducible exact chainF_length _ _ _ | with_reducible exact recF_length _ _ | with_reducible exact publicF_length _ | with_reducible exact getD_mem_len (by assumption) (by omega) | (with_reducible exact List.length_replicate))) | rfl) | exact h.seen_old (by assumption) | exact h.seen_oldL (by assumption) (by assumption) | exact h.seen_fact (by repeat (first | exact List.mem_cons_self .. | apply List.mem_cons_of_mem))) (v8s_get hix)) rfl ?_
    refine wpl_q (q8_add (b := (1 : UInt8)) rfl rfl) rfl ?_
    refine wpl_q (q_idxW1 Try.underlying22 Try.ti5 rfl rfl (by first | assumption | exact SV.nil | exact SV.slv (by assumption) (by omega) (by omega) | exact arv_sv (by first | decide | (simp only [maxLen]; omega))) (by first | omega | (simp only [maxLen]; omega) | (simp only [List.length_append, List.length_cons, List.length_nil, List.length_take, maxLen]; omega) | (simp only [List.length_append, List.length_cons, List.length_nil, List.length_take]; omega))) rfl ?_
    refine wpl_t0 (t_stW Try.ti5 rfl rfl rfl (by first | decide | omega | exact Nat.zero_lt_one | (simp; omega) | (simp; done) | (simp only [v8s_length, v32s_length, vis_length, vns_length, v64s_length]; omega)) _ (by first | exact v8s_set _ | rfl)) (fun _ => ?_)
    refine wpl_nil ?_
    refine ex_block ?_
    refine ex_then ?_
    refine wpc_region ?_
    refine wpl_q (q_pure rfl) rfl ?_
    refine wpl_q (q_addN (b := 1) rfl rfl (by first | omega | (simp only [maxLen]; omega) | (simp only [List.length_append, List.length_cons, List.length_nil, List.length_take, maxLen]; omega) | (simp only [List.length_append, List.length_cons, List.length_nil, List.length_take]; omega))) rfl ?_
    refine wpl_q (q_pure rfl) rfl ?_
    refine wpl_nil ?_
    refine ex_again ⟨(i + 1, xs.set i (xs.getD i 0 + 1)), ⟨by omega, by rw [List.length_set]; exact hi1⟩⟩ ?_ ?_ ?_
    ·
     exact (by repeat (first | exact trivial | refine ⟨rfl, ?_⟩))
    ·
     exact fun w h => h
    ·
     (show bs.length - (i + 1) < bs.length - i); omega
   ·
    refine wpc_exit ?_
    refine ex_then_exit ?_
    refine ex_then_exit ?_
    refine ex_block_hit ?_
    refine ex_then ?_
    refine wpc_seq ?_
    refine wpc_region ?_
    refine wpl_q (q_pure rfl) rfl ?_
    refine wpl_nil ?_
    refine ex_then ?_
    refine wpc_block ?_
    refine wpc_loopc (ι := { x : Nat × List HT // (x.1 ≤ l.length) ∧ (x.2.length = l.length) ∧ (x.2.drop x.1 = l.drop x.1) }) [(1, _)] (fun x Lc => (3, .int .i64 ((x.1.1 : Nat) : Int)) :: Lc) (fun x => Mem w (nums (HT.nd tg bv bs lv l).ents) (.blk b1 25 [.int .u8 (tag.toNat : Int), bv, lv] :: .row bv bs.length 5 1 (v8s xs) :: .row lv l.length 25 3 (hcs x.1.2) :: entsL (l.drop x.1.1)) []) (fun x => l.length - x.1.1) ⟨(0, l), ⟨Nat.zero_le _, rfl, rfl⟩⟩ (by repeat (first | exact trivial | refine ⟨rfl, ?_⟩)) ?_ ?_
    ·
     exact fun w h => h
    ·
     rintro ⟨⟨j, ms⟩, ⟨hi0, hi1, hi2⟩⟩; try dsimp only
     have hi0 : j ≤ l.length := hi0; have hi1 : ms.length = l.length := hi1; have hi2 : ms.drop j = l.drop j := hi2
     refine wpc_seq ?_
     refine wpc_seq ?_
     refine wpc_region ?_
     refine wpl_q (q_pure rfl) rfl ?_
     refine wpl_q (q_field Try.underlying25 rfl Try.ti23 rfl rfl _ rfl) rfl ?_
     refine wpl_q (q_ld Try.underlying23 rfl rfl rfl) rfl ?_
     refine wpl_q (q_lenW Try.underlying23 rfl (by first | assumption | exact SV.nil | exact SV.slv (by assumption) (by omega) (by omega) | exact arv_sv (by first | decide | (simp only [maxLen]; omega)))) rfl ?_
     refine wpl_q (q_pure rfl) rfl ?_
     refine wpl_nil ?_
     refine ex_then ?_
     refine wpc_cond rfl (fun hc22 => ?_) (fun hc22 => ?_)
     ·
      simp only [decide_eq_true_eq] at hc22
      have hjl : j < l.length := by omega
      have hjm : j < ms.length := by omega
      have hd := dropD hi2 hjl hi1
      refine wpc_skip ?_
      refine ex_then ?_
      refine wpc_seq ?_
      refine wpc_block ?_
      refine wpc_seq ?_
      refine wpc_region ?_
      refine wpl_q (q_field Try.underlying25 rfl Try.ti23 rfl rfl _ rfl) rfl ?_
      refine wpl_q (q_ld Try.underlying23 rfl rfl rfl) rfl ?_
      refine wpl_q (q_pure rfl) rfl ?_
      refine wpl_q (q_idxW Try.underlying23 Try.ti25 rfl rfl (by first | assumption | exact SV.nil | exact SV.slv (by assumption) (by omega) (by omega) | exact arv_sv (by first | decide | (simp only [maxLen]; omega))) (by first | omega | (simp only [maxLen]; omega) | (simp only [List.length_append, List.length_cons, List.length_nil, List.length_take, maxLen]; omega) | (simp only [List.length_append, List.length_cons, List.length_nil, List.length_take]; omega))) rfl ?_
      refine wpl_q (q_fieldPo 0 Try.underlying25 rfl Try.ti5 rfl rfl rfl) rfl ?_
      refine wpl_q (q_ldWF Try.underlying5 rfl rfl (fun w h => by first | exact h.seenV | exact h.seenA (by first | decide | (simp only [maxLen]; omega)) (by first | with_reducible rfl | (simp only [v8s_length, v32s_length, vis_length, vns_length, v64s_length, List.length_replicate]; first | done | with_reducible assumption | omega) | (rw [v8s_length]; (first | with_reducible assumption | with_reducible exact shortF_length _ | with_reducible exact stepF_length _ _ _ | with_reducible exact sumF_length _ | with_reducible exact climbF_length _ (by first | with_reducible assumption | with_reducible exact shortF_length _ | with_reducible exact beginF_length _ _ | with_reducible exact getD_mem_len (by assumption) (by omega)) _ _ _ | with_reducible exact beginF_length _ _ | with_reducible exact chainF_length _ _ _ | with_reducible exact recF_length _ _ | with_reducible exact publicF_length _ | with_reducible exact getD_mem_len (by assumption) (by omega) | (with_reducible exact List.length_replicate))) | rfl) | exact h.seen_old (by assumption) | exact h.seen_oldL (by assumption) (by assumption) | exact h.seen_fact (by repeat (first | exact List.mem_cons_self .. | apply List.mem_cons_of_mem))) (cat_get (c := HT.c) (k := 3) HT.c_length HT.z hjm (by rw [hd]; exact HT.c0 _))) rfl ?_
      refine wpl_q (q8_add (b := (1 : UInt8)) rfl rfl) rfl ?_
      refine wpl_q (q_idxW Try.underlying23 Try.ti25 rfl rfl (by first | assumption | exact SV.nil | exact SV.slv (by assumption) (by omega) (by omega) | exact arv_sv (by first | decide | (simp only [maxLen]; omega))) (by first | omega | (simp only [maxLen]; omega) | (simp only [List.length_append, List.length_cons, List.length_nil, List.length_take, maxLen]; omega) | (simp only [List.length_append, List.length_cons, List.length_nil, List.length_take]; omega))) rfl ?_
      refine wpl_q (q_fieldPo 0 Try.underlying25 rfl Try.ti5 rfl rfl rfl) rfl ?_
      refine wpl_t0 (t_stWF Try.ti5 rfl rfl rfl (by rw [cat_len HT.c_length]; omega) (hcs (ms.set j ((l.getD j HT.z).wt ((l.getD j HT.z).tg + 1)))) (by have q := cat_set HT.c_length HT.z (i := j) (j := 0) ((l.getD j HT.z).wt ((l.getD j HT.z).tg + 1)) hjm (by rw [hd]; exact HT.cwt _ _) (by decide); exact q)) (fun _ => ?_)
      refine wpl_nil ?_
      refine ex_then ?_
      refine wpc_region ?_
      refine wpl_q (q_field Try.underlying25 rfl Try.ti23 rfl rfl _ rfl) rfl ?_
      refine wpl_q (q_ld Try.underlying23 rfl rfl rfl) rfl ?_
      refine wpl_q (q_pure rfl) rfl ?_
      refine wpl_q (q_idxW Try.underlying23 Try.ti25 rfl rfl (by first | assumption | exact SV.nil | exact SV.slv (by assumption) (by omega) (by omega) | exact arv_sv (by first | decide | (simp only [maxLen]; omega))) (by first | omega | (simp only [maxLen]; omega) | (simp only [List.length_append, List.length_cons, List.length_nil, List.length_take, maxLen]; omega) | (simp only [List.length_append, List.length_cons, List.length_nil, List.length_take]; omega))) rfl ?_
      refine wpl_q (q_ldWN Try.underlying25 rfl Try.ti25 rfl (fun w h => by first | exact h.seenV | exact h.seenA (by first | decide | (simp only [maxLen]; omega)) (by first | with_reducible rfl | (simp only [v8s_length, v32s_length, vis_length, vns_length, v64s_length, List.length_replicate]; first | done | with_reducible assumption | omega) | (rw [v8s_length]; (first | with_reducible assumption | with_reducible exact shortF_length _ | with_reducible exact stepF_length _ _ _ | with_reducible exact sumF_length _ | with_reducible exact climbF_length _ (by first | with_reducible assumption | with_reducible exact shortF_length _ | with_reducible exact beginF_length _ _ | with_reducible exact getD_mem_len (by assumption) (by omega)) _ _ _ | with_reducible exact beginF_length _ _ | with_reducible exact chainF_length _ _ _ | with_reducible exact recF_length _ _ | with_reducible exact publicF_length _ | with_reducible exact getD_mem_len (by assumption) (by omega) | (with_reducible exact List.length_replicate))) | rfl) | exact h.seen_old (by assumption) | exact h.seen_oldL (by assumption) (by assumption) | exact h.seen_fact (by repeat (first | exact List.mem_cons_self .. | apply List.mem_cons_of_mem))) [.int .u8 (((l.getD j HT.z).tg + 1).toNat : Int), (l.getD j HT.z).bv, (l.getD j HT.z).lv] (by rw [cat_part HT.c_length HT.z (by rw [List.length_set]; exact hjm), getD_setH hjm]; rfl) rfl) rfl ?_
      refine wpl_tp (t_callQ (l.getD j HT.z).ents (.blk b1 25 [.int .u8 (tag.toNat : Int), bv, lv] :: .row bv bs.length 5 1 (v8s xs) :: .row lv l.length 25 3 (hcs (ms.set j ((l.getD j HT.z).wt ((l.getD j HT.z).tg + 1)))) :: entsL (l.drop (j + 1))) (fun _ => (.blk b1 25 [.int .u8 (tag.toNat : Int), bv, lv] :: .row bv bs.length 5 1 (v8s xs) :: .row lv l.length 25 3 (hcs (ms.set j ((l.getD j HT.z).wt ((l.getD j HT.z).tg + 1)))) :: entsL (l.drop (j + 1)))) (by rw [drop_consD HT.z hjl]; exact List.perm_append_comm_assoc [.blk b1 25 [.int .u8 (tag.toNat : Int), bv, lv], .row bv bs.length 5 1 (v8s xs), .row lv l.length 25 3 (hcs (ms.set j ((l.getD j HT.z).wt ((l.getD j HT.z).tg + 1))))] (l.getD j HT.z).ents (entsL (l.drop (j + 1)))) (fun _ => List.Perm.refl _) Try.hb28 rfl fun w h h2 => ih (l.getD j HT.z) (getD_memH hjl) ((l.getD j HT.z).tg + 1) w h2) rfl (fun b39 p39 => ?_)
      refine wpl_nil ?_
      refine ex_block ?_
      refine ex_then ?_
      refine wpc_region ?_
      refine wpl_q (q_pure rfl) rfl ?_
      refine wpl_q (q_addN (b := 1) rfl rfl (by first | omega | (simp only [maxLen]; omega) | (simp only [List.length_append, List.length_cons, List.length_nil, List.length_take, maxLen]; omega) | (simp only [List.length_append, List.length_cons, List.length_nil, List.length_take]; omega))) rfl ?_
      refine wpl_q (q_pure rfl) rfl ?_
      refine wpl_nil ?_
      refine ex_again ⟨(j + 1, (ms.set j ((l.getD j HT.z).wt ((l.getD j HT.z).tg + 1)))), ⟨by omega, by rw [List.length_set]; exact hi1, by rw [List.drop_set_of_lt (by omega)]; exact (List.cons.inj ((drop_consD HT.z (show j < ms.length by omega)).symm.trans (hi2.trans (drop_consD HT.z hjl)))).2⟩⟩ ?_ ?_ ?_
      ·
       exact (by repeat (first | exact trivial | refine ⟨rfl, ?_⟩))
      ·
       exact fun w h => h
      ·
       (show l.length - (j + 1) < l.length - j); omega
     ·
      refine wpc_exit ?_
      refine ex_then_exit ?_
      refine ex_then_exit ?_
      refine ex_block_hit ?_
      refine ret0 (.inr rfl) rfl ?_
      exact fun w h => ⟨(), trivial, rfl, h.sub .nil .nil⟩

theorem spoilT : ∀ (t : HT) (tag : UInt8) (w : World), Mem w (nums t.ents) t.ents [] w → Calls Try.prog 28 [.agg [.int .u8 (tag.toNat : Int), t.bv, t.lv].toArray].toArray w (GivesA w t.ents (fun _ : Unit => True) (fun _ => .tuple #[]) (fun _ => [])) := by
  intro t
  induction t using HT.ind with
  | _ tg bv bs lv l ih => intro tag w h; exact spoil_step _ tag w h (fun x hx tag w hx' => ih x hx tag w hx')
theorem spoil (t : HT) (w : World) (h : Mem w (nums t.ents) t.ents [] w) : Calls Try.prog 28 [.agg t.c.toArray].toArray w (GivesA w t.ents (fun _ : Unit => True) (fun _ => .tuple #[]) (fun _ => [])) := by
  have q := spoilT t t.tg w h
  obtain ⟨tg, bv, bs, lv, l⟩ := t
  exact q

end Go.Proofs.Ytommkigkkeailaa
