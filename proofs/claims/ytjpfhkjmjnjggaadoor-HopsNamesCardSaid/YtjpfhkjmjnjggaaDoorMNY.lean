/- Tactic blocks that recur, each as a theorem with a default. -/
import Derived.Calls
import Derived.Tactics
import Derived.OrdersHeld
import Derived.Below
import Derived.Laws.Bits
import Derived.Laws.AppendOwn
import Derived.Laws.Rows
import Derived.Laws.CopyRow
import Derived.Laws.Cells
import Derived.Laws.Entries
namespace Go.PL
theorem zz2 {P : Prop} (q : P := by first | omega | (simp only [maxLen]; omega) | (simp only [List.length_append, List.length_cons, List.length_nil, List.length_take, maxLen]; omega) | (simp only [List.length_append, List.length_cons, List.length_nil, List.length_take]; omega)) : P := q
theorem zz5 {P : Prop} (q : P := by repeat (first | exact List.mem_cons_self .. | apply List.mem_cons_of_mem)) : P := q
theorem zz6 {P : Prop} (q : P := by kernel_rfl) : P := q
theorem zz7 {P : Prop} (q : P := by first | decide | omega | exact Nat.zero_lt_one | (simp; omega) | (simp; done) | (simp only [v8s_length, v32s_length, vis_length, vns_length, v64s_length]; omega)) : P := q
theorem zz8 {P : Prop} (q : P := by repeat (first | exact Sub.nil | exact Sub.refl _ | with_reducible refine Sub.keep ?_ | refine Sub.drop ?_)) : P := q
theorem zz12 {P : Prop} (q : P := by repeat (first | exact trivial | refine ⟨rfl, ?_⟩)) : P := q
theorem zz13 {P : Prop} (q : P := by omega) : P := q
theorem zz14 {P : Prop} (q : P := by first | with_reducible exact List.nil_append _ | exact (v8s_append _ _).symm | exact (vis_append _ _).symm | exact (vns_append _ _).symm | exact (v64s_append _ _).symm | exact (v32s_append _ _).symm | rfl) : P := q
theorem zz17 {P : Prop} (q : P := by decide) : P := q
theorem zz18 {P : Prop} (q : P := by rw [flatK_4]; show (((headB (hs.getD i Hop.z)) ++ (restF ⟨pf, pa, pb, pl, hv, hs⟩ i)) ++ (tailH (hs.getD i Hop.z))).length ≤ 100000; rw [List.length_append, tailH_len hsi.2.1 hsi.2.2.2, List.length_append, headB_len]; omega) : P := q
theorem zz19 {P : Prop} (q : P := by show Seen w.cell? _ (restF ⟨pf, pa, pb, pl, hv, hs⟩ (i + 1)).length 1 (v8s (restF ⟨pf, pa, pb, pl, hv, hs⟩ (i + 1))); rw [restF]; exact restBlk (sumF_length _) w h) : P := q
theorem zz20 {P : Prop} (q : P := by (first | with_reducible assumption | exact L16.h)) : P := q
theorem zz21 {P : Prop} (q : P := by intro v hv; simp only [List.mem_cons, List.not_mem_nil, or_false] at hv; rcases hv with rfl | rfl <;> exact RK.c_length _) : P := q
theorem zz22 {P : Prop} (q : P := by show J _ ((msgs ⟨pf, pa, pb, pl, hv, hs⟩).take (i + 1)) u44; rw [← msgs_take (p := ⟨pf, pa, pb, pl, hv, hs⟩) hil]; exact hu44) : P := q
theorem zz23 {P : Prop} (q : P := by first | rfl | (simp only [v8s_length, v32s_length, vis_length, v64s_length, List.length_replicate]; first | done | assumption | omega)) : P := q
theorem zz24 {P : Prop} (q : P := by show SV (arv b8 32) (restF ⟨pf, pa, pb, pl, hv, hs⟩ (i + 1)).length; rw [restF, sumF_length]; exact arv_sv zz17) : P := q
theorem zz25 {P : Prop} (q : P := by first | exact v32s_get zz13 | rfl) : P := q
theorem zz26 {P : Prop} (q : P := by first | assumption | exact signF_all _ _ | exact sg_all _ _ | exact sigC_all _ _ _ _ | exact sigP_all _ _ _ | exact pathF_all _ _ _) : P := q
theorem zz27 {P : Prop} (q : P := by intro m hm; simp only [List.mem_cons, List.not_mem_nil, or_false] at hm; rcases hm with rfl | rfl | rfl | rfl | rfl | rfl <;> rfl) : P := q
theorem zz30 {P : Prop} (q : P := by first | decide | omega) : P := q
theorem zz31 {P : Prop} (q : P := by first | omega | assumption | decide | exact SV.nil | (simp; done) | (dsimp only; omega)) : P := q
theorem zz32 {P : Prop} (q : P := by first | decide | (simp; omega) | (simp only [v8s_length, v32s_length, vis_length, v64s_length]; omega)) : P := q
theorem zz33 {P : Prop} (q : P := by first | exact vns_get zz7 | rfl) : P := q
theorem zz34 {P : Prop} (q : P := by first | exact v64s_get zz7 | rfl) : P := q
theorem zz35 {P : Prop} (q : P := by intro m hm; simp only [List.mem_cons, List.not_mem_nil, or_false] at hm; rcases hm with rfl | rfl | rfl <;> rfl) : P := q
theorem zz36 {P : Prop} (q : P := by show Seen w.cell? b144.1 ((upH b144.2 1 (·.wa 21))).length 24 (hcs (upH b144.2 1 (·.wa 21))); rw [upH_len, hl144, ← l2]; exact h.seen_row zz5) : P := q
theorem zz37 {P : Prop} (q : P := by show Seen w.cell? b150.1 ((upH b150.2 0 (·.wf 2))).length 24 (hcs (upH b150.2 0 (·.wf 2))); rw [upH_len, hl150, ← l2]; exact h.seen_row zz5) : P := q
theorem zz38 {P : Prop} (q : P := by simp) : P := q
theorem zz39 {P : Prop} (q : P := by rw [v8s_length, List.length_replicate]) : P := q
theorem zz40 {P : Prop} (q : P := by rw [check_12 zz13 (by first | omega | (simp only [bne_iff_ne, ne_eq] at *; omega))]) : P := q
theorem zz41 {P : Prop} (q : P := by show i + 1 ≤ hs.length; omega) : P := q
theorem zz42 {P : Prop} (q : P := by rw [hcs, cat_len Hop.c_length, List.length_append, hi2]; show hs.length * 24 + 21 + 3 ≤ (hs.length + 1) * 24; omega) : P := q
theorem zz43 {P : Prop} (q : P := by rw [h] at hr; cases hr) : P := q
theorem zz44 {P : Prop} (q : P := by rw [sgP_no hE0]; exact ⟨rfl, fun i hi => by cases hi⟩) : P := q
theorem zz45 {P : Prop} (q : P := by unfold widF; first | (rw [if_pos h4]; rfl) | (rw [if_neg h4, if_pos h6]; rfl) | (rw [if_neg h4, if_neg h6]; rfl)) : P := q
theorem zz46 {P : Prop} (q : P := by rw [v8s_length]; exact sumF_length _) : P := q
theorem zz47 {P : Prop} (q : P := by assumption) : P := q
theorem zz48 {P : Prop} (q : P := by rw [List.mem_singleton] at ht; subst ht; exact fun q hq => by cases hq) : P := q
theorem zz49 {P : Prop} (q : P := by first | rw [maskF_4 h4] | rw [maskF_hi h4 h64] | rw [maskF_lo h4 h64]) : P := q
theorem zz0 {P : Prop} (q : P := by first | (with_reducible exact key_len _ _ zz20) | with_reducible rfl | (simp only [v8s_length, v32s_length, vis_length, vns_length, v64s_length, List.length_replicate]; first | done | with_reducible assumption | omega) | (rw [v8s_length]; (first | with_reducible assumption | exact L16.h)) | rfl) : P := q
theorem zz1 {P : Prop} (q : P := by first | with_reducible rfl | (simp only [v8s_length, v32s_length, vis_length, vns_length, v64s_length, List.length_replicate]; first | done | with_reducible assumption | omega) | (rw [v8s_length]; (first | with_reducible assumption | with_reducible exact shortF_length _ | with_reducible exact stepF_length _ _ _ | with_reducible exact sumF_length _ | with_reducible exact climbF_length _ (by first | with_reducible assumption | with_reducible exact shortF_length _ | with_reducible exact beginF_length _ _ | with_reducible exact getD_mem_len zz47 zz13) _ _ _ | with_reducible exact beginF_length _ _ | with_reducible exact chainF_length _ _ _ | with_reducible exact recF_length _ _ | with_reducible exact publicF_length _ | with_reducible exact getD_mem_len zz47 zz13 | (with_reducible exact List.length_replicate))) | rfl) : P := q
theorem zz4 {P : Prop} (q : P := by first | assumption | exact SV.nil | exact SV.slv zz47 zz13 zz13 | exact arv_sv (by first | decide | (simp only [maxLen]; omega))) : P := q
theorem zz9 {P : Prop} (q : P := by first | exact h.seenV | exact h.seenA (by first | decide | (simp only [maxLen]; omega)) zz0 | exact h.seen_old zz47 | exact h.seen_oldL zz47 zz47 | exact h.seen_fact zz5) : P := q
theorem zz10 {P : Prop} (q : P := by (first | with_reducible assumption | with_reducible exact shortF_length _ | with_reducible exact stepF_length _ _ _ | with_reducible exact sumF_length _ | with_reducible exact climbF_length _ (by first | with_reducible assumption | with_reducible exact shortF_length _ | with_reducible exact beginF_length _ _ | with_reducible exact getD_mem_len zz47 zz13) _ _ _ | with_reducible exact beginF_length _ _ | with_reducible exact chainF_length _ _ _ | with_reducible exact recF_length _ _ | with_reducible exact publicF_length _ | with_reducible exact getD_mem_len zz47 zz13 | (with_reducible exact List.length_replicate))) : P := q
theorem zz11 {P : Prop} (q : P := by first | exact Seen.re8 h.seenV | exact Seen.reS h.seenV zz26 zz17 | exact Seen.reN h.seenV | exact h.seenV | exact h.seenA (by first | decide | (simp only [maxLen]; omega)) zz0 | exact h.seen_old zz47 | exact h.seen_oldL zz47 zz47 | exact Seen.re8 (h.seen_fact zz5) | exact h.seen_fact zz5) : P := q
theorem zz15 {P : Prop} (q : P := by first | exact h.seenV | exact h.seenA (by first | decide | (simp only [maxLen]; omega)) zz1 | exact h.seen_old zz47 | exact h.seen_oldL zz47 zz47 | exact h.seen_fact zz5) : P := q
theorem zz16 {P : Prop} (q : P := by first | exact Seen.re8 h.seenV | exact Seen.reS h.seenV (by first | assumption | exact signF_all _ _ | exact sg_all _ _) zz17 | exact Seen.reN h.seenV | exact h.seenV | exact h.seenA (by first | decide | (simp only [maxLen]; omega)) zz1 | exact h.seen_old zz47 | exact h.seen_oldL zz47 zz47 | exact Seen.re8 (h.seen_fact zz5) | exact h.seen_fact zz5) : P := q
theorem zz28 {P : Prop} (q : P := by intro u hu; simp only [List.mem_cons, List.not_mem_nil, or_false] at hu; rcases hu with rfl | rfl | rfl | rfl <;> exact SV.one zz47) : P := q
theorem zz29 {P : Prop} (q : P := by first | assumption | exact SV.nil | exact SV.slv zz47 zz13 zz13) : P := q
theorem zz3 {P : Prop} (q : P := by first | with_reducible exact key_one _ _ | (with_reducible exact sig_one (by first | assumption | exact SV.nil) (by first | assumption | exact SV.nil) _) | exact v8s_one _ | exact v32s_one _ | exact v64s_one _ | exact vis_one _ | exact vns_one _ | exact v16s_one _ | (intro u hu; simp at hu; rcases hu with h | h <;> subst h <;> rfl) | (intro u hu; simp only [List.mem_cons, List.not_mem_nil, or_false] at hu; subst hu; exact SV.one zz47) | (intro u hu; simp only [List.mem_cons, List.not_mem_nil, or_false] at hu; rcases hu with rfl <;> exact SV.one zz29) | (intro u hu; simp only [List.mem_cons, List.not_mem_nil, or_false] at hu; rcases hu with rfl | rfl <;> exact SV.one zz29) | (intro u hu; simp only [List.mem_cons, List.not_mem_nil, or_false] at hu; rcases hu with rfl | rfl | rfl <;> exact SV.one zz29) | (intro u hu; simp only [List.mem_cons, List.not_mem_nil, or_false] at hu; rcases hu with rfl | rfl | rfl | rfl <;> exact SV.one zz29) | (simp [Value.oneCell']; done)) : P := q
end Go.PL
