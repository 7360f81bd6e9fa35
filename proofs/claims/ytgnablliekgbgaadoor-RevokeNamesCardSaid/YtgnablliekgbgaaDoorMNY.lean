/- Tactic blocks that recur, each as a theorem with a default. -/
import Derived.Calls
import Derived.Tactics
import Derived.OrdersHeld
import Derived.Below
import Derived.Laws.Bits
import Derived.Laws.AppendOwn
import Derived.Laws.Rows
import Derived.Laws.CopyRow
import Derived.Laws.Cells
import Derived.Laws.Entries
namespace Go.PL
theorem zz1 {P : Prop} (q : P := by first | omega | (simp only [maxLen]; omega) | (simp only [List.length_append, List.length_cons, List.length_nil, List.length_take, maxLen]; omega) | (simp only [List.length_append, List.length_cons, List.length_nil, List.length_take]; omega)) : P := q
theorem zz4 {P : Prop} (q : P := by repeat (first | exact List.mem_cons_self .. | apply List.mem_cons_of_mem)) : P := q
theorem zz6 {P : Prop} (q : P := by first | decide | omega | exact Nat.zero_lt_one | (simp; omega) | (simp; done) | (simp only [v8s_length, v32s_length, vis_length, vns_length, v64s_length]; omega)) : P := q
theorem zz7 {P : Prop} (q : P := by kernel_rfl) : P := q
theorem zz8 {P : Prop} (q : P := by repeat (first | exact Sub.nil | exact Sub.refl _ | with_reducible refine Sub.keep ?_ | refine Sub.drop ?_)) : P := q
theorem zz9 {P : Prop} (q : P := by repeat (first | exact trivial | refine ⟨rfl, ?_⟩)) : P := q
theorem zz10 {P : Prop} (q : P := by rw [Bool.eq_iff_iff]; simp only [goodB, Bool.or_eq_true, Bool.and_eq_true, decide_eq_true_eq, Bool.false_eq_true, Bool.not_eq_true', decide_eq_false_iff_not, false_iff, true_iff, iff_false, iff_true]; (try simp only [e45, e95] at *); omega) : P := q
theorem zz12 {P : Prop} (q : P := by omega) : P := q
theorem zz16 {P : Prop} (q : P := by first | with_reducible exact List.nil_append _ | exact (v8s_append _ _).symm | exact (vis_append _ _).symm | exact (vns_append _ _).symm | exact (v64s_append _ _).symm | exact (v32s_append _ _).symm | rfl) : P := q
theorem zz18 {P : Prop} (q : P := by first | exact (decide_eq_false fun q : a.eqv b => e1 q.1).symm | exact (decide_eq_false fun q : a.eqv b => e2 q.2.1).symm | exact (decide_eq_false fun q : a.eqv b => e3 q.2.2.1).symm | exact (decide_eq_false fun q : a.eqv b => e4 q.2.2.2.1).symm | exact decide_eq_decide.2 ⟨fun q => ⟨e1, e2, e3, e4, q⟩, fun q => q.2.2.2.2⟩) : P := q
theorem zz19 {P : Prop} (q : P := by decide) : P := q
theorem zz20 {P : Prop} (q : P := by intro e he; rw [List.mem_singleton] at he; subst he; simp) : P := q
theorem zz21 {P : Prop} (q : P := by (first | with_reducible assumption | exact L16.h)) : P := q
theorem zz22 {P : Prop} (q : P := by first | rfl | (simp only [v8s_length, v32s_length, vis_length, v64s_length, List.length_replicate]; first | done | assumption | omega)) : P := q
theorem zz23 {P : Prop} (q : P := by first | exact vns_get zz6 | rfl) : P := q
theorem zz24 {P : Prop} (q : P := by first | decide | omega) : P := q
theorem zz25 {P : Prop} (q : P := by first | exact v32s_get zz12 | rfl) : P := q
theorem zz26 {P : Prop} (q : P := by intro v hv; simp only [List.mem_cons, List.not_mem_nil, or_false] at hv; rcases hv with rfl | rfl <;> first | exact HT.c_length _ | rfl) : P := q
theorem zz27 {P : Prop} (q : P := by first | assumption | exact signF_all _ _ | exact sg_all _ _ | exact sigC_all _ _ _ _ | exact sigP_all _ _ _ | exact pathF_all _ _ _) : P := q
theorem zz28 {P : Prop} (q : P := by intro v hv; simp only [List.mem_cons, List.not_mem_nil, or_false] at hv; rcases hv with rfl | rfl | rfl <;> first | exact HT.c_length _ | rfl) : P := q
theorem zz29 {P : Prop} (q : P := by first | (rw [hr]; done) | (rw [checkF, if_neg hdc, if_pos h8]; done) | (rw [checkF, if_neg hdc, if_neg h8, if_pos zz12]; done) | (rw [checkF, if_neg hdc, if_neg h8, if_neg zz12]; done)) : P := q
theorem zz30 {P : Prop} (q : P := by first | exact (decide_eq_false fun q : ix1 = ix2 ∧ chs1 = chs2 ∧ ps1 = ps2 => e1 q.1).symm | exact (decide_eq_false fun q : ix1 = ix2 ∧ chs1 = chs2 ∧ ps1 = ps2 => e2 q.2.1).symm | exact decide_eq_decide.2 ⟨fun q => ⟨e1, e2, q⟩, fun q => q.2.2⟩) : P := q
theorem zz31 {P : Prop} (q : P := by have := rdNum_le ((fT b17.tr).getD 3 Tr.z) 4 1099511627776; have e : (1099511627776 : UInt64).toNat = 1099511627776 := rfl; omega) : P := q
theorem zz32 {P : Prop} (q : P := by first | assumption | exact SV.nil | exact SV.slv (by assumption) zz12 zz12) : P := q
theorem zz33 {P : Prop} (q : P := by rw [Bool.eq_iff_iff]; simp only [winF, Bool.and_eq_true, decide_eq_true_eq, Bool.false_eq_true, iff_false, iff_true, *]; first | done | omega | simp_all) : P := q
theorem zz34 {P : Prop} (q : P := by first | exact v8s_get zz6 | rfl) : P := q
theorem zz35 {P : Prop} (q : P := by first | omega | (simp only [bne_iff_ne, ne_eq] at *; omega)) : P := q
theorem zz36 {P : Prop} (q : P := by first | decide | (simp; omega) | (simp only [v8s_length, v32s_length, vis_length, v64s_length]; omega)) : P := q
theorem zz37 {P : Prop} (q : P := by have := rdNum_le ((fT b17.tr).getD 2 Tr.z) 3 1099511627776; have e : (1099511627776 : UInt64).toNat = 1099511627776 := rfl; omega) : P := q
theorem zz38 {P : Prop} (q : P := by rw [List.length_drop]; omega) : P := q
theorem zz39 {P : Prop} (q : P := by rw [hq]; exact gC_next hgs zz12 (by show ¬ 12 < dd; omega)) : P := q
theorem zz40 {P : Prop} (q : P := by simp) : P := q
theorem zz41 {P : Prop} (q : P := by rw [tab8_length]; exact UInt8.toNat_lt _) : P := q
theorem zz42 {P : Prop} (q : P := by first | omega | assumption | decide | exact SV.nil | (simp; done) | (dsimp only; omega)) : P := q
theorem zz43 {P : Prop} (q : P := by first | exact h.made (.keep (.keep .nil)) .nil | exact h.swap.made (.keep (.keep .nil)) .nil | exact h.sel.made (Sub.refl _) .nil) : P := q
theorem zz44 {P : Prop} (q : P := by rw [Bool.eq_iff_iff]; simp only [timeF, Bool.or_eq_true, Bool.and_eq_true, decide_eq_true_eq, Bool.false_eq_true, Bool.not_eq_true', decide_eq_false_iff_not, false_iff, true_iff, iff_false, iff_true]; (try simp only [e45, e95] at *); omega) : P := q
theorem zz45 {P : Prop} (q : P := by first | (rw [hZ]; done) | (rw [hZ]; rfl)) : P := q
theorem zz46 {P : Prop} (q : P := by rw [h] at hr; cases hr) : P := q
theorem zz47 {P : Prop} (q : P := by first | exact dec_no1 (by rw [← p17.1]; exact hb102) | exact dec_no2 (sv := sv) (cv := b92) (pv := b97) (by rw [← p17.1]; exact hc106) | exact dec_no2 (sv := sv) (cv := b92) (pv := b97) (by rw [← p17.1]; simpa using hc106)) : P := q
theorem zz48 {P : Prop} (q : P := by rw [show (if winF fr tt then (0 : Int) else 8) = 8 by first | rfl | (rw [show winF fr tt = false from zz33]; rfl)]) : P := q
theorem zz49 {P : Prop} (q : P := by decide +kernel) : P := q
theorem zz50 {P : Prop} (q : P := by simp; omega) : P := q
theorem zz51 {P : Prop} (q : P := by first | exact vbs_set _ | rfl) : P := q
theorem zz52 {P : Prop} (q : P := by rw [enc_ok hZ]; exact h.made SubC.h .nil) : P := q
theorem zz0 {P : Prop} (q : P := by first | with_reducible rfl | (simp only [v8s_length, v32s_length, vis_length, vns_length, v64s_length, List.length_replicate]; first | done | with_reducible assumption | omega) | (rw [v8s_length]; (first | with_reducible assumption | with_reducible exact shortF_length _ | with_reducible exact stepF_length _ _ _ | with_reducible exact sumF_length _ | with_reducible exact climbF_length _ (by first | with_reducible assumption | with_reducible exact shortF_length _ | with_reducible exact beginF_length _ _ | with_reducible exact getD_mem_len (by assumption) zz12) _ _ _ | with_reducible exact beginF_length _ _ | with_reducible exact chainF_length _ _ _ | with_reducible exact recF_length _ _ | with_reducible exact publicF_length _ | with_reducible exact getD_mem_len (by assumption) zz12 | (with_reducible exact List.length_replicate))) | rfl) : P := q
theorem zz2 {P : Prop} (q : P := by first | (with_reducible exact key_len _ _ zz21) | with_reducible rfl | (simp only [v8s_length, v32s_length, vis_length, vns_length, v64s_length, List.length_replicate]; first | done | with_reducible assumption | omega) | (rw [v8s_length]; (first | with_reducible assumption | exact L16.h)) | rfl) : P := q
theorem zz3 {P : Prop} (q : P := by first | assumption | exact SV.nil | exact SV.slv (by assumption) zz12 zz12 | exact arv_sv (by first | decide | (simp only [maxLen]; omega))) : P := q
theorem zz5 {P : Prop} (q : P := by first | with_reducible exact key_one _ _ | (with_reducible exact sig_oneMm (by first | assumption | exact SV.nil) (by first | assumption | exact SV.nil) _) | exact v8s_one _ | exact v32s_one _ | exact v64s_one _ | exact vis_one _ | exact vns_one _ | exact v16s_one _ | (intro u hu; simp at hu; rcases hu with h | h <;> subst h <;> rfl) | (intro u hu; simp only [List.mem_cons, List.not_mem_nil, or_false] at hu; subst hu; exact SV.one (by assumption)) | (intro u hu; simp only [List.mem_cons, List.not_mem_nil, or_false] at hu; rcases hu with rfl <;> exact SV.one zz32) | (intro u hu; simp only [List.mem_cons, List.not_mem_nil, or_false] at hu; rcases hu with rfl | rfl <;> exact SV.one zz32) | (intro u hu; simp only [List.mem_cons, List.not_mem_nil, or_false] at hu; rcases hu with rfl | rfl | rfl <;> exact SV.one zz32) | (intro u hu; simp only [List.mem_cons, List.not_mem_nil, or_false] at hu; rcases hu with rfl | rfl | rfl | rfl <;> exact SV.one zz32) | (simp [Value.oneCell']; done)) : P := q
theorem zz11 {P : Prop} (q : P := by (first | with_reducible assumption | with_reducible exact shortF_length _ | with_reducible exact stepF_length _ _ _ | with_reducible exact sumF_length _ | with_reducible exact climbF_length _ (by first | with_reducible assumption | with_reducible exact shortF_length _ | with_reducible exact beginF_length _ _ | with_reducible exact getD_mem_len (by assumption) zz12) _ _ _ | with_reducible exact beginF_length _ _ | with_reducible exact chainF_length _ _ _ | with_reducible exact recF_length _ _ | with_reducible exact publicF_length _ | with_reducible exact getD_mem_len (by assumption) zz12 | (with_reducible exact List.length_replicate))) : P := q
theorem zz13 {P : Prop} (q : P := by first | exact Seen.re8 h.seenV | exact Seen.reS h.seenV zz27 zz19 | exact Seen.reN h.seenV | exact h.seenV | exact h.seenA (by first | decide | (simp only [maxLen]; omega)) zz2 | exact h.seen_old (by assumption) | exact h.seen_oldL (by assumption) (by assumption) | exact Seen.re8 (h.seen_fact zz4) | exact h.seen_fact zz4) : P := q
theorem zz14 {P : Prop} (q : P := by first | exact h.seenV | exact h.seenA (by first | decide | (simp only [maxLen]; omega)) zz0 | exact h.seen_old (by assumption) | exact h.seen_oldL (by assumption) (by assumption) | exact h.seen_fact zz4) : P := q
theorem zz15 {P : Prop} (q : P := by first | exact h.seenV | exact h.seenA (by first | decide | (simp only [maxLen]; omega)) zz2 | exact h.seen_old (by assumption) | exact h.seen_oldL (by assumption) (by assumption) | exact h.seen_fact zz4) : P := q
theorem zz17 {P : Prop} (q : P := by first | exact Seen.re8 h.seenV | exact Seen.reS h.seenV (by first | assumption | exact signF_all _ _ | exact sg_all _ _) zz19 | exact Seen.reN h.seenV | exact h.seenV | exact h.seenA (by first | decide | (simp only [maxLen]; omega)) zz0 | exact h.seen_old (by assumption) | exact h.seen_oldL (by assumption) (by assumption) | exact Seen.re8 (h.seen_fact zz4) | exact h.seen_fact zz4) : P := q
end Go.PL
