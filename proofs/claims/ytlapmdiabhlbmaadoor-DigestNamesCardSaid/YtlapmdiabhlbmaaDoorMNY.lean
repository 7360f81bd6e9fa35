/- Tactic blocks that recur, each as a theorem with a default. -/
import Derived.Calls
import Derived.Tactics
import Derived.OrdersHeld
import Derived.Below
import Derived.Laws.Bits
import Derived.Laws.AppendOwn
import Derived.Laws.Rows
import Derived.Laws.CopyRow
import Derived.Laws.Cells
import Derived.Laws.Entries
namespace Go.PL
theorem zz1 {P : Prop} (q : P := by first | omega | (simp only [maxLen]; omega) | (simp only [List.length_append, List.length_cons, List.length_nil, List.length_take, maxLen]; omega) | (simp only [List.length_append, List.length_cons, List.length_nil, List.length_take]; omega)) : P := q
theorem zz3 {P : Prop} (q : P := by kernel_rfl) : P := q
theorem zz4 {P : Prop} (q : P := by omega) : P := q
theorem zz5 {P : Prop} (q : P := by first | assumption | exact SV.nil | exact SV.slv (by assumption) zz4 zz4 | exact arv_sv (by first | decide | (simp only [maxLen]; omega))) : P := q
theorem zz6 {P : Prop} (q : P := by first | (first | with_reducible assumption | with_reducible exact shortF_length _ | with_reducible exact stepF_length _ _ _ | with_reducible exact sumF_length _ | with_reducible exact climbF_length _ (by first | with_reducible assumption | with_reducible exact shortF_length _ | with_reducible exact beginF_length _ _ | with_reducible exact getD_mem_len (by assumption) zz4) _ _ _ | with_reducible exact beginF_length _ _ | with_reducible exact chainF_length _ _ _ | with_reducible exact recF_length _ _ | with_reducible exact publicF_length _ | with_reducible exact getD_mem_len (by assumption) zz4 | (with_reducible exact List.length_replicate)) | simp) : P := q
theorem zz8 {P : Prop} (q : P := by repeat (first | exact trivial | refine ⟨rfl, ?_⟩)) : P := q
theorem zz9 {P : Prop} (q : P := by repeat (first | exact Sub.nil | exact Sub.refl _ | with_reducible refine Sub.keep ?_ | refine Sub.drop ?_)) : P := q
theorem zz10 {P : Prop} (q : P := by first | decide | omega | exact Nat.zero_lt_one | (simp; omega) | (simp; done) | (simp only [v8s_length, v32s_length, vis_length, vns_length, v64s_length]; omega)) : P := q
theorem zz11 {P : Prop} (q : P := by first | exact .here | exact .there .here | exact .there (.there .here) | exact .there (.there (.there .here))) : P := q
theorem zz12 {P : Prop} (q : P := by repeat (first | exact List.mem_cons_self .. | apply List.mem_cons_of_mem)) : P := q
theorem zz13 {P : Prop} (q : P := by first | rfl | (simp only [v8s_length, v32s_length, vis_length, v64s_length, List.length_replicate]; first | done | assumption | omega)) : P := q
theorem zz14 {P : Prop} (q : P := by first | exact v32s_get zz4 | rfl) : P := q
theorem zz15 {P : Prop} (q : P := by decide) : P := q
theorem zz16 {P : Prop} (q : P := by first | decide | (simp; omega) | (simp only [v8s_length, v32s_length, vis_length, v64s_length]; omega)) : P := q
theorem zz17 {P : Prop} (q : P := by first | decide | omega) : P := q
theorem zz18 {P : Prop} (q : P := by rw [List.length_drop]; omega) : P := q
theorem zz19 {P : Prop} (q : P := by rw [(fh_no hN).1]; exact (show Mem w [] [.row (.slice none 0 0) 0 5 1 []] [] w1 from (h.nilRow 5 1).sel).made (Sub.refl _) .nil) : P := q
theorem zz20 {P : Prop} (q : P := by rw [(fb_no hN).1]; exact (show Mem w [] [.row (.slice none 0 0) 0 5 1 []] [] w1 from (h.nilRow 5 1).sel).made (Sub.refl _) .nil) : P := q
theorem zz21 {P : Prop} (q : P := by first | assumption | exact sumF_length _ | exact joinF_length _) : P := q
theorem zz22 {P : Prop} (q : P := by rw [h] at hr; cases hr) : P := q
theorem zz0 {P : Prop} (q : P := by first | with_reducible rfl | (simp only [v8s_length, v32s_length, vis_length, vns_length, v64s_length, List.length_replicate]; first | done | with_reducible assumption | omega) | (rw [v8s_length]; (first | with_reducible assumption | with_reducible exact shortF_length _ | with_reducible exact stepF_length _ _ _ | with_reducible exact sumF_length _ | with_reducible exact climbF_length _ (by first | with_reducible assumption | with_reducible exact shortF_length _ | with_reducible exact beginF_length _ _ | with_reducible exact getD_mem_len (by assumption) zz4) _ _ _ | with_reducible exact beginF_length _ _ | with_reducible exact chainF_length _ _ _ | with_reducible exact recF_length _ _ | with_reducible exact publicF_length _ | with_reducible exact getD_mem_len (by assumption) zz4 | (with_reducible exact List.length_replicate))) | rfl) : P := q
theorem zz2 {P : Prop} (q : P := by first | exact Seen.re8 h.seenV | exact Seen.reS h.seenV (by assumption) zz15 | exact Seen.reN h.seenV | exact h.seenV | exact h.seenA (by first | decide | (simp only [maxLen]; omega)) zz0 | exact h.seen_old (by assumption) | exact h.seen_oldL (by assumption) (by assumption) | exact Seen.re8 (h.seen_fact zz12) | exact h.seen_fact zz12) : P := q
theorem zz7 {P : Prop} (q : P := by first | exact h.seenV | exact h.seenA (by first | decide | (simp only [maxLen]; omega)) zz0 | exact h.seen_old (by assumption) | exact h.seen_oldL (by assumption) (by assumption) | exact h.seen_fact zz12) : P := q
end Go.PL
