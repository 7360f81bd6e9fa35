/- Tactic blocks that recur, each as a theorem with a default. -/
import Derived.Calls
import Derived.Tactics
import Derived.OrdersHeld
import Derived.Below
import Derived.Laws.Bits
import Derived.Laws.AppendOwn
import Derived.Laws.Rows
import Derived.Laws.CopyRow
import Derived.Laws.Cells
import Derived.Laws.Entries
namespace Go.PL
theorem zz1 {P : Prop} (q : P := by first | omega | (simp only [maxLen]; omega) | (simp only [List.length_append, List.length_cons, List.length_nil, List.length_take, maxLen]; omega) | (simp only [List.length_append, List.length_cons, List.length_nil, List.length_take]; omega)) : P := q
theorem zz5 {P : Prop} (q : P := by first | decide | omega | exact Nat.zero_lt_one | (simp; omega) | (simp; done) | (simp only [v8s_length, v32s_length, vis_length, vns_length, v64s_length]; omega)) : P := q
theorem zz6 {P : Prop} (q : P := by kernel_rfl) : P := q
theorem zz7 {P : Prop} (q : P := by repeat (first | exact List.mem_cons_self .. | apply List.mem_cons_of_mem)) : P := q
theorem zz8 {P : Prop} (q : P := by repeat (first | exact Sub.nil | exact Sub.refl _ | with_reducible refine Sub.keep ?_ | refine Sub.drop ?_)) : P := q
theorem zz11 {P : Prop} (q : P := by first | exact ok1 hb106 | exact ok1 (bne_iff_ne.1 hb106) | exact ok2 hb113 | exact ok2 (bne_iff_ne.1 hb113) | exact ok3 hb120 | exact ok3 (bne_iff_ne.1 hb120) | exact ok4 hb127 | exact ok4 (bne_iff_ne.1 hb127) | exact ok5 hb133 | exact ok5 (bne_iff_ne.1 hb133) | exact ok6 hb138 | exact ok6 (bne_iff_ne.1 hb138) | exact ok4 (by simpa using hb127) | exact ok7 (by first | exact hb106 | exact bne_eq_false_iff_eq.1 hb106) (by first | exact hb113 | exact bne_eq_false_iff_eq.1 hb113) (by first | exact hb120 | exact bne_eq_false_iff_eq.1 hb120) (by first | exact hb127 | exact eq_of_beq hb127 | simpa using hb127) (by first | exact hb133 | exact bne_eq_false_iff_eq.1 hb133) (by first | exact hb138 | exact bne_eq_false_iff_eq.1 hb138)) : P := q
theorem zz13 {P : Prop} (q : P := by first | exact St.c_b hs.len | exact St.c_u hs.len | exact St.c_d hs.len | exact St.c_p hs.len | exact St.c_k hs.len) : P := q
theorem zz14 {P : Prop} (q : P := by repeat (first | exact trivial | refine ⟨rfl, ?_⟩)) : P := q
theorem zz16 {P : Prop} (q : P := by omega) : P := q
theorem zz18 {P : Prop} (q : P := by first | exact LenC.h | exact St.c_length (s := (setK s j { (s.ks.getD j KE.z) with nx := ((((s.ks.getD j KE.z).nx.toNat + 1 : Nat)) : Int) })) hs.len) : P := q
theorem zz19 {P : Prop} (q : P := by first | with_reducible exact List.nil_append _ | exact (v8s_append _ _).symm | exact (vis_append _ _).symm | exact (vns_append _ _).symm | exact (v64s_append _ _).symm | exact (v32s_append _ _).symm | rfl) : P := q
theorem zz21 {P : Prop} (q : P := by first | exact St.c_b hln | exact St.c_u hln | exact St.c_d hln | exact St.c_p hln | exact St.c_k hln) : P := q
theorem zz23 {P : Prop} (q : P := by first | exact St.c_length hs.len | exact St.c_length rfl) : P := q
theorem zz24 {P : Prop} (q : P := by first | exact OneC.h | exact St.c_one SV.nil SV.nil SV.nil | exact St.c_one (s := (setK s j { (s.ks.getD j KE.z) with nx := ((((s.ks.getD j KE.z).nx.toNat + 1 : Nat)) : Int) })) p13.1 p13.2.1 (by show SV _ (s.ks.set j _).length; rw [List.length_set]; exact q3) | exact St.c_one (s := (setK s j { (s.ks.getD j KE.z) with nx := ((((s.ks.getD j KE.z).nx.toNat + 1 : Nat)) : Int) })) p13.1 p13.2.1 p13.2.2) : P := q
theorem zz25 {P : Prop} (q : P := by first | exact StS.old h hs | exact ⟨hs.len, h.seenV, h.seenV, h.seenV, zz16, zz16, zz16⟩) : P := q
theorem zz26 {P : Prop} (q : P := by (first | with_reducible assumption | exact L16.h)) : P := q
theorem zz27 {P : Prop} (q : P := by decide) : P := q
theorem zz28 {P : Prop} (q : P := by first | rfl | (simp only [v8s_length, v32s_length, vis_length, v64s_length, List.length_replicate]; first | done | assumption | omega)) : P := q
theorem zz29 {P : Prop} (q : P := by first | exact OneC.h | exact St.c_one SV.nil SV.nil SV.nil | exact St.c_one (s := (setK s j { (s.ks.getD j KE.z) with nx := ((((s.ks.getD j KE.z).nx.toNat + 1 : Nat)) : Int) })) p49.1 p49.2.1 p49.2.2 | exact St.c_one (s := (setK s j { (s.ks.getD j KE.z) with nx := ((((s.ks.getD j KE.z).nx.toNat + 1 : Nat)) : Int) })) p57.2.1 p57.2.2.1 p57.2.2.2) : P := q
theorem zz30 {P : Prop} (q : P := by first | omega | assumption | decide | exact SV.nil | (simp; done) | (dsimp only; omega)) : P := q
theorem zz31 {P : Prop} (q : P := by first | exact v32s_get zz16 | rfl) : P := q
theorem zz32 {P : Prop} (q : P := by first | decide | omega) : P := q
theorem zz33 {P : Prop} (q : P := by first | assumption | exact signF_all _ _ | exact sg_all _ _ | exact sigC_all _ _ _ _ | exact sigP_all _ _ _ | exact pathF_all _ _ _) : P := q
theorem zz34 {P : Prop} (q : P := by first | exact v8s_get zz5 | rfl) : P := q
theorem zz35 {P : Prop} (q : P := by first | exact St.c_one SV.nil SV.nil SV.nil) : P := q
theorem zz36 {P : Prop} (q : P := by first | exact LenC.h | exact St.c_length (s := St.z) rfl) : P := q
theorem zz37 {P : Prop} (q : P := by first | exact hs.len | rfl) : P := q
theorem zz38 {P : Prop} (q : P := by first | exact vns_get zz5 | rfl) : P := q
theorem zz40 {P : Prop} (q : P := by first | exact St.s_d hs.len _ | exact St.s_p hs.len _ | exact St.s_k hs.len _) : P := q
theorem zz41 {P : Prop} (q : P := by first | decide | (simp; omega) | (simp only [v8s_length, v32s_length, vis_length, v64s_length]; omega)) : P := q
theorem zz42 {P : Prop} (q : P := by first | exact v32s_get zz5 | rfl) : P := q
theorem zz44 {P : Prop} (q : P := by first | rfl | exact writeF_len hs.len) : P := q
theorem zz45 {P : Prop} (q : P := by rw [List.length_drop]; omega) : P := q
theorem zz46 {P : Prop} (q : P := by rw [sp_bad hdo hc72]; exact h.sub SubC.h .nil) : P := q
theorem zz48 {P : Prop} (q : P := by first | rfl | exact hs.len) : P := q
theorem zz49 {P : Prop} (q : P := by rw [sp_bad hdo hc72]; first | done | rfl) : P := q
theorem zz50 {P : Prop} (q : P := by simp) : P := q
theorem zz51 {P : Prop} (q : P := by first | exact St.c_k (s := (setK s j { (s.ks.getD j KE.z) with nx := ((((s.ks.getD j KE.z).nx.toNat + 1 : Nat)) : Int) })) hs.len | exact St.c_d (s := (setK s j { (s.ks.getD j KE.z) with nx := ((((s.ks.getD j KE.z).nx.toNat + 1 : Nat)) : Int) })) hs.len) : P := q
theorem zz52 {P : Prop} (q : P := by rw [check_12 zz16 (by first | omega | (simp only [bne_iff_ne, ne_eq] at *; omega))]) : P := q
theorem zz53 {P : Prop} (q : P := by first | exact St.c_one SV.nil SV.nil SV.nil | exact St.c_one p20.1 p20.2.1 p20.2.2) : P := q
theorem zz54 {P : Prop} (q : P := by assumption) : P := q
theorem zz55 {P : Prop} (q : P := by rw [h] at hr; cases hr) : P := q
theorem zz56 {P : Prop} (q : P := by first | exact OneC.h | exact St.c_one SV.nil SV.nil SV.nil | exact St.c_one (s := St.z) p13.1 p13.2.1 p13.2.2) : P := q
theorem zz57 {P : Prop} (q : P := by first | exact OneC.h | exact St.c_one SV.nil SV.nil SV.nil | exact St.c_one (s := St.z) p49.1 p49.2.1 p49.2.2) : P := q
theorem zz58 {P : Prop} (q : P := by rw [sp_ok hdo hc72]; exact h.sub SubC.h .nil) : P := q
theorem zz59 {P : Prop} (q : P := by first | decide | (simp only [maxLen]; omega)) : P := q
theorem zz60 {P : Prop} (q : P := by rw [sp_bad hdo hc72]; exact hsv) : P := q
theorem zz61 {P : Prop} (q : P := by first | exact St.c_b hlen | exact St.c_u hlen | exact St.c_d hlen | exact St.c_p hlen | exact St.c_k hlen) : P := q
theorem zz62 {P : Prop} (q : P := by intro v hv; simp only [List.mem_cons, List.not_mem_nil, or_false] at hv; rcases hv with rfl <;> rfl) : P := q
theorem zz0 {P : Prop} (q : P := by first | with_reducible rfl | (simp only [v8s_length, v32s_length, vis_length, vns_length, v64s_length, List.length_replicate]; first | done | with_reducible assumption | omega) | (rw [v8s_length]; (first | with_reducible assumption | with_reducible exact shortF_length _ | with_reducible exact stepF_length _ _ _ | with_reducible exact sumF_length _ | with_reducible exact climbF_length _ (by first | with_reducible assumption | with_reducible exact shortF_length _ | with_reducible exact beginF_length _ _ | with_reducible exact getD_mem_len zz54 zz16) _ _ _ | with_reducible exact beginF_length _ _ | with_reducible exact chainF_length _ _ _ | with_reducible exact recF_length _ _ | with_reducible exact publicF_length _ | with_reducible exact getD_mem_len zz54 zz16 | (with_reducible exact List.length_replicate))) | rfl) : P := q
theorem zz2 {P : Prop} (q : P := by first | (with_reducible exact key_len _ _ zz26) | with_reducible rfl | (simp only [v8s_length, v32s_length, vis_length, vns_length, v64s_length, List.length_replicate]; first | done | with_reducible assumption | omega) | (rw [v8s_length]; (first | with_reducible assumption | exact L16.h)) | rfl) : P := q
theorem zz3 {P : Prop} (q : P := by first | assumption | exact SV.nil | exact SV.slv zz54 zz16 zz16 | exact arv_sv zz59) : P := q
theorem zz9 {P : Prop} (q : P := by first | exact h.seenV | exact h.seenA zz59 zz0 | exact h.seen_old zz54 | exact h.seen_oldL zz54 zz54 | exact h.seen_fact zz7) : P := q
theorem zz10 {P : Prop} (q : P := by (first | with_reducible assumption | with_reducible exact shortF_length _ | with_reducible exact stepF_length _ _ _ | with_reducible exact sumF_length _ | with_reducible exact climbF_length _ (by first | with_reducible assumption | with_reducible exact shortF_length _ | with_reducible exact beginF_length _ _ | with_reducible exact getD_mem_len zz54 zz16) _ _ _ | with_reducible exact beginF_length _ _ | with_reducible exact chainF_length _ _ _ | with_reducible exact recF_length _ _ | with_reducible exact publicF_length _ | with_reducible exact getD_mem_len zz54 zz16 | (with_reducible exact List.length_replicate))) : P := q
theorem zz12 {P : Prop} (q : P := by first | exact Seen.re8 h.seenV | exact Seen.reS h.seenV zz33 zz27 | exact Seen.reN h.seenV | exact h.seenV | exact h.seenA zz59 zz2 | exact h.seen_old zz54 | exact h.seen_oldL zz54 zz54 | exact Seen.re8 (h.seen_fact zz7) | exact h.seen_fact zz7) : P := q
theorem zz15 {P : Prop} (q : P := by first | exact Seen.re8 h.seenV | exact h.seenV | exact h.seenA zz59 zz0 | exact h.seen_old zz54 | exact h.seen_oldL zz54 zz54 | exact h.seen_old hs.d | exact h.seen_old hs.p | exact h.seen_old hs.k | exact Seen.re8 (h.seen_fact zz7) | exact h.seen_fact zz7) : P := q
theorem zz20 {P : Prop} (q : P := by first | exact h.seenV | exact h.seenA zz59 zz2 | exact h.seen_old zz54 | exact h.seen_oldL zz54 zz54 | exact h.seen_fact zz7) : P := q
theorem zz22 {P : Prop} (q : P := by first | exact Seen.re8 h.seenV | exact Seen.reS h.seenV (by first | assumption | exact signF_all _ _ | exact sg_all _ _) zz27 | exact Seen.reN h.seenV | exact h.seenV | exact h.seenA zz59 zz0 | exact h.seen_old zz54 | exact h.seen_oldL zz54 zz54 | exact Seen.re8 (h.seen_fact zz7) | exact h.seen_fact zz7) : P := q
theorem zz39 {P : Prop} (q : P := by first | assumption | exact SV.nil | exact SV.slv zz54 zz16 zz16) : P := q
theorem zz43 {P : Prop} (q : P := by first | (exact .inl zz16) | (exact .inr (.inl zz16)) | (exact .inr (.inr (.inl zz16))) | (exact .inr (.inr (.inr zz54)))) : P := q
theorem zz47 {P : Prop} (q : P := by first | exact St.c_one SV.nil SV.nil SV.nil | exact St.c_one zz3 zz3 zz3) : P := q
theorem zz4 {P : Prop} (q : P := by first | with_reducible exact key_one _ _ | (with_reducible exact sig_one (by first | assumption | exact SV.nil) (by first | assumption | exact SV.nil) _) | exact v8s_one _ | exact v32s_one _ | exact v64s_one _ | exact vis_one _ | exact vns_one _ | exact v16s_one _ | (intro u hu; simp at hu; rcases hu with h | h <;> subst h <;> rfl) | (intro u hu; simp only [List.mem_cons, List.not_mem_nil, or_false] at hu; subst hu; exact SV.one zz54) | (intro u hu; simp only [List.mem_cons, List.not_mem_nil, or_false] at hu; rcases hu with rfl <;> exact SV.one zz39) | (intro u hu; simp only [List.mem_cons, List.not_mem_nil, or_false] at hu; rcases hu with rfl | rfl <;> exact SV.one zz39) | (intro u hu; simp only [List.mem_cons, List.not_mem_nil, or_false] at hu; rcases hu with rfl | rfl | rfl <;> exact SV.one zz39) | (intro u hu; simp only [List.mem_cons, List.not_mem_nil, or_false] at hu; rcases hu with rfl | rfl | rfl | rfl <;> exact SV.one zz39) | (simp [Value.oneCell']; done)) : P := q
theorem zz17 {P : Prop} (q : P := by first | exact v8s_one _ | exact v32s_one _ | exact v64s_one _ | exact vis_one _ | exact vns_one _ | exact v16s_one _ | (intro u hu; simp at hu; rcases hu with h | h <;> subst h <;> rfl) | (intro u hu; simp only [List.mem_cons, List.not_mem_nil, or_false] at hu; subst hu; exact SV.one zz54) | (intro u hu; simp only [List.mem_cons, List.not_mem_nil, or_false] at hu; rcases hu with rfl <;> exact SV.one zz39) | (intro u hu; simp only [List.mem_cons, List.not_mem_nil, or_false] at hu; rcases hu with rfl | rfl <;> exact SV.one zz39) | (intro u hu; simp only [List.mem_cons, List.not_mem_nil, or_false] at hu; rcases hu with rfl | rfl | rfl <;> exact SV.one zz39) | (intro u hu; simp only [List.mem_cons, List.not_mem_nil, or_false] at hu; rcases hu with rfl | rfl | rfl | rfl <;> exact SV.one zz39) | (simp [Value.oneCell']; done)) : P := q
end Go.PL
