/- A list spoilt. -/
import Derived.Test.YtgnablliekgbgaaVN
import Derived.Test.YtgnablliekgbgaaVM
namespace Go.Proofs.Ytgnablliekgbgaa
set_option linter.unusedSimpArgs false
set_option linter.unusedVariables false
open Go Go.PL Go.RowKit

theorem fl16 {l : List (List UInt8)} (h : ∀ x ∈ l, x.length = 16) : l.flatten.length = 16 * l.length := by
  induction l with
  | nil => rfl
  | cons x l ih =>
    rw [List.flatten_cons, List.length_append, h x (List.mem_cons_self ..), ih (fun y hy => h y (List.mem_cons_of_mem _ hy)), List.length_cons]; omega

set_option maxRecDepth 100000 in
theorem spoil (l : Rv) (w : World) (hb : Mem w (nums [.row l.sv l.ss.length 22 1 (v64s l.ss), .row l.cv l.chs.length 62 16 (v8s l.chs.flatten)]) [.row l.sv l.ss.length 22 1 (v64s l.ss), .row l.cv l.chs.length 62 16 (v8s l.chs.flatten)] [] w) (hsv : l.svs) (hlc : ∀ x ∈ l.chs, x.length = 16)  :
    Calls Try.prog 16 [.agg l.c.toArray].toArray w (GivesA w [.row l.sv l.ss.length 22 1 (v64s l.ss), .row l.cv l.chs.length 62 16 (v8s l.chs.flatten)] (fun x : List UInt64 × List UInt8 => x.1.length = l.ss.length ∧ x.2.length = 16 * l.chs.length) (fun _ => .tuple #[]) (fun x => [.row l.sv l.ss.length 22 1 (v64s x.1), .row l.cv l.chs.length 62 16 (v8s x.2)])) := by
  haveI := hsv.one
  have sss := hsv.1
  have scs := hsv.2.1
  have lss := sss.le
  have lcs := scs.le
  simp only [maxLen] at lss lcs
  refine enter (m := 36) (R := Mem w (nums [.row l.sv l.ss.length 22 1 (v64s l.ss), .row l.cv l.chs.length 62 16 (v8s l.chs.flatten)]) [.row l.sv l.ss.length 22 1 (v64s l.ss), .row l.cv l.chs.length 62 16 (v8s l.chs.flatten)] []) Try.func16 rfl rfl (Nat.le_of_ble_eq_true rfl) hb ?_
  refine wpc_seq ?_
  refine wpc_region ?_
  refine wpl_t (t_box rfl l.c rfl) rfl (fun b1 => ?_)
  refine wpl_nil ?_
  refine ex_then ?_
  refine wpc_seq ?_
  refine wpc_seq ?_
  refine wpc_region ?_
  refine wpl_q (q_pure rfl) rfl ?_
  refine wpl_nil ?_
  refine ex_then ?_
  refine wpc_block ?_
  refine wpc_loopc (ι := { x : Nat × List UInt64 // (x.1 ≤ l.ss.length) ∧ (x.2.length = l.ss.length) }) [(1, _)] (fun x Lc => (2, .int .i64 ((x.1.1 : Nat) : Int)) :: Lc) (fun x => Mem w (nums [.row l.sv l.ss.length 22 1 (v64s l.ss), .row l.cv l.chs.length 62 16 (v8s l.chs.flatten)]) [.blk b1 30 l.c, .row l.sv l.ss.length 22 1 (v64s x.1.2), .row l.cv l.chs.length 62 16 (v8s l.chs.flatten)] []) (fun x => l.ss.length - x.1.1) ⟨(0, l.ss), ⟨Nat.zero_le _, rfl⟩⟩ (by repeat (first | exact trivial | refine ⟨rfl, ?_⟩)) ?_ ?_
  ·
   exact fun w h => h
  ·
   rintro ⟨⟨i, xs⟩, ⟨hi0, hi1⟩⟩; try dsimp only
   have hi0 : i ≤ l.ss.length := hi0; have hi1 : xs.length = l.ss.length := hi1
   refine wpc_seq ?_
   refine wpc_seq ?_
   refine wpc_region ?_
   refine wpl_q (q_pure rfl) rfl ?_
   refine wpl_q (q_field Try.underlying30 rfl Try.ti25 rfl rfl _ rfl) rfl ?_
   refine wpl_q (q_ld Try.underlying25 rfl rfl (show l.c[4]? = some (l.sv) from rfl)) rfl ?_
   refine wpl_q (q_lenW Try.underlying25 rfl (by first | assumption | exact SV.nil | exact SV.slv (by assumption) (by omega) (by omega) | exact arv_sv (by first | decide | (simp only [maxLen]; omega)))) rfl ?_
   refine wpl_q (q_pure rfl) rfl ?_
   refine wpl_nil ?_
   refine ex_then ?_
   refine wpc_cond rfl (fun hc8 => ?_) (fun hc8 => ?_)
   ·
    simp only [decide_eq_true_eq] at hc8
    have hil : i < l.ss.length := by omega
    refine wpc_skip ?_
    refine ex_then ?_
    refine wpc_seq ?_
    refine wpc_block ?_
    refine wpc_region ?_
    refine wpl_q (q_field Try.underlying30 rfl Try.ti25 rfl rfl _ rfl) rfl ?_
    refine wpl_q (q_ld Try.underlying25 rfl rfl (show l.c[4]? = some (l.sv) from rfl)) rfl ?_
    refine wpl_q (q_pure rfl) rfl ?_
    refine wpl_q (q_idxW1 Try.underlying25 Try.ti22 rfl rfl (by first | assumption | exact SV.nil | exact SV.slv (by assumption) (by omega) (by omega) | exact arv_sv (by first | decide | (simp only [maxLen]; omega))) (by first | omega | (simp only [maxLen]; omega) | (simp only [List.length_append, List.length_cons, List.length_nil, List.length_take, maxLen]; omega) | (simp only [List.length_append, List.length_cons, List.length_nil, List.length_take]; omega))) rfl ?_
    refine wpl_q (q_ldW Try.underlying22 rfl rfl (fun w h => by first | exact h.seenV | exact h.seenA (by first | decide | (simp only [maxLen]; omega)) (by first | (with_reducible exact key_len _ _ (by (first | with_reducible assumption | exact L16.h))) | with_reducible rfl | (simp only [v8s_length, v32s_length, vis_length, vns_length, v64s_length, List.length_replicate]; first | done | with_reducible assumption | omega) | (rw [v8s_length]; (first | with_reducible assumption | exact L16.h)) | rfl) | exact h.seen_old (by assumption) | exact h.seen_oldL (by assumption) (by assumption) | exact h.seen_fact (by repeat (first | exact List.mem_cons_self .. | apply List.mem_cons_of_mem))) (by first | exact v64s_get (by first | decide | omega | exact Nat.zero_lt_one | (simp; omega) | (simp; done) | (simp only [v8s_length, v32s_length, vis_length, vns_length, v64s_length]; omega)) | rfl)) rfl ?_
    refine wpl_q (q64_add (b := (1 : UInt64)) rfl rfl) rfl ?_
    refine wpl_q (q_idxW1 Try.underlying25 Try.ti22 rfl rfl (by first | assumption | exact SV.nil | exact SV.slv (by assumption) (by omega) (by omega) | exact arv_sv (by first | decide | (simp only [maxLen]; omega))) (by first | omega | (simp only [maxLen]; omega) | (simp only [List.length_append, List.length_cons, List.length_nil, List.length_take, maxLen]; omega) | (simp only [List.length_append, List.length_cons, List.length_nil, List.length_take]; omega))) rfl ?_
    refine wpl_t0 (t_stW Try.ti22 rfl rfl rfl (by rw [v64s_length]; omega) _ (v64s_set _)) (fun _ => ?_)
    refine wpl_nil ?_
    refine ex_block ?_
    refine ex_then ?_
    refine wpc_region ?_
    refine wpl_q (q_pure rfl) rfl ?_
    refine wpl_q (q_addN (b := 1) rfl rfl (by first | omega | (simp only [maxLen]; omega) | (simp only [List.length_append, List.length_cons, List.length_nil, List.length_take, maxLen]; omega) | (simp only [List.length_append, List.length_cons, List.length_nil, List.length_take]; omega))) rfl ?_
    refine wpl_q (q_pure rfl) rfl ?_
    refine wpl_nil ?_
    refine ex_again ⟨(i + 1, xs.set i (xs.getD i 0 + 1)), ⟨by show i + 1 ≤ l.ss.length; omega, by show (xs.set i _).length = _; rw [List.length_set]; exact hi1⟩⟩ ?_ ?_ ?_
    ·
     exact (by repeat (first | exact trivial | refine ⟨rfl, ?_⟩))
    ·
     exact fun w h => by first | exact h | exact h.sub SubC.h SubC.h | exact h.sub (by repeat (first | exact Sub.nil | exact Sub.refl _ | with_reducible refine Sub.keep ?_ | refine Sub.drop ?_)) (by repeat (first | exact Sub.nil | exact Sub.refl _ | with_reducible refine Sub.keep ?_ | refine Sub.drop ?_))
    ·
     (show l.ss.length - (i + 1) < l.ss.length - i); omega
   ·
    simp only [decide_eq_false_iff_not] at hc8
    have hx1 := hi1
    refine wpc_exit ?_
    refine ex_then_exit ?_
    refine ex_then_exit ?_
    refine ex_block_hit ?_
    refine ex_then ?_
    refine wpc_seq ?_
    refine wpc_region ?_
    refine wpl_q (q_pure rfl) rfl ?_
    refine wpl_nil ?_
    refine ex_then ?_
    refine wpc_block ?_
    refine wpc_loopc (ι := { x : Nat × List UInt8 // (x.1 ≤ l.chs.length) ∧ (x.2.length = 16 * l.chs.length) }) [(1, _)] (fun x Lc => (3, .int .i64 ((x.1.1 : Nat) : Int)) :: Lc) (fun x => Mem w (nums [.row l.sv l.ss.length 22 1 (v64s l.ss), .row l.cv l.chs.length 62 16 (v8s l.chs.flatten)]) [.blk b1 30 l.c, .row l.sv l.ss.length 22 1 (v64s xs), .row l.cv l.chs.length 62 16 (v8s x.1.2)] []) (fun x => l.chs.length - x.1.1) ⟨(0, l.chs.flatten), ⟨Nat.zero_le _, fl16 hlc⟩⟩ (by repeat (first | exact trivial | refine ⟨rfl, ?_⟩)) ?_ ?_
    ·
     exact fun w h => h
    ·
     rintro ⟨⟨i, ys⟩, ⟨hi0, hi1⟩⟩; try dsimp only
     have hi0 : i ≤ l.chs.length := hi0; have hi1 : ys.length = 16 * l.chs.length := hi1
     have hxs := hx1
     refine wpc_seq ?_
     refine wpc_seq ?_
     refine wpc_region ?_
     refine wpl_q (q_pure rfl) rfl ?_
     refine wpl_q (q_field Try.underlying30 rfl Try.ti28 rfl rfl _ rfl) rfl ?_
     refine wpl_q (q_field Try.underlying28 rfl Try.ti26 rfl rfl _ rfl) rfl ?_
     refine wpl_q (q_ld Try.underlying26 rfl rfl (show l.c[6]? = some (l.cv) from rfl)) rfl ?_
     refine wpl_q (q_lenW Try.underlying26 rfl (by first | assumption | exact SV.nil | exact SV.slv (by assumption) (by omega) (by omega) | exact arv_sv (by first | decide | (simp only [maxLen]; omega)))) rfl ?_
     refine wpl_q (q_pure rfl) rfl ?_
     refine wpl_nil ?_
     refine ex_then ?_
     refine wpc_cond rfl (fun hc23 => ?_) (fun hc23 => ?_)
     ·
      simp only [decide_eq_true_eq] at hc23
      have hil : i < l.chs.length := by omega
      have hyl : i * 16 + 0 < ys.length := by omega
      refine wpc_skip ?_
      refine ex_then ?_
      refine wpc_seq ?_
      refine wpc_block ?_
      refine wpc_draw 10 (by kernel_rfl) (fun _ h => h.drew) ?_
      refine wpd_p 0 rfl (by kernel_rfl) trivial (q_field Try.underlying30 rfl Try.ti28 rfl rfl _ rfl) rfl sk0 ?_
      refine wpd_p 1 rfl (by kernel_rfl) trivial (q_field Try.underlying28 rfl Try.ti26 rfl rfl _ rfl) rfl sk0 ?_
      refine wpd_q 2 rfl (by kernel_rfl) trivial (q_ld Try.underlying26 rfl rfl (show l.c[6]? = some (l.cv) from rfl)) rfl (fun _ h => h) ?_
      refine wpd_p 3 rfl (by kernel_rfl) trivial (q_pure rfl) rfl sk0 ?_
      refine wpd_p 4 rfl (by kernel_rfl) trivial (q_idxW Try.underlying26 Try.ti62 rfl rfl (by first | assumption | exact SV.nil | exact SV.slv (by assumption) (by omega) (by omega) | exact arv_sv (by first | decide | (simp only [maxLen]; omega))) (by first | omega | (simp only [maxLen]; omega) | (simp only [List.length_append, List.length_cons, List.length_nil, List.length_take, maxLen]; omega) | (simp only [List.length_append, List.length_cons, List.length_nil, List.length_take]; omega))) rfl sk0 ?_
      refine wpd_p 5 rfl (by kernel_rfl) trivial (q_idxP1 (j := 0) Try.underlying62 Try.ti5 rfl rfl (by omega)) rfl sk0 ?_
      refine wpd_q 6 rfl (by kernel_rfl) trivial (q_ldWF Try.underlying5 rfl rfl (fun w h => by first | exact h.seenV | exact h.seenA (by first | decide | (simp only [maxLen]; omega)) (by first | (with_reducible exact key_len _ _ (by (first | with_reducible assumption | exact L16.h))) | with_reducible rfl | (simp only [v8s_length, v32s_length, vis_length, vns_length, v64s_length, List.length_replicate]; first | done | with_reducible assumption | omega) | (rw [v8s_length]; (first | with_reducible assumption | exact L16.h)) | rfl) | exact h.seen_old (by assumption) | exact h.seen_oldL (by assumption) (by assumption) | exact h.seen_fact (by repeat (first | exact List.mem_cons_self .. | apply List.mem_cons_of_mem))) (v8s_get hyl)) rfl (fun _ h => h) ?_
      refine wpd_p 7 rfl (by kernel_rfl) trivial (q8_add (b := (1 : UInt8)) rfl rfl) rfl sk0 ?_
      refine wpd_p 8 rfl (by kernel_rfl) trivial (q_idxW Try.underlying26 Try.ti62 rfl rfl (by first | assumption | exact SV.nil | exact SV.slv (by assumption) (by omega) (by omega) | exact arv_sv (by first | decide | (simp only [maxLen]; omega))) (by first | omega | (simp only [maxLen]; omega) | (simp only [List.length_append, List.length_cons, List.length_nil, List.length_take, maxLen]; omega) | (simp only [List.length_append, List.length_cons, List.length_nil, List.length_take]; omega))) rfl sk0 ?_
      refine wpd_p 9 rfl (by kernel_rfl) trivial (q_idxP1 (j := 0) Try.underlying62 Try.ti5 rfl rfl (by omega)) rfl sk0 ?_
      refine wpd_t0 10 rfl (by kernel_rfl) trivial (t_stWF Try.ti5 rfl rfl rfl (by rw [v8s_length]; exact hyl) (v8s (ys.set (i * 16 + 0) (ys.getD (i * 16 + 0) 0 + 1))) (v8s_set _)) (fun _ => skk rfl) (fun _ => ?_)
      refine wpd_done (by kernel_rfl) ?_
      refine ex_block ?_
      refine ex_then ?_
      refine wpc_region ?_
      refine wpl_q (q_pure rfl) rfl ?_
      refine wpl_q (q_addN (b := 1) rfl rfl (by first | omega | (simp only [maxLen]; omega) | (simp only [List.length_append, List.length_cons, List.length_nil, List.length_take, maxLen]; omega) | (simp only [List.length_append, List.length_cons, List.length_nil, List.length_take]; omega))) rfl ?_
      refine wpl_q (q_pure rfl) rfl ?_
      refine wpl_nil ?_
      refine ex_again ⟨(i + 1, ys.set (i * 16 + 0) (ys.getD (i * 16 + 0) 0 + 1)), ⟨by show i + 1 ≤ l.chs.length; omega, by show (ys.set _ _).length = _; rw [List.length_set]; exact hi1⟩⟩ ?_ ?_ ?_
      ·
       exact (by repeat (first | exact trivial | refine ⟨rfl, ?_⟩))
      ·
       exact fun w h => by first | exact h | exact h.sub SubC.h SubC.h | exact h.sub (by repeat (first | exact Sub.nil | exact Sub.refl _ | with_reducible refine Sub.keep ?_ | refine Sub.drop ?_)) (by repeat (first | exact Sub.nil | exact Sub.refl _ | with_reducible refine Sub.keep ?_ | refine Sub.drop ?_))
      ·
       (show l.chs.length - (i + 1) < l.chs.length - i); omega
     ·
      simp only [decide_eq_false_iff_not] at hc23
      have hy1 := hi1
      refine wpc_exit ?_
      refine ex_then_exit ?_
      refine ex_then_exit ?_
      refine ex_block_hit ?_
      refine ret0 (.inr rfl) rfl ?_
      exact fun w h => ⟨(xs, ys), ⟨hx1, hy1⟩, rfl, h.sub SubC.h .nil⟩

end Go.Proofs.Ytgnablliekgbgaa
