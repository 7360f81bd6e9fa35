/- Stores compared and spoilt. -/
import Derived.Test.YtoaeklbenmlooaaKT
import Derived.Test.YtoaeklbenmlooaaPLZ
namespace Go.Proofs.Ytoaeklbenmlooaa
set_option linter.unusedSimpArgs false
set_option linter.unusedVariables false
open Go Go.PL Go.RowKit

theorem eq8_23 : Eq8 Try.prog 23 32 := eqc_array Try.underlying23 Try.ti23 Try.ti5 rfl (eqc_int Try.underlying5 Try.ti5)
def greatF (s : St) : Bool := decide (1100 < s.dk.length) || decide (1100 < s.pd.length) || decide (20 < s.ks.length)
theorem great_f {s : St} (h : greatF s = false) : s.dk.length ≤ 1100 ∧ s.pd.length ≤ 1100 ∧ s.ks.length ≤ 20 := by
  simp only [greatF, Bool.or_eq_false_iff, decide_eq_false_iff_not] at h
  omega
theorem set77 (xs : List UInt8) (i : Nat) : (v8s xs).set i (.int .u8 77) = v8s (xs.set i 77) := v8s_set 77
theorem dRow_len (v : Value) {xs : List UInt8} {n : Nat} (h : xs.length = n) : dRow v xs = .row v n 5 1 (v8s xs) := by subst h; rfl
theorem kRow_len (v : Value) {ks : List KE} {n : Nat} (h : ks.length = n) : kRow v ks = .row v n 66 6 (kcs ks) := by subst h; rfl

set_option maxRecDepth 100000 in
theorem refGreat (s : St) (dv pv kv : Value) (w : World) (hln : s.ms.length = 32) (sdv : SV dv s.dk.length) (spv : SV pv s.pd.length) (skv : SV kv s.ks.length)  :
    Calls Try.prog 9 [.agg (s.c dv pv kv).toArray].toArray w (Pur w (.bool (greatF s))) := by
  refine enter (m := 19) (R := Mem w [] [] []) Try.func9 rfl rfl (Nat.le_of_ble_eq_true rfl) (Mem.start w) ?_
  refine wpc_seq ?_
  refine wpc_region ?_
  refine wpl_t (t_box rfl (s.c dv pv kv) rfl) rfl (fun b1 => ?_)
  refine wpl_q (q_pure rfl) rfl ?_
  first | skip
  refine wpl_nil ?_
  refine ex_then ?_
  refine wpc_seq ?_
  refine wpc_region ?_
  refine wpl_q (q_field Try.underlying27 rfl Try.ti24 rfl rfl _ rfl) rfl ?_
  refine wpl_q (q_ld Try.underlying24 rfl rfl (by first | exact St.c_b hln | exact St.c_u hln | exact St.c_d hln | exact St.c_p hln | exact St.c_k hln)) rfl ?_
  refine wpl_q (q_lenW Try.underlying24 rfl (by first | assumption | exact SV.nil | exact SV.slv (by assumption) (by omega) (by omega) | exact arv_sv (by first | decide | (simp only [maxLen]; omega)))) rfl ?_
  refine wpl_q (q_pure rfl) rfl ?_
  refine wpl_q (q_pure rfl) rfl ?_
  refine wpl_bool2 7 6 rfl rfl (fun hb7 => ?_) (fun hb7 => ?_)
  ·
   try simp only [decide_eq_true_eq] at hb7
   refine wpl_off rfl rfl rfl rfl ?_
   refine wpl_off rfl rfl rfl rfl ?_
   refine wpl_off rfl rfl rfl rfl ?_
   refine wpl_off rfl rfl rfl rfl ?_
   refine wpl_q (q_pure rfl) rfl ?_
   refine wpl_q (q_pure rfl) rfl ?_
   refine wpl_off rfl rfl rfl rfl ?_
   refine wpl_off rfl rfl rfl rfl ?_
   refine wpl_off rfl rfl rfl rfl ?_
   refine wpl_off rfl rfl rfl rfl ?_
   refine wpl_q (q_pure rfl) rfl ?_
   refine wpl_q (q_pure rfl) rfl ?_
   first | skip
   refine wpl_nil ?_
   refine ex_then ?_
   refine wpc_ret ?_
   refine ret1 (.inl rfl) rfl rfl ?_
   exact fun w h => ⟨by rw [show greatF s = true by simp only [greatF, Bool.or_eq_true, decide_eq_true_eq]; omega], h.below⟩
  ·
   try simp only [decide_eq_false_iff_not] at hb7
   refine wpl_on rfl rfl ?_
   refine wpl_q (q_field Try.underlying27 rfl Try.ti24 rfl rfl _ rfl) rfl ?_
   refine wpl_on rfl rfl ?_
   refine wpl_q (q_ld Try.underlying24 rfl rfl (by first | exact St.c_b hln | exact St.c_u hln | exact St.c_d hln | exact St.c_p hln | exact St.c_k hln)) rfl ?_
   refine wpl_on rfl rfl ?_
   refine wpl_q (q_lenW Try.underlying24 rfl (by first | assumption | exact SV.nil | exact SV.slv (by assumption) (by omega) (by omega) | exact arv_sv (by first | decide | (simp only [maxLen]; omega)))) rfl ?_
   refine wpl_on rfl rfl ?_
   refine wpl_q (q_pure rfl) rfl ?_
   refine wpl_q (q_pure rfl) rfl ?_
   refine wpl_q (q_pure rfl) rfl ?_
   refine wpl_bool2 13 11 rfl rfl (fun hb13 => ?_) (fun hb13 => ?_)
   ·
    try simp only [decide_eq_true_eq] at hb13
    refine wpl_off rfl rfl rfl rfl ?_
    refine wpl_off rfl rfl rfl rfl ?_
    refine wpl_off rfl rfl rfl rfl ?_
    refine wpl_off rfl rfl rfl rfl ?_
    refine wpl_q (q_pure rfl) rfl ?_
    refine wpl_q (q_pure rfl) rfl ?_
    first | skip
    refine wpl_nil ?_
    refine ex_then ?_
    refine wpc_ret ?_
    refine ret1 (.inl rfl) rfl rfl ?_
    exact fun w h => ⟨by rw [show greatF s = true by simp only [greatF, Bool.or_eq_true, decide_eq_true_eq]; omega], h.below⟩
   ·
    try simp only [decide_eq_false_iff_not] at hb13
    refine wpl_on rfl rfl ?_
    refine wpl_q (q_field Try.underlying27 rfl Try.ti25 rfl rfl _ rfl) rfl ?_
    refine wpl_on rfl rfl ?_
    refine wpl_q (q_ld Try.underlying25 rfl rfl (by first | exact St.c_b hln | exact St.c_u hln | exact St.c_d hln | exact St.c_p hln | exact St.c_k hln)) rfl ?_
    refine wpl_on rfl rfl ?_
    refine wpl_q (q_lenW Try.underlying25 rfl (by first | assumption | exact SV.nil | exact SV.slv (by assumption) (by omega) (by omega) | exact arv_sv (by first | decide | (simp only [maxLen]; omega)))) rfl ?_
    refine wpl_on rfl rfl ?_
    refine wpl_q (q_pure rfl) rfl ?_
    refine wpl_q (q_pure rfl) rfl ?_
    refine wpl_q (q_pure rfl) rfl ?_
    first | skip
    refine wpl_nil ?_
    refine ex_then ?_
    refine wpc_ret ?_
    refine ret1 (.inl rfl) rfl rfl ?_
    exact fun w h => ⟨by rw [show greatF s = decide (((s.ks.length : Nat) : Int) > 20) by rw [Bool.eq_iff_iff]; simp only [greatF, Bool.or_eq_true, decide_eq_true_eq]; omega], h.below⟩

set_option maxRecDepth 100000 in
theorem refSame_ (s : St) (dv pv kv dv2 pv2 kv2 : Value) (w : World) (hln : s.ms.length = 32) (hd : Seen w.cell? dv s.dk.length 1 (v8s s.dk)) (hp : Seen w.cell? pv s.pd.length 1 (v8s s.pd)) (hk : Seen w.cell? kv s.ks.length 6 (kcs s.ks)) (hd2 : Seen w.cell? dv2 s.dk.length 1 (v8s s.dk)) (hp2 : Seen w.cell? pv2 s.pd.length 1 (v8s s.pd)) (hk2 : Seen w.cell? kv2 s.ks.length 6 (kcs s.ks))  :
    Calls Try.prog 19 [.agg (s.c dv pv kv).toArray, .agg (s.c dv2 pv2 kv2).toArray].toArray w (Pur w (.bool true)) := by
  have sdv := hd.sv
  have spv := hp.sv
  have skv := hk.sv
  have sdv2 := hd2.sv
  have spv2 := hp2.sv
  have skv2 := hk2.sv
  refine enter (m := 45) (R := Mem w [] [] []) Try.func19 rfl rfl (Nat.le_of_ble_eq_true rfl) (Mem.start w) ?_
  refine wpc_seq ?_
  refine wpc_region ?_
  refine wpl_t (t_box rfl (s.c dv pv kv) rfl) rfl (fun b2 => ?_)
  refine wpl_t (t_box rfl (s.c dv2 pv2 kv2) rfl) rfl (fun b3 => ?_)
  refine wpl_q (q_pure rfl) rfl ?_
  refine wpl_nil ?_
  refine ex_then ?_
  refine wpc_seq ?_
  refine wpc_region ?_
  refine wpl_q (q_field Try.underlying27 rfl Try.ti23 rfl rfl _ rfl) rfl ?_
  refine wpl_q (q_ldP Try.underlying23 rfl Try.ti23 rfl (v8s s.ms) (St.c_m hln) (by rw [v8s_length]; exact hln)) rfl ?_
  refine wpl_q (q_field Try.underlying27 rfl Try.ti23 rfl rfl _ rfl) rfl ?_
  refine wpl_q (q_ldP Try.underlying23 rfl Try.ti23 rfl (v8s s.ms) (St.c_m hln) (by rw [v8s_length]; exact hln)) rfl ?_
  refine wpl_q (q_eq8 eq8_23 (by kernel_rfl) rfl rfl hln hln) rfl ?_
  refine wpl_q (q_tru (q_pure rfl) (by simp)) rfl ?_
  refine wpl_on rfl rfl ?_
  refine wpl_q (q_field Try.underlying27 rfl Try.ti3 rfl rfl _ rfl) rfl ?_
  refine wpl_on rfl rfl ?_
  refine wpl_q (q_ld Try.underlying3 rfl rfl (by first | exact St.c_b hln | exact St.c_u hln | exact St.c_d hln | exact St.c_p hln | exact St.c_k hln)) rfl ?_
  refine wpl_on rfl rfl ?_
  refine wpl_q (q_field Try.underlying27 rfl Try.ti3 rfl rfl _ rfl) rfl ?_
  refine wpl_on rfl rfl ?_
  refine wpl_q (q_ld Try.underlying3 rfl rfl (by first | exact St.c_b hln | exact St.c_u hln | exact St.c_d hln | exact St.c_p hln | exact St.c_k hln)) rfl ?_
  refine wpl_on rfl rfl ?_
  refine wpl_q (q_pure rfl) rfl ?_
  refine wpl_q (q_pure rfl) rfl ?_
  refine wpl_q (q_tru (q_pure rfl) (by simp)) rfl ?_
  refine wpl_on rfl rfl ?_
  refine wpl_q (q_field Try.underlying27 rfl Try.ti4 rfl rfl _ rfl) rfl ?_
  refine wpl_on rfl rfl ?_
  refine wpl_q (q_ld Try.underlying4 rfl rfl (by first | exact St.c_b hln | exact St.c_u hln | exact St.c_d hln | exact St.c_p hln | exact St.c_k hln)) rfl ?_
  refine wpl_on rfl rfl ?_
  refine wpl_q (q_field Try.underlying27 rfl Try.ti4 rfl rfl _ rfl) rfl ?_
  refine wpl_on rfl rfl ?_
  refine wpl_q (q_ld Try.underlying4 rfl rfl (by first | exact St.c_b hln | exact St.c_u hln | exact St.c_d hln | exact St.c_p hln | exact St.c_k hln)) rfl ?_
  refine wpl_on rfl rfl ?_
  refine wpl_q (q_beq Try.underlying4 rfl rfl) rfl ?_
  refine wpl_q (q_pure rfl) rfl ?_
  refine wpl_q (q_tru (q_pure rfl) (by simp)) rfl ?_
  refine wpl_on rfl rfl ?_
  refine wpl_q (q_field Try.underlying27 rfl Try.ti24 rfl rfl _ rfl) rfl ?_
  refine wpl_on rfl rfl ?_
  refine wpl_q (q_ld Try.underlying24 rfl rfl (by first | exact St.c_b hln | exact St.c_u hln | exact St.c_d hln | exact St.c_p hln | exact St.c_k hln)) rfl ?_
  refine wpl_on rfl rfl ?_
  refine wpl_q (q_field Try.underlying27 rfl Try.ti24 rfl rfl _ rfl) rfl ?_
  refine wpl_on rfl rfl ?_
  refine wpl_q (q_ld Try.underlying24 rfl rfl (by first | exact St.c_b hln | exact St.c_u hln | exact St.c_d hln | exact St.c_p hln | exact St.c_k hln)) rfl ?_
  refine wpl_on rfl rfl ?_
  refine wpl_t (t_pur Try.hb35 rfl fun w h => refSameB dv s.dk dv2 s.dk w (h.seen_old hd) (h.seen_old hd2)) rfl (fun b29 => ?_)
  refine wpl_q (q_pure rfl) rfl ?_
  refine wpl_q (q_tru (q_pure rfl) (by simp)) rfl ?_
  refine wpl_on rfl rfl ?_
  refine wpl_q (q_field Try.underlying27 rfl Try.ti24 rfl rfl _ rfl) rfl ?_
  refine wpl_on rfl rfl ?_
  refine wpl_q (q_ld Try.underlying24 rfl rfl (by first | exact St.c_b hln | exact St.c_u hln | exact St.c_d hln | exact St.c_p hln | exact St.c_k hln)) rfl ?_
  refine wpl_on rfl rfl ?_
  refine wpl_q (q_field Try.underlying27 rfl Try.ti24 rfl rfl _ rfl) rfl ?_
  refine wpl_on rfl rfl ?_
  refine wpl_q (q_ld Try.underlying24 rfl rfl (by first | exact St.c_b hln | exact St.c_u hln | exact St.c_d hln | exact St.c_p hln | exact St.c_k hln)) rfl ?_
  refine wpl_on rfl rfl ?_
  refine wpl_t (t_pur Try.hb35 rfl fun w h => refSameB pv s.pd pv2 s.pd w (h.seen_old hp) (h.seen_old hp2)) rfl (fun b36 => ?_)
  refine wpl_q (q_pure rfl) rfl ?_
  refine wpl_q (q_tru (q_pure rfl) (by simp)) rfl ?_
  refine wpl_on rfl rfl ?_
  refine wpl_q (q_field Try.underlying27 rfl Try.ti25 rfl rfl _ rfl) rfl ?_
  refine wpl_on rfl rfl ?_
  refine wpl_q (q_ld Try.underlying25 rfl rfl (by first | exact St.c_b hln | exact St.c_u hln | exact St.c_d hln | exact St.c_p hln | exact St.c_k hln)) rfl ?_
  refine wpl_on rfl rfl ?_
  refine wpl_q (q_field Try.underlying27 rfl Try.ti25 rfl rfl _ rfl) rfl ?_
  refine wpl_on rfl rfl ?_
  refine wpl_q (q_ld Try.underlying25 rfl rfl (by first | exact St.c_b hln | exact St.c_u hln | exact St.c_d hln | exact St.c_p hln | exact St.c_k hln)) rfl ?_
  refine wpl_on rfl rfl ?_
  refine wpl_t (t_pur Try.hb48 rfl fun w h => sameKeys kv s.ks kv2 s.ks w (h.seen_old hk) (h.seen_old hk2)) rfl (fun b43 => ?_)
  refine wpl_q (q_pure rfl) rfl ?_
  refine wpl_q (q_pure rfl) rfl ?_
  refine wpl_nil ?_
  refine ex_then ?_
  refine wpc_ret ?_
  refine ret1 (.inl rfl) rfl rfl ?_
  exact fun w h => ⟨by simp, h.below⟩

set_option maxRecDepth 100000 in
theorem spoil (s : St) (dv pv kv : Value) (w : World) (hb : Mem w (nums [dRow dv s.dk, dRow pv s.pd, kRow kv s.ks]) [dRow dv s.dk, dRow pv s.pd, kRow kv s.ks] [] w) (hln : s.ms.length = 32) (hsv : s.sv (dv, pv, kv)) (hld : s.dk.length ≤ 1200) (hlp : s.pd.length ≤ 1200) (hlk : s.ks.length ≤ 30)  :
    Calls Try.prog 20 [.agg (s.c dv pv kv).toArray].toArray w (GivesA w [dRow dv s.dk, dRow pv s.pd, kRow kv s.ks] (fun x : List UInt8 × List UInt8 × List KE => x.1.length = s.dk.length ∧ x.2.1.length = s.pd.length ∧ x.2.2.length = s.ks.length) (fun _ => .tuple #[]) (fun x => [dRow dv x.1, dRow pv x.2.1, kRow kv x.2.2])) := by
  have sdv : SV dv s.dk.length := hsv.1
  have spv : SV pv s.pd.length := hsv.2.1
  have skv : SV kv s.ks.length := hsv.2.2
  refine enter (m := 39) (R := Mem w (nums [dRow dv s.dk, dRow pv s.pd, kRow kv s.ks]) [dRow dv s.dk, dRow pv s.pd, kRow kv s.ks] []) Try.func20 rfl rfl (Nat.le_of_ble_eq_true rfl) hb ?_
  refine wpc_seq ?_
  refine wpc_region ?_
  refine wpl_t (t_box rfl (s.c dv pv kv) rfl) rfl (fun b1 => ?_)
  refine wpl_nil ?_
  refine ex_then ?_
  refine wpc_seq ?_
  refine wpc_seq ?_
  refine wpc_region ?_
  refine wpl_q (q_pure rfl) rfl ?_
  refine wpl_nil ?_
  refine ex_then ?_
  refine wpc_block ?_
  refine wpc_loopc (ι := { x : Nat × List UInt8 // (x.1 ≤ s.dk.length) ∧ (x.2.length = s.dk.length) }) [(1, _)] (fun x Lc => (2, .int .i64 ((x.1.1 : Nat) : Int)) :: Lc) (fun x => Mem w (nums [dRow dv s.dk, dRow pv s.pd, kRow kv s.ks]) [.blk b1 27 (s.c dv pv kv), .row dv s.dk.length 5 1 (v8s x.1.2), dRow pv s.pd, kRow kv s.ks] []) (fun x => s.dk.length - x.1.1) ⟨(0, s.dk), ⟨Nat.zero_le _, rfl⟩⟩ (by repeat (first | exact trivial | refine ⟨rfl, ?_⟩)) ?_ ?_
  ·
   exact fun w h => h
  ·
   rintro ⟨⟨i, xs⟩, ⟨hi0, hi1⟩⟩; try dsimp only
   have hi0 : i ≤ s.dk.length := hi0; have hi1 : xs.length = s.dk.length := hi1
   refine wpc_seq ?_
   refine wpc_seq ?_
   refine wpc_region ?_
   refine wpl_q (q_pure rfl) rfl ?_
   refine wpl_q (q_field Try.underlying27 rfl Try.ti24 rfl rfl _ rfl) rfl ?_
   refine wpl_q (q_ld Try.underlying24 rfl rfl (by first | exact St.c_b hln | exact St.c_u hln | exact St.c_d hln | exact St.c_p hln | exact St.c_k hln)) rfl ?_
   refine wpl_q (q_lenW Try.underlying24 rfl (by first | assumption | exact SV.nil | exact SV.slv (by assumption) (by omega) (by omega) | exact arv_sv (by first | decide | (simp only [maxLen]; omega)))) rfl ?_
   refine wpl_q (q_pure rfl) rfl ?_
   refine wpl_nil ?_
   refine ex_then ?_
   refine wpc_cond rfl (fun hc9 => ?_) (fun hc9 => ?_)
   ·
    simp only [decide_eq_true_eq] at hc9
    refine wpc_skip ?_
    refine ex_then ?_
    refine wpc_seq ?_
    refine wpc_block ?_
    refine wpc_region ?_
    refine wpl_q (q_field Try.underlying27 rfl Try.ti24 rfl rfl _ rfl) rfl ?_
    refine wpl_q (q_ld Try.underlying24 rfl rfl (by first | exact St.c_b hln | exact St.c_u hln | exact St.c_d hln | exact St.c_p hln | exact St.c_k hln)) rfl ?_
    refine wpl_q (q_pure rfl) rfl ?_
    refine wpl_q (q_idxW1 Try.underlying24 Try.ti5 rfl rfl (by first | assumption | exact SV.nil | exact SV.slv (by assumption) (by omega) (by omega) | exact arv_sv (by first | decide | (simp only [maxLen]; omega))) (by first | omega | (simp only [maxLen]; omega) | (simp only [List.length_append, List.length_cons, List.length_nil, List.length_take, maxLen]; omega) | (simp only [List.length_append, List.length_cons, List.length_nil, List.length_take]; omega))) rfl ?_
    refine wpl_t0 (t_stW Try.ti5 rfl rfl rfl (by first | decide | omega | exact Nat.zero_lt_one | (simp; omega) | (simp; done) | (simp only [v8s_length, v32s_length, vis_length, vns_length, v64s_length]; omega)) _ (set77 xs i)) (fun _ => ?_)
    refine wpl_nil ?_
    refine ex_block ?_
    refine ex_then ?_
    refine wpc_region ?_
    refine wpl_q (q_pure rfl) rfl ?_
    refine wpl_q (q_addN (b := 1) rfl rfl (by first | omega | (simp only [maxLen]; omega) | (simp only [List.length_append, List.length_cons, List.length_nil, List.length_take, maxLen]; omega) | (simp only [List.length_append, List.length_cons, List.length_nil, List.length_take]; omega))) rfl ?_
    refine wpl_q (q_pure rfl) rfl ?_
    refine wpl_nil ?_
    refine ex_again ⟨(i + 1, xs.set i 77), ⟨by omega, by rw [List.length_set]; exact hi1⟩⟩ ?_ ?_ ?_
    ·
     exact (by repeat (first | exact trivial | refine ⟨rfl, ?_⟩))
    ·
     exact fun w h => by first | exact h | exact h.sub SubC.h SubC.h | exact h.sub (by repeat (first | exact Sub.nil | exact Sub.refl _ | with_reducible refine Sub.keep ?_ | refine Sub.drop ?_)) (by repeat (first | exact Sub.nil | exact Sub.refl _ | with_reducible refine Sub.keep ?_ | refine Sub.drop ?_))
    ·
     (show s.dk.length - (i + 1) < s.dk.length - i); omega
   ·
    simp only [decide_eq_false_iff_not] at hc9
    have hx1 := hi1
    refine wpc_exit ?_
    refine ex_then_exit ?_
    refine ex_then_exit ?_
    refine ex_block_hit ?_
    refine ex_then ?_
    refine wpc_seq ?_
    refine wpc_seq ?_
    refine wpc_region ?_
    refine wpl_q (q_pure rfl) rfl ?_
    refine wpl_nil ?_
    refine ex_then ?_
    refine wpc_block ?_
    refine wpc_loopc (ι := { x : Nat × List UInt8 // (x.1 ≤ s.pd.length) ∧ (x.2.length = s.pd.length) }) [(1, _)] (fun x Lc => (3, .int .i64 ((x.1.1 : Nat) : Int)) :: Lc) (fun x => Mem w (nums [dRow dv s.dk, dRow pv s.pd, kRow kv s.ks]) [.blk b1 27 (s.c dv pv kv), .row dv s.dk.length 5 1 (v8s xs), .row pv s.pd.length 5 1 (v8s x.1.2), kRow kv s.ks] []) (fun x => s.pd.length - x.1.1) ⟨(0, s.pd), ⟨Nat.zero_le _, rfl⟩⟩ (by repeat (first | exact trivial | refine ⟨rfl, ?_⟩)) ?_ ?_
    ·
     exact fun w h => h
    ·
     rintro ⟨⟨i, ys⟩, ⟨hi0, hi1⟩⟩; try dsimp only
     have hi0 : i ≤ s.pd.length := hi0; have hi1 : ys.length = s.pd.length := hi1
     skip
     refine wpc_seq ?_
     refine wpc_seq ?_
     refine wpc_region ?_
     refine wpl_q (q_pure rfl) rfl ?_
     refine wpl_q (q_field Try.underlying27 rfl Try.ti24 rfl rfl _ rfl) rfl ?_
     refine wpl_q (q_ld Try.underlying24 rfl rfl (by first | exact St.c_b hln | exact St.c_u hln | exact St.c_d hln | exact St.c_p hln | exact St.c_k hln)) rfl ?_
     refine wpl_q (q_lenW Try.underlying24 rfl (by first | assumption | exact SV.nil | exact SV.slv (by assumption) (by omega) (by omega) | exact arv_sv (by first | decide | (simp only [maxLen]; omega)))) rfl ?_
     refine wpl_q (q_pure rfl) rfl ?_
     refine wpl_nil ?_
     refine ex_then ?_
     refine wpc_cond rfl (fun hc20 => ?_) (fun hc20 => ?_)
     ·
      simp only [decide_eq_true_eq] at hc20
      refine wpc_skip ?_
      refine ex_then ?_
      refine wpc_seq ?_
      refine wpc_block ?_
      refine wpc_region ?_
      refine wpl_q (q_field Try.underlying27 rfl Try.ti24 rfl rfl _ rfl) rfl ?_
      refine wpl_q (q_ld Try.underlying24 rfl rfl (by first | exact St.c_b hln | exact St.c_u hln | exact St.c_d hln | exact St.c_p hln | exact St.c_k hln)) rfl ?_
      refine wpl_q (q_pure rfl) rfl ?_
      refine wpl_q (q_idxW1 Try.underlying24 Try.ti5 rfl rfl (by first | assumption | exact SV.nil | exact SV.slv (by assumption) (by omega) (by omega) | exact arv_sv (by first | decide | (simp only [maxLen]; omega))) (by first | omega | (simp only [maxLen]; omega) | (simp only [List.length_append, List.length_cons, List.length_nil, List.length_take, maxLen]; omega) | (simp only [List.length_append, List.length_cons, List.length_nil, List.length_take]; omega))) rfl ?_
      refine wpl_t0 (t_stW Try.ti5 rfl rfl rfl (by first | decide | omega | exact Nat.zero_lt_one | (simp; omega) | (simp; done) | (simp only [v8s_length, v32s_length, vis_length, vns_length, v64s_length]; omega)) _ (set77 ys i)) (fun _ => ?_)
      refine wpl_nil ?_
      refine ex_block ?_
      refine ex_then ?_
      refine wpc_region ?_
      refine wpl_q (q_pure rfl) rfl ?_
      refine wpl_q (q_addN (b := 1) rfl rfl (by first | omega | (simp only [maxLen]; omega) | (simp only [List.length_append, List.length_cons, List.length_nil, List.length_take, maxLen]; omega) | (simp only [List.length_append, List.length_cons, List.length_nil, List.length_take]; omega))) rfl ?_
      refine wpl_q (q_pure rfl) rfl ?_
      refine wpl_nil ?_
      refine ex_again ⟨(i + 1, ys.set i 77), ⟨by omega, by rw [List.length_set]; exact hi1⟩⟩ ?_ ?_ ?_
      ·
       exact (by repeat (first | exact trivial | refine ⟨rfl, ?_⟩))
      ·
       exact fun w h => by first | exact h | exact h.sub SubC.h SubC.h | exact h.sub (by repeat (first | exact Sub.nil | exact Sub.refl _ | with_reducible refine Sub.keep ?_ | refine Sub.drop ?_)) (by repeat (first | exact Sub.nil | exact Sub.refl _ | with_reducible refine Sub.keep ?_ | refine Sub.drop ?_))
      ·
       (show s.pd.length - (i + 1) < s.pd.length - i); omega
     ·
      simp only [decide_eq_false_iff_not] at hc20
      have hy1 := hi1
      refine wpc_exit ?_
      refine ex_then_exit ?_
      refine ex_then_exit ?_
      refine ex_block_hit ?_
      refine ex_then ?_
      refine wpc_seq ?_
      refine wpc_region ?_
      refine wpl_q (q_pure rfl) rfl ?_
      refine wpl_nil ?_
      refine ex_then ?_
      refine wpc_block ?_
      refine wpc_loopc (ι := { x : Nat × List KE // (x.1 ≤ s.ks.length) ∧ (x.2.length = s.ks.length) }) [(1, _)] (fun x Lc => (4, .int .i64 ((x.1.1 : Nat) : Int)) :: Lc) (fun x => Mem w (nums [dRow dv s.dk, dRow pv s.pd, kRow kv s.ks]) [.blk b1 27 (s.c dv pv kv), .row dv s.dk.length 5 1 (v8s xs), .row pv s.pd.length 5 1 (v8s ys), .row kv s.ks.length 66 6 (kcs x.1.2)] []) (fun x => s.ks.length - x.1.1) ⟨(0, s.ks), ⟨Nat.zero_le _, rfl⟩⟩ (by repeat (first | exact trivial | refine ⟨rfl, ?_⟩)) ?_ ?_
      ·
       exact fun w h => h
      ·
       rintro ⟨⟨i, ks⟩, ⟨hi0, hi1⟩⟩; try dsimp only
       have hi0 : i ≤ s.ks.length := hi0; have hi1 : ks.length = s.ks.length := hi1
       refine wpc_seq ?_
       refine wpc_seq ?_
       refine wpc_region ?_
       refine wpl_q (q_pure rfl) rfl ?_
       refine wpl_q (q_field Try.underlying27 rfl Try.ti25 rfl rfl _ rfl) rfl ?_
       refine wpl_q (q_ld Try.underlying25 rfl rfl (by first | exact St.c_b hln | exact St.c_u hln | exact St.c_d hln | exact St.c_p hln | exact St.c_k hln)) rfl ?_
       refine wpl_q (q_lenW Try.underlying25 rfl (by first | assumption | exact SV.nil | exact SV.slv (by assumption) (by omega) (by omega) | exact arv_sv (by first | decide | (simp only [maxLen]; omega)))) rfl ?_
       refine wpl_q (q_pure rfl) rfl ?_
       refine wpl_nil ?_
       refine ex_then ?_
       refine wpc_cond rfl (fun hc31 => ?_) (fun hc31 => ?_)
       ·
        simp only [decide_eq_true_eq] at hc31
        have hkl := kcs_length ks
        have hik : i < ks.length := by omega
        refine wpc_skip ?_
        refine ex_then ?_
        refine wpc_seq ?_
        refine wpc_block ?_
        refine wpc_region ?_
        refine wpl_q (q_field Try.underlying27 rfl Try.ti25 rfl rfl _ rfl) rfl ?_
        refine wpl_q (q_ld Try.underlying25 rfl rfl (by first | exact St.c_b hln | exact St.c_u hln | exact St.c_d hln | exact St.c_p hln | exact St.c_k hln)) rfl ?_
        refine wpl_q (q_pure rfl) rfl ?_
        refine wpl_q (q_idxW Try.underlying25 Try.ti66 rfl rfl (by first | assumption | exact SV.nil | exact SV.slv (by assumption) (by omega) (by omega) | exact arv_sv (by first | decide | (simp only [maxLen]; omega))) (by first | omega | (simp only [maxLen]; omega) | (simp only [List.length_append, List.length_cons, List.length_nil, List.length_take, maxLen]; omega) | (simp only [List.length_append, List.length_cons, List.length_nil, List.length_take]; omega))) rfl ?_
        refine wpl_q (q_fieldPo 2 Try.underlying66 rfl Try.ti3 rfl rfl rfl) rfl ?_
        refine wpl_t0 (t_stWF Try.ti3 rfl rfl rfl (by omega) (kcs (ks.set i { ks.getD i KE.z with nx := 77 })) (kcs_set _ hik rfl (by decide))) (fun _ => ?_)
        refine wpl_nil ?_
        refine ex_block ?_
        refine ex_then ?_
        refine wpc_region ?_
        refine wpl_q (q_pure rfl) rfl ?_
        refine wpl_q (q_addN (b := 1) rfl rfl (by first | omega | (simp only [maxLen]; omega) | (simp only [List.length_append, List.length_cons, List.length_nil, List.length_take, maxLen]; omega) | (simp only [List.length_append, List.length_cons, List.length_nil, List.length_take]; omega))) rfl ?_
        refine wpl_q (q_pure rfl) rfl ?_
        refine wpl_nil ?_
        refine ex_again ⟨(i + 1, ks.set i { ks.getD i KE.z with nx := 77 }), ⟨by omega, by rw [List.length_set]; exact hi1⟩⟩ ?_ ?_ ?_
        ·
         exact (by repeat (first | exact trivial | refine ⟨rfl, ?_⟩))
        ·
         exact fun w h => by first | exact h | exact h.sub SubC.h SubC.h | exact h.sub (by repeat (first | exact Sub.nil | exact Sub.refl _ | with_reducible refine Sub.keep ?_ | refine Sub.drop ?_)) (by repeat (first | exact Sub.nil | exact Sub.refl _ | with_reducible refine Sub.keep ?_ | refine Sub.drop ?_))
        ·
         (show s.ks.length - (i + 1) < s.ks.length - i); omega
       ·
        simp only [decide_eq_false_iff_not] at hc31
        refine wpc_exit ?_
        refine ex_then_exit ?_
        refine ex_then_exit ?_
        refine ex_block_hit ?_
        refine ret0 (.inr rfl) rfl ?_
        exact fun w h => ⟨(xs, ys, ks), ⟨hx1, hy1, hi1⟩, rfl, by dsimp only; rw [dRow_len dv hx1, dRow_len pv hy1, kRow_len kv hi1]; exact h.sub SubC.h .nil⟩

end Go.Proofs.Ytoaeklbenmlooaa
