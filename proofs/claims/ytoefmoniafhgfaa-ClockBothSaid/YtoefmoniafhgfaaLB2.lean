/- The law ClockBoth: its walk, windows that do not meet. -/
import Derived.Test.YtoefmoniafhgfaaLB
namespace Go.Proofs.Ytoefmoniafhgfaa.LB
set_option linter.unusedSimpArgs false
set_option linter.unusedVariables false
open Go Go.PL Go.RowKit Go.Proofs.Ytoefmoniafhgfaa Go.Proofs.Ytoefmoniafhgfaa.PClockWindows Go.Proofs.YtoefmoniafhgfaaW.PrintWords Go.Proofs.YtoefmoniafhgfaaW.PrintMore Go.Proofs.YtoefmoniafhgfaaW.PrintLast Go.Proofs.Ytoefmoniafhgfaa.Clk

set_option maxRecDepth 100000 in
theorem noAT (a b c d tm : Int) (w : World) (h1 : chkW a b = 0) (h2 : chkW c d = 0) (h3 : max a c > min b d) (h4 : a ≠ 0) (hi : inW a b tm = true) :
    Calls Try.prog 8 [.agg #[.int .i64 a, .int .i64 b], .agg #[.int .i64 c, .int .i64 d], .int .i64 tm].toArray w (Pur w (.bool true)) := by
  have hk1 := chk_w a b
  have hk2 := chk_w c d
  rw [h1] at hk1
  rw [h2] at hk2
  obtain ⟨z1, z2, z3, z4, z5⟩ := (chkW0 a b).1 h1
  obtain ⟨y1, y2, y3, y4, y5⟩ := (chkW0 c d).1 h2
  have eb1 := both_w a b c d
  have eb2 := both_w c d a b
  unfold bothW at eb1 eb2
  rw [if_pos ⟨h1, h2⟩] at eb1
  rw [if_pos ⟨h2, h1⟩] at eb2
  rw [if_pos (by omega)] at eb1 eb2
  have hb1 : clock_Both.f 4 a b c d = some (0, 0, false, 0) := eb1
  have hb2 : clock_Both.f 4 c d a b = some (0, 0, false, 0) := eb2
  have hk3 : clock_Check.f 0 0 = some 0 := by rw [chk_w, (chkW0 0 0).2 (by omega)]
  have hi1 := in_w a b tm
  rw [hi] at hi1
  have hi2 : inW c d tm = false := by
    have e1 := (inW_iff a b tm).1 hi
    cases hq : inW c d tm
    · rfl
    · have e2 := (inW_iff c d tm).1 hq; omega
  refine enter (n := 104) (R := Mem w [] [] []) Try.func8 rfl rfl (Nat.le_of_ble_eq_true rfl) (Mem.start w) ?_
  refine wpc_seq ?_
  -- region 0
  refine wpc_region ?_
  refine wpl_t (t_box rfl _ rfl) rfl ?_
  intro b3
  refine wpl_t (t_box rfl _ rfl) rfl ?_
  intro b4
  refine wpl_q (q_pure rfl) rfl ?_
  refine wpl_nil ?_
  refine ex_then ?_
  refine wpc_seq ?_
  -- region 1
  refine wpc_region ?_
  refine wpl_t (t_pur Try.hb16 rfl fun w' h => alive_calls w') rfl ?_
  intro b14
  refine wpl_q (q_pure rfl) rfl ?_
  refine wpl_nil ?_
  refine ex_then ?_
  refine wpc_seq ?_
  -- region 2
  refine wpc_region ?_
  refine wpl_q (q_ldN Try.underlying30 rfl Try.ti30 rfl (by first | rfl | (simp only [v8s_length, v32s_length, vis_length, v64s_length, List.length_replicate]; first | done | assumption | omega))) rfl ?_
  refine wpl_q (q_ldN Try.underlying30 rfl Try.ti30 rfl (by first | rfl | (simp only [v8s_length, v32s_length, vis_length, v64s_length, List.length_replicate]; first | done | assumption | omega))) rfl ?_
  refine wpl_t (t_pur Try.hb17 rfl fun w' h => clock_Both.calls 4 a b c d 0 0 false 0 w' hb1) rfl ?_
  intro b18
  refine wpl_q (q_pure rfl) rfl ?_
  refine wpl_q (q_pure rfl) rfl ?_
  refine wpl_q (q_pure rfl) rfl ?_
  refine wpl_q (q_pure rfl) rfl ?_
  refine wpl_t (t_alloc Try.ti30 _ rfl) rfl ?_
  intro b8
  refine wpl_t0 (t_stA Try.ti30 rfl rfl (by first | rfl | (simp only [v8s_length, v32s_length, vis_length, v64s_length, List.length_replicate]; first | done | assumption | omega)) (by first | exact v32s_one _ | exact v8s_one _ | exact v64s_one _ | (intro u hu; simp at hu; rcases hu with h | h <;> subst h <;> rfl) | (simp [Value.oneCell']; done)) (by first | rfl | (simp only [v8s_length, v32s_length, vis_length, v64s_length, List.length_replicate]; first | done | assumption | omega))) ?_
  intro _
  refine wpl_q (q_pure rfl) rfl ?_
  refine wpl_q (q_pure rfl) rfl ?_
  refine wpl_nil ?_
  refine ex_then ?_
  refine wpc_seq ?_
  refine wpc_seq ?_
  -- region 3
  refine wpc_region ?_
  refine wpl_q (q_ldN Try.underlying30 rfl Try.ti30 rfl (by first | rfl | (simp only [v8s_length, v32s_length, vis_length, v64s_length, List.length_replicate]; first | done | assumption | omega))) rfl ?_
  refine wpl_t (t_pur Try.hb21 rfl fun w' h => clock_Check.calls a b 0 w' hk1) rfl ?_
  intro b23
  refine wpl_q (q_pure rfl) rfl ?_
  refine wpl_q (q_pure rfl) rfl ?_
  refine wpl_on rfl rfl ?_
  refine wpl_q (q_ldN Try.underlying30 rfl Try.ti30 rfl (by first | rfl | (simp only [v8s_length, v32s_length, vis_length, v64s_length, List.length_replicate]; first | done | assumption | omega))) rfl ?_
  refine wpl_on rfl rfl ?_
  refine wpl_t (t_pur Try.hb21 rfl fun w' h => clock_Check.calls c d 0 w' hk2) rfl ?_
  intro b27
  refine wpl_on rfl rfl ?_
  refine wpl_q (q_pure rfl) rfl ?_
  refine wpl_q (q_pure rfl) rfl ?_
  refine wpl_nil ?_
  refine ex_then ?_
  refine wpc_cond_f rfl ?_
  refine wpc_skip ?_
  refine ex_then ?_
  refine wpc_seq ?_
  -- region 5
  refine wpc_region ?_
  refine wpl_q (q_ldN Try.underlying30 rfl Try.ti30 rfl (by first | rfl | (simp only [v8s_length, v32s_length, vis_length, v64s_length, List.length_replicate]; first | done | assumption | omega))) rfl ?_
  refine wpl_q (q_ldN Try.underlying30 rfl Try.ti30 rfl (by first | rfl | (simp only [v8s_length, v32s_length, vis_length, v64s_length, List.length_replicate]; first | done | assumption | omega))) rfl ?_
  refine wpl_t (t_pur Try.hb17 rfl fun w' h => clock_Both.calls 4 c d a b 0 0 false 0 w' hb2) rfl ?_
  intro b42
  refine wpl_q (q_pure rfl) rfl ?_
  refine wpl_q (q_pure rfl) rfl ?_
  refine wpl_q (q_pure rfl) rfl ?_
  refine wpl_q (q_pure rfl) rfl ?_
  refine wpl_t (t_alloc Try.ti30 _ rfl) rfl ?_
  intro b11
  refine wpl_t0 (t_stA Try.ti30 rfl rfl (by first | rfl | (simp only [v8s_length, v32s_length, vis_length, v64s_length, List.length_replicate]; first | done | assumption | omega)) (by first | exact v32s_one _ | exact v8s_one _ | exact v64s_one _ | (intro u hu; simp at hu; rcases hu with h | h <;> subst h <;> rfl) | (simp [Value.oneCell']; done)) (by first | rfl | (simp only [v8s_length, v32s_length, vis_length, v64s_length, List.length_replicate]; first | done | assumption | omega))) ?_
  intro _
  refine wpl_q (q_pure rfl) rfl ?_
  refine wpl_q (q_pure rfl) rfl ?_
  refine wpl_nil ?_
  refine ex_then ?_
  refine wpc_seq ?_
  -- region 6
  refine wpc_draw 59 (by kernel_rfl) (fun _ h => h.drew) ?_
  refine wpd_p 0 rfl (by kernel_rfl) trivial (q_pure rfl) rfl sk0 ?_
  refine wpd_p 1 rfl (by kernel_rfl) trivial (q_pure rfl) rfl sk0 ?_
  refine wpd_p 2 rfl (by kernel_rfl) ⟨_, rfl, rfl⟩ (q_pure rfl) rfl sk0 ?_
  refine wpd_p 3 rfl (by kernel_rfl) ⟨_, rfl, rfl⟩ (q_pure rfl) rfl sk0 ?_
  refine wpd_p 4 rfl (by kernel_rfl) trivial (q_pure rfl) rfl sk0 ?_
  refine wpd_p 5 rfl (by kernel_rfl) trivial (q_pure rfl) rfl sk0 ?_
  refine wpd_p 6 rfl (by kernel_rfl) ⟨_, rfl, rfl⟩ (q_pure rfl) rfl sk0 ?_
  refine wpd_p 7 rfl (by kernel_rfl) ⟨_, rfl, rfl⟩ (q_pure rfl) rfl sk0 ?_
  refine wpd_p 8 rfl (by kernel_rfl) trivial (q_pure rfl) rfl sk0 ?_
  refine wpd_p 9 rfl (by kernel_rfl) trivial (q_pure rfl) rfl sk0 ?_
  refine wpd_q 10 rfl (by kernel_rfl) ⟨_, rfl, rfl⟩ (q_ldN Try.underlying30 rfl Try.ti30 rfl (by first | rfl | (simp only [v8s_length, v32s_length, vis_length, v64s_length, List.length_replicate]; first | done | assumption | omega))) rfl (fun _ h => h) ?_
  refine wpd_q 11 rfl (by kernel_rfl) ⟨_, rfl, rfl⟩ (q_ldN Try.underlying30 rfl Try.ti30 rfl (by first | rfl | (simp only [v8s_length, v32s_length, vis_length, v64s_length, List.length_replicate]; first | done | assumption | omega))) rfl (fun _ h => h) ?_
  refine wpd_p 12 rfl (by kernel_rfl) ⟨_, rfl, rfl⟩ (q_eqA eqc30 (by decide) guard30 rfl rfl (win_ok _ _) (win_ok _ _) true (by simp)) rfl sk0 ?_
  refine wpd_p 13 rfl (by kernel_rfl) trivial (q_pure rfl) rfl sk0 ?_
  refine wpd_p 14 rfl (by kernel_rfl) trivial (q_pure rfl) rfl sk0 ?_
  refine wpd_p 15 rfl (by kernel_rfl) ⟨_, rfl, rfl⟩ (q_pure rfl) rfl sk0 ?_
  refine wpd_p 16 rfl (by kernel_rfl) ⟨_, rfl, rfl⟩ (q_pure rfl) rfl sk0 ?_
  refine wpd_p 17 rfl (by kernel_rfl) ⟨_, rfl, rfl⟩ (qop_eq (q_beq Try.underlying4 rfl rfl) (v := .bool true) (by simp)) rfl sk0 ?_
  refine wpd_p 18 rfl (by kernel_rfl) trivial (q_pure rfl) rfl sk0 ?_
  refine wpd_p 19 rfl (by kernel_rfl) trivial (q_pure rfl) rfl sk0 ?_
  refine wpd_p 20 rfl (by kernel_rfl) ⟨_, rfl, rfl⟩ (q_pure rfl) rfl sk0 ?_
  refine wpd_q 21 rfl (by kernel_rfl) ⟨_, rfl, rfl⟩ (q_ldN Try.underlying30 rfl Try.ti30 rfl (by first | rfl | (simp only [v8s_length, v32s_length, vis_length, v64s_length, List.length_replicate]; first | done | assumption | omega))) rfl (fun _ h => h) ?_
  refine wpd_t 22 rfl (by kernel_rfl) ⟨_, rfl, rfl⟩ (t_pur Try.hb21 rfl fun w' h => clock_Check.calls 0 0 0 w' hk3) rfl (fun _ => sk0) ?_
  intro b68
  refine wpd_p 23 rfl (by kernel_rfl) ⟨_, rfl, rfl⟩ (q_pure rfl) rfl sk0 ?_
  refine wpd_p 24 rfl (by kernel_rfl) ⟨_, rfl, rfl⟩ (q_pure rfl) rfl sk0 ?_
  refine wpd_q 25 rfl (by kernel_rfl) ⟨_, rfl, rfl⟩ (q_ldN Try.underlying30 rfl Try.ti30 rfl (by first | rfl | (simp only [v8s_length, v32s_length, vis_length, v64s_length, List.length_replicate]; first | done | assumption | omega))) rfl (fun _ h => h) ?_
  refine wpd_p 26 rfl (by kernel_rfl) ⟨_, rfl, rfl⟩ (q_build (cs := [.int .i64 0, .int .i64 0]) (vs := []) rfl (built_struct Try.underlying30 Try.ti30 (pl := [(0, 1), (1, 1)]) (by kernel_rfl) rfl)) rfl sk0 ?_
  refine wpd_p 27 rfl (by kernel_rfl) ⟨_, rfl, rfl⟩ (q_neA eqc30 (by decide) guard30 rfl rfl (win_ok _ _) (win_ok _ _) false (by simp)) rfl sk0 ?_
  refine wpd_p 28 rfl (by kernel_rfl) ⟨_, rfl, rfl⟩ (q_pure rfl) rfl sk0 ?_
  refine wpd_p 29 rfl (by kernel_rfl) ⟨_, rfl, rfl⟩ (q_field Try.underlying30 rfl Try.ti2 rfl rfl _ rfl) rfl sk0 ?_
  refine wpd_q 30 rfl (by kernel_rfl) ⟨_, rfl, rfl⟩ (q_ld Try.underlying2 rfl rfl (by first | exact vis_get (by omega) | rfl)) rfl (fun _ h => h) ?_
  refine wpd_p 31 rfl (by kernel_rfl) ⟨_, rfl, rfl⟩ (qop_eq (q_pure rfl) (v := .bool false) (by simp; omega)) rfl sk0 ?_
  refine wpd_p 32 rfl (by kernel_rfl) ⟨_, rfl, rfl⟩ (q_pure rfl) rfl sk0 ?_
  refine wpd_off 33 rfl (by kernel_rfl) ⟨_, _, rfl, rfl, rfl⟩ rfl sk0 ?_
  refine wpd_off 34 rfl (by kernel_rfl) ⟨_, _, rfl, rfl, rfl⟩ rfl sk0 ?_
  refine wpd_off 35 rfl (by kernel_rfl) ⟨_, _, rfl, rfl, rfl⟩ rfl sk0 ?_
  refine wpd_p 36 rfl (by kernel_rfl) ⟨_, rfl, rfl⟩ (q_pure rfl) rfl sk0 ?_
  refine wpd_p 37 rfl (by kernel_rfl) ⟨_, rfl, rfl⟩ (q_pure rfl) rfl sk0 ?_
  refine wpd_p 38 rfl (by kernel_rfl) ⟨_, rfl, rfl⟩ (q_pure rfl) rfl sk0 ?_
  refine wpd_p 39 rfl (by kernel_rfl) ⟨_, rfl, rfl⟩ (qop_eq (q_beq Try.underlying4 rfl rfl) (v := .bool true) (by simp)) rfl sk0 ?_
  refine wpd_p 40 rfl (by kernel_rfl) trivial (q_pure rfl) rfl sk0 ?_
  refine wpd_p 41 rfl (by kernel_rfl) trivial (q_pure rfl) rfl sk0 ?_
  refine wpd_p 42 rfl (by kernel_rfl) ⟨_, rfl, rfl⟩ (q_pure rfl) rfl sk0 ?_
  refine wpd_p 43 rfl (by kernel_rfl) ⟨_, rfl, rfl⟩ (q_pure rfl) rfl sk0 ?_
  refine wpd_off 44 rfl (by kernel_rfl) ⟨_, _, rfl, rfl, rfl⟩ rfl sk0 ?_
  refine wpd_off 45 rfl (by kernel_rfl) ⟨_, _, rfl, rfl, rfl⟩ rfl sk0 ?_
  refine wpd_off 46 rfl (by kernel_rfl) ⟨_, _, rfl, rfl, rfl⟩ rfl sk0 ?_
  refine wpd_p 47 rfl (by kernel_rfl) ⟨_, rfl, rfl⟩ (q_pure rfl) rfl sk0 ?_
  refine wpd_q 48 rfl (by kernel_rfl) ⟨_, rfl, rfl⟩ (q_ldN Try.underlying30 rfl Try.ti30 rfl (by first | rfl | (simp only [v8s_length, v32s_length, vis_length, v64s_length, List.length_replicate]; first | done | assumption | omega))) rfl (fun _ h => h) ?_
  refine wpd_p 49 rfl (by kernel_rfl) ⟨_, rfl, rfl⟩ (q_pure rfl) rfl sk0 ?_
  refine wpd_t 50 rfl (by kernel_rfl) ⟨_, rfl, rfl⟩ (t_pur Try.hb23 rfl fun w' h => clock_In.calls a b tm true w' hi1) rfl (fun _ => sk0) ?_
  intro b96
  refine wpd_p 51 rfl (by kernel_rfl) ⟨_, rfl, rfl⟩ (q_pure rfl) rfl sk0 ?_
  refine wpd_q 52 rfl (by kernel_rfl) ⟨_, rfl, rfl⟩ (q_ldN Try.underlying30 rfl Try.ti30 rfl (by first | rfl | (simp only [v8s_length, v32s_length, vis_length, v64s_length, List.length_replicate]; first | done | assumption | omega))) rfl (fun _ h => h) ?_
  refine wpd_p 53 rfl (by kernel_rfl) ⟨_, rfl, rfl⟩ (q_pure rfl) rfl sk0 ?_
  refine wpd_t 54 rfl (by kernel_rfl) ⟨_, rfl, rfl⟩ (t_pur Try.hb23 rfl fun w' h => clock_In.calls c d tm false w' (by rw [in_w, hi2])) rfl (fun _ => sk0) ?_
  intro b100
  refine wpd_p 55 rfl (by kernel_rfl) ⟨_, rfl, rfl⟩ (q_pure rfl) rfl sk0 ?_
  refine wpd_p 56 rfl (by kernel_rfl) ⟨_, rfl, rfl⟩ (qop_eq (q_beq Try.underlying4 rfl rfl) (v := .bool true) (by simp)) rfl sk0 ?_
  refine wpd_p 57 rfl (by kernel_rfl) trivial (q_pure rfl) rfl sk0 ?_
  refine wpd_p 58 rfl (by kernel_rfl) trivial (q_pure rfl) rfl sk0 ?_
  refine wpd_done (by kernel_rfl) ?_
  refine ex_then ?_
  refine wpc_ret ?_
  refine ret1 (.inl rfl) rfl rfl ?_
  exact fun w h => ⟨rfl, h.below⟩

set_option maxRecDepth 100000 in
theorem noAF (a b c d tm : Int) (w : World) (h1 : chkW a b = 0) (h2 : chkW c d = 0) (h3 : max a c > min b d) (h4 : a ≠ 0) (hi : inW a b tm = false) :
    Calls Try.prog 8 [.agg #[.int .i64 a, .int .i64 b], .agg #[.int .i64 c, .int .i64 d], .int .i64 tm].toArray w (Pur w (.bool true)) := by
  have hk1 := chk_w a b
  have hk2 := chk_w c d
  rw [h1] at hk1
  rw [h2] at hk2
  obtain ⟨z1, z2, z3, z4, z5⟩ := (chkW0 a b).1 h1
  obtain ⟨y1, y2, y3, y4, y5⟩ := (chkW0 c d).1 h2
  have eb1 := both_w a b c d
  have eb2 := both_w c d a b
  unfold bothW at eb1 eb2
  rw [if_pos ⟨h1, h2⟩] at eb1
  rw [if_pos ⟨h2, h1⟩] at eb2
  rw [if_pos (by omega)] at eb1 eb2
  have hb1 : clock_Both.f 4 a b c d = some (0, 0, false, 0) := eb1
  have hb2 : clock_Both.f 4 c d a b = some (0, 0, false, 0) := eb2
  have hk3 : clock_Check.f 0 0 = some 0 := by rw [chk_w, (chkW0 0 0).2 (by omega)]
  have hi1 := in_w a b tm
  rw [hi] at hi1
  refine enter (n := 104) (R := Mem w [] [] []) Try.func8 rfl rfl (Nat.le_of_ble_eq_true rfl) (Mem.start w) ?_
  refine wpc_seq ?_
  -- region 0
  refine wpc_region ?_
  refine wpl_t (t_box rfl _ rfl) rfl ?_
  intro b3
  refine wpl_t (t_box rfl _ rfl) rfl ?_
  intro b4
  refine wpl_q (q_pure rfl) rfl ?_
  refine wpl_nil ?_
  refine ex_then ?_
  refine wpc_seq ?_
  -- region 1
  refine wpc_region ?_
  refine wpl_t (t_pur Try.hb16 rfl fun w' h => alive_calls w') rfl ?_
  intro b14
  refine wpl_q (q_pure rfl) rfl ?_
  refine wpl_nil ?_
  refine ex_then ?_
  refine wpc_seq ?_
  -- region 2
  refine wpc_region ?_
  refine wpl_q (q_ldN Try.underlying30 rfl Try.ti30 rfl (by first | rfl | (simp only [v8s_length, v32s_length, vis_length, v64s_length, List.length_replicate]; first | done | assumption | omega))) rfl ?_
  refine wpl_q (q_ldN Try.underlying30 rfl Try.ti30 rfl (by first | rfl | (simp only [v8s_length, v32s_length, vis_length, v64s_length, List.length_replicate]; first | done | assumption | omega))) rfl ?_
  refine wpl_t (t_pur Try.hb17 rfl fun w' h => clock_Both.calls 4 a b c d 0 0 false 0 w' hb1) rfl ?_
  intro b18
  refine wpl_q (q_pure rfl) rfl ?_
  refine wpl_q (q_pure rfl) rfl ?_
  refine wpl_q (q_pure rfl) rfl ?_
  refine wpl_q (q_pure rfl) rfl ?_
  refine wpl_t (t_alloc Try.ti30 _ rfl) rfl ?_
  intro b8
  refine wpl_t0 (t_stA Try.ti30 rfl rfl (by first | rfl | (simp only [v8s_length, v32s_length, vis_length, v64s_length, List.length_replicate]; first | done | assumption | omega)) (by first | exact v32s_one _ | exact v8s_one _ | exact v64s_one _ | (intro u hu; simp at hu; rcases hu with h | h <;> subst h <;> rfl) | (simp [Value.oneCell']; done)) (by first | rfl | (simp only [v8s_length, v32s_length, vis_length, v64s_length, List.length_replicate]; first | done | assumption | omega))) ?_
  intro _
  refine wpl_q (q_pure rfl) rfl ?_
  refine wpl_q (q_pure rfl) rfl ?_
  refine wpl_nil ?_
  refine ex_then ?_
  refine wpc_seq ?_
  refine wpc_seq ?_
  -- region 3
  refine wpc_region ?_
  refine wpl_q (q_ldN Try.underlying30 rfl Try.ti30 rfl (by first | rfl | (simp only [v8s_length, v32s_length, vis_length, v64s_length, List.length_replicate]; first | done | assumption | omega))) rfl ?_
  refine wpl_t (t_pur Try.hb21 rfl fun w' h => clock_Check.calls a b 0 w' hk1) rfl ?_
  intro b23
  refine wpl_q (q_pure rfl) rfl ?_
  refine wpl_q (q_pure rfl) rfl ?_
  refine wpl_on rfl rfl ?_
  refine wpl_q (q_ldN Try.underlying30 rfl Try.ti30 rfl (by first | rfl | (simp only [v8s_length, v32s_length, vis_length, v64s_length, List.length_replicate]; first | done | assumption | omega))) rfl ?_
  refine wpl_on rfl rfl ?_
  refine wpl_t (t_pur Try.hb21 rfl fun w' h => clock_Check.calls c d 0 w' hk2) rfl ?_
  intro b27
  refine wpl_on rfl rfl ?_
  refine wpl_q (q_pure rfl) rfl ?_
  refine wpl_q (q_pure rfl) rfl ?_
  refine wpl_nil ?_
  refine ex_then ?_
  refine wpc_cond_f rfl ?_
  refine wpc_skip ?_
  refine ex_then ?_
  refine wpc_seq ?_
  -- region 5
  refine wpc_region ?_
  refine wpl_q (q_ldN Try.underlying30 rfl Try.ti30 rfl (by first | rfl | (simp only [v8s_length, v32s_length, vis_length, v64s_length, List.length_replicate]; first | done | assumption | omega))) rfl ?_
  refine wpl_q (q_ldN Try.underlying30 rfl Try.ti30 rfl (by first | rfl | (simp only [v8s_length, v32s_length, vis_length, v64s_length, List.length_replicate]; first | done | assumption | omega))) rfl ?_
  refine wpl_t (t_pur Try.hb17 rfl fun w' h => clock_Both.calls 4 c d a b 0 0 false 0 w' hb2) rfl ?_
  intro b42
  refine wpl_q (q_pure rfl) rfl ?_
  refine wpl_q (q_pure rfl) rfl ?_
  refine wpl_q (q_pure rfl) rfl ?_
  refine wpl_q (q_pure rfl) rfl ?_
  refine wpl_t (t_alloc Try.ti30 _ rfl) rfl ?_
  intro b11
  refine wpl_t0 (t_stA Try.ti30 rfl rfl (by first | rfl | (simp only [v8s_length, v32s_length, vis_length, v64s_length, List.length_replicate]; first | done | assumption | omega)) (by first | exact v32s_one _ | exact v8s_one _ | exact v64s_one _ | (intro u hu; simp at hu; rcases hu with h | h <;> subst h <;> rfl) | (simp [Value.oneCell']; done)) (by first | rfl | (simp only [v8s_length, v32s_length, vis_length, v64s_length, List.length_replicate]; first | done | assumption | omega))) ?_
  intro _
  refine wpl_q (q_pure rfl) rfl ?_
  refine wpl_q (q_pure rfl) rfl ?_
  refine wpl_nil ?_
  refine ex_then ?_
  refine wpc_seq ?_
  -- region 6
  refine wpc_draw 59 (by kernel_rfl) (fun _ h => h.drew) ?_
  refine wpd_p 0 rfl (by kernel_rfl) trivial (q_pure rfl) rfl sk0 ?_
  refine wpd_p 1 rfl (by kernel_rfl) trivial (q_pure rfl) rfl sk0 ?_
  refine wpd_p 2 rfl (by kernel_rfl) ⟨_, rfl, rfl⟩ (q_pure rfl) rfl sk0 ?_
  refine wpd_p 3 rfl (by kernel_rfl) ⟨_, rfl, rfl⟩ (q_pure rfl) rfl sk0 ?_
  refine wpd_p 4 rfl (by kernel_rfl) trivial (q_pure rfl) rfl sk0 ?_
  refine wpd_p 5 rfl (by kernel_rfl) trivial (q_pure rfl) rfl sk0 ?_
  refine wpd_p 6 rfl (by kernel_rfl) ⟨_, rfl, rfl⟩ (q_pure rfl) rfl sk0 ?_
  refine wpd_p 7 rfl (by kernel_rfl) ⟨_, rfl, rfl⟩ (q_pure rfl) rfl sk0 ?_
  refine wpd_p 8 rfl (by kernel_rfl) trivial (q_pure rfl) rfl sk0 ?_
  refine wpd_p 9 rfl (by kernel_rfl) trivial (q_pure rfl) rfl sk0 ?_
  refine wpd_q 10 rfl (by kernel_rfl) ⟨_, rfl, rfl⟩ (q_ldN Try.underlying30 rfl Try.ti30 rfl (by first | rfl | (simp only [v8s_length, v32s_length, vis_length, v64s_length, List.length_replicate]; first | done | assumption | omega))) rfl (fun _ h => h) ?_
  refine wpd_q 11 rfl (by kernel_rfl) ⟨_, rfl, rfl⟩ (q_ldN Try.underlying30 rfl Try.ti30 rfl (by first | rfl | (simp only [v8s_length, v32s_length, vis_length, v64s_length, List.length_replicate]; first | done | assumption | omega))) rfl (fun _ h => h) ?_
  refine wpd_p 12 rfl (by kernel_rfl) ⟨_, rfl, rfl⟩ (q_eqA eqc30 (by decide) guard30 rfl rfl (win_ok _ _) (win_ok _ _) true (by simp)) rfl sk0 ?_
  refine wpd_p 13 rfl (by kernel_rfl) trivial (q_pure rfl) rfl sk0 ?_
  refine wpd_p 14 rfl (by kernel_rfl) trivial (q_pure rfl) rfl sk0 ?_
  refine wpd_p 15 rfl (by kernel_rfl) ⟨_, rfl, rfl⟩ (q_pure rfl) rfl sk0 ?_
  refine wpd_p 16 rfl (by kernel_rfl) ⟨_, rfl, rfl⟩ (q_pure rfl) rfl sk0 ?_
  refine wpd_p 17 rfl (by kernel_rfl) ⟨_, rfl, rfl⟩ (qop_eq (q_beq Try.underlying4 rfl rfl) (v := .bool true) (by simp)) rfl sk0 ?_
  refine wpd_p 18 rfl (by kernel_rfl) trivial (q_pure rfl) rfl sk0 ?_
  refine wpd_p 19 rfl (by kernel_rfl) trivial (q_pure rfl) rfl sk0 ?_
  refine wpd_p 20 rfl (by kernel_rfl) ⟨_, rfl, rfl⟩ (q_pure rfl) rfl sk0 ?_
  refine wpd_q 21 rfl (by kernel_rfl) ⟨_, rfl, rfl⟩ (q_ldN Try.underlying30 rfl Try.ti30 rfl (by first | rfl | (simp only [v8s_length, v32s_length, vis_length, v64s_length, List.length_replicate]; first | done | assumption | omega))) rfl (fun _ h => h) ?_
  refine wpd_t 22 rfl (by kernel_rfl) ⟨_, rfl, rfl⟩ (t_pur Try.hb21 rfl fun w' h => clock_Check.calls 0 0 0 w' hk3) rfl (fun _ => sk0) ?_
  intro b68
  refine wpd_p 23 rfl (by kernel_rfl) ⟨_, rfl, rfl⟩ (q_pure rfl) rfl sk0 ?_
  refine wpd_p 24 rfl (by kernel_rfl) ⟨_, rfl, rfl⟩ (q_pure rfl) rfl sk0 ?_
  refine wpd_q 25 rfl (by kernel_rfl) ⟨_, rfl, rfl⟩ (q_ldN Try.underlying30 rfl Try.ti30 rfl (by first | rfl | (simp only [v8s_length, v32s_length, vis_length, v64s_length, List.length_replicate]; first | done | assumption | omega))) rfl (fun _ h => h) ?_
  refine wpd_p 26 rfl (by kernel_rfl) ⟨_, rfl, rfl⟩ (q_build (cs := [.int .i64 0, .int .i64 0]) (vs := []) rfl (built_struct Try.underlying30 Try.ti30 (pl := [(0, 1), (1, 1)]) (by kernel_rfl) rfl)) rfl sk0 ?_
  refine wpd_p 27 rfl (by kernel_rfl) ⟨_, rfl, rfl⟩ (q_neA eqc30 (by decide) guard30 rfl rfl (win_ok _ _) (win_ok _ _) false (by simp)) rfl sk0 ?_
  refine wpd_p 28 rfl (by kernel_rfl) ⟨_, rfl, rfl⟩ (q_pure rfl) rfl sk0 ?_
  refine wpd_p 29 rfl (by kernel_rfl) ⟨_, rfl, rfl⟩ (q_field Try.underlying30 rfl Try.ti2 rfl rfl _ rfl) rfl sk0 ?_
  refine wpd_q 30 rfl (by kernel_rfl) ⟨_, rfl, rfl⟩ (q_ld Try.underlying2 rfl rfl (by first | exact vis_get (by omega) | rfl)) rfl (fun _ h => h) ?_
  refine wpd_p 31 rfl (by kernel_rfl) ⟨_, rfl, rfl⟩ (qop_eq (q_pure rfl) (v := .bool false) (by simp; omega)) rfl sk0 ?_
  refine wpd_p 32 rfl (by kernel_rfl) ⟨_, rfl, rfl⟩ (q_pure rfl) rfl sk0 ?_
  refine wpd_off 33 rfl (by kernel_rfl) ⟨_, _, rfl, rfl, rfl⟩ rfl sk0 ?_
  refine wpd_off 34 rfl (by kernel_rfl) ⟨_, _, rfl, rfl, rfl⟩ rfl sk0 ?_
  refine wpd_off 35 rfl (by kernel_rfl) ⟨_, _, rfl, rfl, rfl⟩ rfl sk0 ?_
  refine wpd_p 36 rfl (by kernel_rfl) ⟨_, rfl, rfl⟩ (q_pure rfl) rfl sk0 ?_
  refine wpd_p 37 rfl (by kernel_rfl) ⟨_, rfl, rfl⟩ (q_pure rfl) rfl sk0 ?_
  refine wpd_p 38 rfl (by kernel_rfl) ⟨_, rfl, rfl⟩ (q_pure rfl) rfl sk0 ?_
  refine wpd_p 39 rfl (by kernel_rfl) ⟨_, rfl, rfl⟩ (qop_eq (q_beq Try.underlying4 rfl rfl) (v := .bool true) (by simp)) rfl sk0 ?_
  refine wpd_p 40 rfl (by kernel_rfl) trivial (q_pure rfl) rfl sk0 ?_
  refine wpd_p 41 rfl (by kernel_rfl) trivial (q_pure rfl) rfl sk0 ?_
  refine wpd_p 42 rfl (by kernel_rfl) ⟨_, rfl, rfl⟩ (q_pure rfl) rfl sk0 ?_
  refine wpd_p 43 rfl (by kernel_rfl) ⟨_, rfl, rfl⟩ (q_pure rfl) rfl sk0 ?_
  refine wpd_off 44 rfl (by kernel_rfl) ⟨_, _, rfl, rfl, rfl⟩ rfl sk0 ?_
  refine wpd_off 45 rfl (by kernel_rfl) ⟨_, _, rfl, rfl, rfl⟩ rfl sk0 ?_
  refine wpd_off 46 rfl (by kernel_rfl) ⟨_, _, rfl, rfl, rfl⟩ rfl sk0 ?_
  refine wpd_p 47 rfl (by kernel_rfl) ⟨_, rfl, rfl⟩ (q_pure rfl) rfl sk0 ?_
  refine wpd_q 48 rfl (by kernel_rfl) ⟨_, rfl, rfl⟩ (q_ldN Try.underlying30 rfl Try.ti30 rfl (by first | rfl | (simp only [v8s_length, v32s_length, vis_length, v64s_length, List.length_replicate]; first | done | assumption | omega))) rfl (fun _ h => h) ?_
  refine wpd_p 49 rfl (by kernel_rfl) ⟨_, rfl, rfl⟩ (q_pure rfl) rfl sk0 ?_
  refine wpd_t 50 rfl (by kernel_rfl) ⟨_, rfl, rfl⟩ (t_pur Try.hb23 rfl fun w' h => clock_In.calls a b tm false w' hi1) rfl (fun _ => sk0) ?_
  intro b96
  refine wpd_p 51 rfl (by kernel_rfl) ⟨_, rfl, rfl⟩ (q_pure rfl) rfl sk0 ?_
  refine wpd_off 52 rfl (by kernel_rfl) ⟨_, _, rfl, rfl, rfl⟩ rfl sk0 ?_
  refine wpd_off 53 rfl (by kernel_rfl) ⟨_, _, rfl, rfl, rfl⟩ rfl sk0 ?_
  refine wpd_off 54 rfl (by kernel_rfl) ⟨_, _, rfl, rfl, rfl⟩ rfl sk0 ?_
  refine wpd_p 55 rfl (by kernel_rfl) ⟨_, rfl, rfl⟩ (q_pure rfl) rfl sk0 ?_
  refine wpd_p 56 rfl (by kernel_rfl) ⟨_, rfl, rfl⟩ (qop_eq (q_beq Try.underlying4 rfl rfl) (v := .bool true) (by simp)) rfl sk0 ?_
  refine wpd_p 57 rfl (by kernel_rfl) trivial (q_pure rfl) rfl sk0 ?_
  refine wpd_p 58 rfl (by kernel_rfl) trivial (q_pure rfl) rfl sk0 ?_
  refine wpd_done (by kernel_rfl) ?_
  refine ex_then ?_
  refine wpc_ret ?_
  refine ret1 (.inl rfl) rfl rfl ?_
  exact fun w h => ⟨rfl, h.below⟩

set_option maxRecDepth 100000 in
theorem noBT (a b c d tm : Int) (w : World) (h1 : chkW a b = 0) (h2 : chkW c d = 0) (h3 : max a c > min b d) (h4 : a = 0) (hi : inW a b tm = true) :
    Calls Try.prog 8 [.agg #[.int .i64 a, .int .i64 b], .agg #[.int .i64 c, .int .i64 d], .int .i64 tm].toArray w (Pur w (.bool true)) := by
  have hk1 := chk_w a b
  have hk2 := chk_w c d
  rw [h1] at hk1
  rw [h2] at hk2
  obtain ⟨z1, z2, z3, z4, z5⟩ := (chkW0 a b).1 h1
  obtain ⟨y1, y2, y3, y4, y5⟩ := (chkW0 c d).1 h2
  have eb1 := both_w a b c d
  have eb2 := both_w c d a b
  unfold bothW at eb1 eb2
  rw [if_pos ⟨h1, h2⟩] at eb1
  rw [if_pos ⟨h2, h1⟩] at eb2
  rw [if_pos (by omega)] at eb1 eb2
  have hb1 : clock_Both.f 4 a b c d = some (0, 0, false, 0) := eb1
  have hb2 : clock_Both.f 4 c d a b = some (0, 0, false, 0) := eb2
  have hk3 : clock_Check.f 0 0 = some 0 := by rw [chk_w, (chkW0 0 0).2 (by omega)]
  have hi1 := in_w a b tm
  rw [hi] at hi1
  have hi2 : inW c d tm = false := by
    have e1 := (inW_iff a b tm).1 hi
    cases hq : inW c d tm
    · rfl
    · have e2 := (inW_iff c d tm).1 hq; omega
  refine enter (n := 104) (R := Mem w [] [] []) Try.func8 rfl rfl (Nat.le_of_ble_eq_true rfl) (Mem.start w) ?_
  refine wpc_seq ?_
  -- region 0
  refine wpc_region ?_
  refine wpl_t (t_box rfl _ rfl) rfl ?_
  intro b3
  refine wpl_t (t_box rfl _ rfl) rfl ?_
  intro b4
  refine wpl_q (q_pure rfl) rfl ?_
  refine wpl_nil ?_
  refine ex_then ?_
  refine wpc_seq ?_
  -- region 1
  refine wpc_region ?_
  refine wpl_t (t_pur Try.hb16 rfl fun w' h => alive_calls w') rfl ?_
  intro b14
  refine wpl_q (q_pure rfl) rfl ?_
  refine wpl_nil ?_
  refine ex_then ?_
  refine wpc_seq ?_
  -- region 2
  refine wpc_region ?_
  refine wpl_q (q_ldN Try.underlying30 rfl Try.ti30 rfl (by first | rfl | (simp only [v8s_length, v32s_length, vis_length, v64s_length, List.length_replicate]; first | done | assumption | omega))) rfl ?_
  refine wpl_q (q_ldN Try.underlying30 rfl Try.ti30 rfl (by first | rfl | (simp only [v8s_length, v32s_length, vis_length, v64s_length, List.length_replicate]; first | done | assumption | omega))) rfl ?_
  refine wpl_t (t_pur Try.hb17 rfl fun w' h => clock_Both.calls 4 a b c d 0 0 false 0 w' hb1) rfl ?_
  intro b18
  refine wpl_q (q_pure rfl) rfl ?_
  refine wpl_q (q_pure rfl) rfl ?_
  refine wpl_q (q_pure rfl) rfl ?_
  refine wpl_q (q_pure rfl) rfl ?_
  refine wpl_t (t_alloc Try.ti30 _ rfl) rfl ?_
  intro b8
  refine wpl_t0 (t_stA Try.ti30 rfl rfl (by first | rfl | (simp only [v8s_length, v32s_length, vis_length, v64s_length, List.length_replicate]; first | done | assumption | omega)) (by first | exact v32s_one _ | exact v8s_one _ | exact v64s_one _ | (intro u hu; simp at hu; rcases hu with h | h <;> subst h <;> rfl) | (simp [Value.oneCell']; done)) (by first | rfl | (simp only [v8s_length, v32s_length, vis_length, v64s_length, List.length_replicate]; first | done | assumption | omega))) ?_
  intro _
  refine wpl_q (q_pure rfl) rfl ?_
  refine wpl_q (q_pure rfl) rfl ?_
  refine wpl_nil ?_
  refine ex_then ?_
  refine wpc_seq ?_
  refine wpc_seq ?_
  -- region 3
  refine wpc_region ?_
  refine wpl_q (q_ldN Try.underlying30 rfl Try.ti30 rfl (by first | rfl | (simp only [v8s_length, v32s_length, vis_length, v64s_length, List.length_replicate]; first | done | assumption | omega))) rfl ?_
  refine wpl_t (t_pur Try.hb21 rfl fun w' h => clock_Check.calls a b 0 w' hk1) rfl ?_
  intro b23
  refine wpl_q (q_pure rfl) rfl ?_
  refine wpl_q (q_pure rfl) rfl ?_
  refine wpl_on rfl rfl ?_
  refine wpl_q (q_ldN Try.underlying30 rfl Try.ti30 rfl (by first | rfl | (simp only [v8s_length, v32s_length, vis_length, v64s_length, List.length_replicate]; first | done | assumption | omega))) rfl ?_
  refine wpl_on rfl rfl ?_
  refine wpl_t (t_pur Try.hb21 rfl fun w' h => clock_Check.calls c d 0 w' hk2) rfl ?_
  intro b27
  refine wpl_on rfl rfl ?_
  refine wpl_q (q_pure rfl) rfl ?_
  refine wpl_q (q_pure rfl) rfl ?_
  refine wpl_nil ?_
  refine ex_then ?_
  refine wpc_cond_f rfl ?_
  refine wpc_skip ?_
  refine ex_then ?_
  refine wpc_seq ?_
  -- region 5
  refine wpc_region ?_
  refine wpl_q (q_ldN Try.underlying30 rfl Try.ti30 rfl (by first | rfl | (simp only [v8s_length, v32s_length, vis_length, v64s_length, List.length_replicate]; first | done | assumption | omega))) rfl ?_
  refine wpl_q (q_ldN Try.underlying30 rfl Try.ti30 rfl (by first | rfl | (simp only [v8s_length, v32s_length, vis_length, v64s_length, List.length_replicate]; first | done | assumption | omega))) rfl ?_
  refine wpl_t (t_pur Try.hb17 rfl fun w' h => clock_Both.calls 4 c d a b 0 0 false 0 w' hb2) rfl ?_
  intro b42
  refine wpl_q (q_pure rfl) rfl ?_
  refine wpl_q (q_pure rfl) rfl ?_
  refine wpl_q (q_pure rfl) rfl ?_
  refine wpl_q (q_pure rfl) rfl ?_
  refine wpl_t (t_alloc Try.ti30 _ rfl) rfl ?_
  intro b11
  refine wpl_t0 (t_stA Try.ti30 rfl rfl (by first | rfl | (simp only [v8s_length, v32s_length, vis_length, v64s_length, List.length_replicate]; first | done | assumption | omega)) (by first | exact v32s_one _ | exact v8s_one _ | exact v64s_one _ | (intro u hu; simp at hu; rcases hu with h | h <;> subst h <;> rfl) | (simp [Value.oneCell']; done)) (by first | rfl | (simp only [v8s_length, v32s_length, vis_length, v64s_length, List.length_replicate]; first | done | assumption | omega))) ?_
  intro _
  refine wpl_q (q_pure rfl) rfl ?_
  refine wpl_q (q_pure rfl) rfl ?_
  refine wpl_nil ?_
  refine ex_then ?_
  refine wpc_seq ?_
  -- region 6
  refine wpc_draw 59 (by kernel_rfl) (fun _ h => h.drew) ?_
  refine wpd_p 0 rfl (by kernel_rfl) trivial (q_pure rfl) rfl sk0 ?_
  refine wpd_p 1 rfl (by kernel_rfl) trivial (q_pure rfl) rfl sk0 ?_
  refine wpd_p 2 rfl (by kernel_rfl) ⟨_, rfl, rfl⟩ (q_pure rfl) rfl sk0 ?_
  refine wpd_p 3 rfl (by kernel_rfl) ⟨_, rfl, rfl⟩ (q_pure rfl) rfl sk0 ?_
  refine wpd_p 4 rfl (by kernel_rfl) trivial (q_pure rfl) rfl sk0 ?_
  refine wpd_p 5 rfl (by kernel_rfl) trivial (q_pure rfl) rfl sk0 ?_
  refine wpd_p 6 rfl (by kernel_rfl) ⟨_, rfl, rfl⟩ (q_pure rfl) rfl sk0 ?_
  refine wpd_p 7 rfl (by kernel_rfl) ⟨_, rfl, rfl⟩ (q_pure rfl) rfl sk0 ?_
  refine wpd_p 8 rfl (by kernel_rfl) trivial (q_pure rfl) rfl sk0 ?_
  refine wpd_p 9 rfl (by kernel_rfl) trivial (q_pure rfl) rfl sk0 ?_
  refine wpd_q 10 rfl (by kernel_rfl) ⟨_, rfl, rfl⟩ (q_ldN Try.underlying30 rfl Try.ti30 rfl (by first | rfl | (simp only [v8s_length, v32s_length, vis_length, v64s_length, List.length_replicate]; first | done | assumption | omega))) rfl (fun _ h => h) ?_
  refine wpd_q 11 rfl (by kernel_rfl) ⟨_, rfl, rfl⟩ (q_ldN Try.underlying30 rfl Try.ti30 rfl (by first | rfl | (simp only [v8s_length, v32s_length, vis_length, v64s_length, List.length_replicate]; first | done | assumption | omega))) rfl (fun _ h => h) ?_
  refine wpd_p 12 rfl (by kernel_rfl) ⟨_, rfl, rfl⟩ (q_eqA eqc30 (by decide) guard30 rfl rfl (win_ok _ _) (win_ok _ _) true (by simp)) rfl sk0 ?_
  refine wpd_p 13 rfl (by kernel_rfl) trivial (q_pure rfl) rfl sk0 ?_
  refine wpd_p 14 rfl (by kernel_rfl) trivial (q_pure rfl) rfl sk0 ?_
  refine wpd_p 15 rfl (by kernel_rfl) ⟨_, rfl, rfl⟩ (q_pure rfl) rfl sk0 ?_
  refine wpd_p 16 rfl (by kernel_rfl) ⟨_, rfl, rfl⟩ (q_pure rfl) rfl sk0 ?_
  refine wpd_p 17 rfl (by kernel_rfl) ⟨_, rfl, rfl⟩ (qop_eq (q_beq Try.underlying4 rfl rfl) (v := .bool true) (by simp)) rfl sk0 ?_
  refine wpd_p 18 rfl (by kernel_rfl) trivial (q_pure rfl) rfl sk0 ?_
  refine wpd_p 19 rfl (by kernel_rfl) trivial (q_pure rfl) rfl sk0 ?_
  refine wpd_p 20 rfl (by kernel_rfl) ⟨_, rfl, rfl⟩ (q_pure rfl) rfl sk0 ?_
  refine wpd_q 21 rfl (by kernel_rfl) ⟨_, rfl, rfl⟩ (q_ldN Try.underlying30 rfl Try.ti30 rfl (by first | rfl | (simp only [v8s_length, v32s_length, vis_length, v64s_length, List.length_replicate]; first | done | assumption | omega))) rfl (fun _ h => h) ?_
  refine wpd_t 22 rfl (by kernel_rfl) ⟨_, rfl, rfl⟩ (t_pur Try.hb21 rfl fun w' h => clock_Check.calls 0 0 0 w' hk3) rfl (fun _ => sk0) ?_
  intro b68
  refine wpd_p 23 rfl (by kernel_rfl) ⟨_, rfl, rfl⟩ (q_pure rfl) rfl sk0 ?_
  refine wpd_p 24 rfl (by kernel_rfl) ⟨_, rfl, rfl⟩ (q_pure rfl) rfl sk0 ?_
  refine wpd_q 25 rfl (by kernel_rfl) ⟨_, rfl, rfl⟩ (q_ldN Try.underlying30 rfl Try.ti30 rfl (by first | rfl | (simp only [v8s_length, v32s_length, vis_length, v64s_length, List.length_replicate]; first | done | assumption | omega))) rfl (fun _ h => h) ?_
  refine wpd_p 26 rfl (by kernel_rfl) ⟨_, rfl, rfl⟩ (q_build (cs := [.int .i64 0, .int .i64 0]) (vs := []) rfl (built_struct Try.underlying30 Try.ti30 (pl := [(0, 1), (1, 1)]) (by kernel_rfl) rfl)) rfl sk0 ?_
  refine wpd_p 27 rfl (by kernel_rfl) ⟨_, rfl, rfl⟩ (q_neA eqc30 (by decide) guard30 rfl rfl (win_ok _ _) (win_ok _ _) false (by simp)) rfl sk0 ?_
  refine wpd_p 28 rfl (by kernel_rfl) ⟨_, rfl, rfl⟩ (q_pure rfl) rfl sk0 ?_
  refine wpd_p 29 rfl (by kernel_rfl) ⟨_, rfl, rfl⟩ (q_field Try.underlying30 rfl Try.ti2 rfl rfl _ rfl) rfl sk0 ?_
  refine wpd_q 30 rfl (by kernel_rfl) ⟨_, rfl, rfl⟩ (q_ld Try.underlying2 rfl rfl (by first | exact vis_get (by omega) | rfl)) rfl (fun _ h => h) ?_
  refine wpd_p 31 rfl (by kernel_rfl) ⟨_, rfl, rfl⟩ (qop_eq (q_pure rfl) (v := .bool true) (by simp; omega)) rfl sk0 ?_
  refine wpd_p 32 rfl (by kernel_rfl) ⟨_, rfl, rfl⟩ (q_pure rfl) rfl sk0 ?_
  refine wpd_p 33 rfl (by kernel_rfl) ⟨_, rfl, rfl⟩ (q_field Try.underlying30 rfl Try.ti2 rfl rfl _ rfl) rfl sk0 ?_
  refine wpd_q 34 rfl (by kernel_rfl) ⟨_, rfl, rfl⟩ (q_ld Try.underlying2 rfl rfl (by first | exact vis_get (by omega) | rfl)) rfl (fun _ h => h) ?_
  refine wpd_p 35 rfl (by kernel_rfl) ⟨_, rfl, rfl⟩ (qop_eq (q_pure rfl) (v := .bool false) (by simp; omega)) rfl sk0 ?_
  refine wpd_p 36 rfl (by kernel_rfl) ⟨_, rfl, rfl⟩ (q_pure rfl) rfl sk0 ?_
  refine wpd_p 37 rfl (by kernel_rfl) ⟨_, rfl, rfl⟩ (q_pure rfl) rfl sk0 ?_
  refine wpd_p 38 rfl (by kernel_rfl) ⟨_, rfl, rfl⟩ (q_pure rfl) rfl sk0 ?_
  refine wpd_p 39 rfl (by kernel_rfl) ⟨_, rfl, rfl⟩ (qop_eq (q_beq Try.underlying4 rfl rfl) (v := .bool true) (by simp)) rfl sk0 ?_
  refine wpd_p 40 rfl (by kernel_rfl) trivial (q_pure rfl) rfl sk0 ?_
  refine wpd_p 41 rfl (by kernel_rfl) trivial (q_pure rfl) rfl sk0 ?_
  refine wpd_p 42 rfl (by kernel_rfl) ⟨_, rfl, rfl⟩ (q_pure rfl) rfl sk0 ?_
  refine wpd_p 43 rfl (by kernel_rfl) ⟨_, rfl, rfl⟩ (q_pure rfl) rfl sk0 ?_
  refine wpd_off 44 rfl (by kernel_rfl) ⟨_, _, rfl, rfl, rfl⟩ rfl sk0 ?_
  refine wpd_off 45 rfl (by kernel_rfl) ⟨_, _, rfl, rfl, rfl⟩ rfl sk0 ?_
  refine wpd_off 46 rfl (by kernel_rfl) ⟨_, _, rfl, rfl, rfl⟩ rfl sk0 ?_
  refine wpd_p 47 rfl (by kernel_rfl) ⟨_, rfl, rfl⟩ (q_pure rfl) rfl sk0 ?_
  refine wpd_q 48 rfl (by kernel_rfl) ⟨_, rfl, rfl⟩ (q_ldN Try.underlying30 rfl Try.ti30 rfl (by first | rfl | (simp only [v8s_length, v32s_length, vis_length, v64s_length, List.length_replicate]; first | done | assumption | omega))) rfl (fun _ h => h) ?_
  refine wpd_p 49 rfl (by kernel_rfl) ⟨_, rfl, rfl⟩ (q_pure rfl) rfl sk0 ?_
  refine wpd_t 50 rfl (by kernel_rfl) ⟨_, rfl, rfl⟩ (t_pur Try.hb23 rfl fun w' h => clock_In.calls a b tm true w' hi1) rfl (fun _ => sk0) ?_
  intro b96
  refine wpd_p 51 rfl (by kernel_rfl) ⟨_, rfl, rfl⟩ (q_pure rfl) rfl sk0 ?_
  refine wpd_q 52 rfl (by kernel_rfl) ⟨_, rfl, rfl⟩ (q_ldN Try.underlying30 rfl Try.ti30 rfl (by first | rfl | (simp only [v8s_length, v32s_length, vis_length, v64s_length, List.length_replicate]; first | done | assumption | omega))) rfl (fun _ h => h) ?_
  refine wpd_p 53 rfl (by kernel_rfl) ⟨_, rfl, rfl⟩ (q_pure rfl) rfl sk0 ?_
  refine wpd_t 54 rfl (by kernel_rfl) ⟨_, rfl, rfl⟩ (t_pur Try.hb23 rfl fun w' h => clock_In.calls c d tm false w' (by rw [in_w, hi2])) rfl (fun _ => sk0) ?_
  intro b100
  refine wpd_p 55 rfl (by kernel_rfl) ⟨_, rfl, rfl⟩ (q_pure rfl) rfl sk0 ?_
  refine wpd_p 56 rfl (by kernel_rfl) ⟨_, rfl, rfl⟩ (qop_eq (q_beq Try.underlying4 rfl rfl) (v := .bool true) (by simp)) rfl sk0 ?_
  refine wpd_p 57 rfl (by kernel_rfl) trivial (q_pure rfl) rfl sk0 ?_
  refine wpd_p 58 rfl (by kernel_rfl) trivial (q_pure rfl) rfl sk0 ?_
  refine wpd_done (by kernel_rfl) ?_
  refine ex_then ?_
  refine wpc_ret ?_
  refine ret1 (.inl rfl) rfl rfl ?_
  exact fun w h => ⟨rfl, h.below⟩

set_option maxRecDepth 100000 in
theorem noBF (a b c d tm : Int) (w : World) (h1 : chkW a b = 0) (h2 : chkW c d = 0) (h3 : max a c > min b d) (h4 : a = 0) (hi : inW a b tm = false) :
    Calls Try.prog 8 [.agg #[.int .i64 a, .int .i64 b], .agg #[.int .i64 c, .int .i64 d], .int .i64 tm].toArray w (Pur w (.bool true)) := by
  have hk1 := chk_w a b
  have hk2 := chk_w c d
  rw [h1] at hk1
  rw [h2] at hk2
  obtain ⟨z1, z2, z3, z4, z5⟩ := (chkW0 a b).1 h1
  obtain ⟨y1, y2, y3, y4, y5⟩ := (chkW0 c d).1 h2
  have eb1 := both_w a b c d
  have eb2 := both_w c d a b
  unfold bothW at eb1 eb2
  rw [if_pos ⟨h1, h2⟩] at eb1
  rw [if_pos ⟨h2, h1⟩] at eb2
  rw [if_pos (by omega)] at eb1 eb2
  have hb1 : clock_Both.f 4 a b c d = some (0, 0, false, 0) := eb1
  have hb2 : clock_Both.f 4 c d a b = some (0, 0, false, 0) := eb2
  have hk3 : clock_Check.f 0 0 = some 0 := by rw [chk_w, (chkW0 0 0).2 (by omega)]
  have hi1 := in_w a b tm
  rw [hi] at hi1
  refine enter (n := 104) (R := Mem w [] [] []) Try.func8 rfl rfl (Nat.le_of_ble_eq_true rfl) (Mem.start w) ?_
  refine wpc_seq ?_
  -- region 0
  refine wpc_region ?_
  refine wpl_t (t_box rfl _ rfl) rfl ?_
  intro b3
  refine wpl_t (t_box rfl _ rfl) rfl ?_
  intro b4
  refine wpl_q (q_pure rfl) rfl ?_
  refine wpl_nil ?_
  refine ex_then ?_
  refine wpc_seq ?_
  -- region 1
  refine wpc_region ?_
  refine wpl_t (t_pur Try.hb16 rfl fun w' h => alive_calls w') rfl ?_
  intro b14
  refine wpl_q (q_pure rfl) rfl ?_
  refine wpl_nil ?_
  refine ex_then ?_
  refine wpc_seq ?_
  -- region 2
  refine wpc_region ?_
  refine wpl_q (q_ldN Try.underlying30 rfl Try.ti30 rfl (by first | rfl | (simp only [v8s_length, v32s_length, vis_length, v64s_length, List.length_replicate]; first | done | assumption | omega))) rfl ?_
  refine wpl_q (q_ldN Try.underlying30 rfl Try.ti30 rfl (by first | rfl | (simp only [v8s_length, v32s_length, vis_length, v64s_length, List.length_replicate]; first | done | assumption | omega))) rfl ?_
  refine wpl_t (t_pur Try.hb17 rfl fun w' h => clock_Both.calls 4 a b c d 0 0 false 0 w' hb1) rfl ?_
  intro b18
  refine wpl_q (q_pure rfl) rfl ?_
  refine wpl_q (q_pure rfl) rfl ?_
  refine wpl_q (q_pure rfl) rfl ?_
  refine wpl_q (q_pure rfl) rfl ?_
  refine wpl_t (t_alloc Try.ti30 _ rfl) rfl ?_
  intro b8
  refine wpl_t0 (t_stA Try.ti30 rfl rfl (by first | rfl | (simp only [v8s_length, v32s_length, vis_length, v64s_length, List.length_replicate]; first | done | assumption | omega)) (by first | exact v32s_one _ | exact v8s_one _ | exact v64s_one _ | (intro u hu; simp at hu; rcases hu with h | h <;> subst h <;> rfl) | (simp [Value.oneCell']; done)) (by first | rfl | (simp only [v8s_length, v32s_length, vis_length, v64s_length, List.length_replicate]; first | done | assumption | omega))) ?_
  intro _
  refine wpl_q (q_pure rfl) rfl ?_
  refine wpl_q (q_pure rfl) rfl ?_
  refine wpl_nil ?_
  refine ex_then ?_
  refine wpc_seq ?_
  refine wpc_seq ?_
  -- region 3
  refine wpc_region ?_
  refine wpl_q (q_ldN Try.underlying30 rfl Try.ti30 rfl (by first | rfl | (simp only [v8s_length, v32s_length, vis_length, v64s_length, List.length_replicate]; first | done | assumption | omega))) rfl ?_
  refine wpl_t (t_pur Try.hb21 rfl fun w' h => clock_Check.calls a b 0 w' hk1) rfl ?_
  intro b23
  refine wpl_q (q_pure rfl) rfl ?_
  refine wpl_q (q_pure rfl) rfl ?_
  refine wpl_on rfl rfl ?_
  refine wpl_q (q_ldN Try.underlying30 rfl Try.ti30 rfl (by first | rfl | (simp only [v8s_length, v32s_length, vis_length, v64s_length, List.length_replicate]; first | done | assumption | omega))) rfl ?_
  refine wpl_on rfl rfl ?_
  refine wpl_t (t_pur Try.hb21 rfl fun w' h => clock_Check.calls c d 0 w' hk2) rfl ?_
  intro b27
  refine wpl_on rfl rfl ?_
  refine wpl_q (q_pure rfl) rfl ?_
  refine wpl_q (q_pure rfl) rfl ?_
  refine wpl_nil ?_
  refine ex_then ?_
  refine wpc_cond_f rfl ?_
  refine wpc_skip ?_
  refine ex_then ?_
  refine wpc_seq ?_
  -- region 5
  refine wpc_region ?_
  refine wpl_q (q_ldN Try.underlying30 rfl Try.ti30 rfl (by first | rfl | (simp only [v8s_length, v32s_length, vis_length, v64s_length, List.length_replicate]; first | done | assumption | omega))) rfl ?_
  refine wpl_q (q_ldN Try.underlying30 rfl Try.ti30 rfl (by first | rfl | (simp only [v8s_length, v32s_length, vis_length, v64s_length, List.length_replicate]; first | done | assumption | omega))) rfl ?_
  refine wpl_t (t_pur Try.hb17 rfl fun w' h => clock_Both.calls 4 c d a b 0 0 false 0 w' hb2) rfl ?_
  intro b42
  refine wpl_q (q_pure rfl) rfl ?_
  refine wpl_q (q_pure rfl) rfl ?_
  refine wpl_q (q_pure rfl) rfl ?_
  refine wpl_q (q_pure rfl) rfl ?_
  refine wpl_t (t_alloc Try.ti30 _ rfl) rfl ?_
  intro b11
  refine wpl_t0 (t_stA Try.ti30 rfl rfl (by first | rfl | (simp only [v8s_length, v32s_length, vis_length, v64s_length, List.length_replicate]; first | done | assumption | omega)) (by first | exact v32s_one _ | exact v8s_one _ | exact v64s_one _ | (intro u hu; simp at hu; rcases hu with h | h <;> subst h <;> rfl) | (simp [Value.oneCell']; done)) (by first | rfl | (simp only [v8s_length, v32s_length, vis_length, v64s_length, List.length_replicate]; first | done | assumption | omega))) ?_
  intro _
  refine wpl_q (q_pure rfl) rfl ?_
  refine wpl_q (q_pure rfl) rfl ?_
  refine wpl_nil ?_
  refine ex_then ?_
  refine wpc_seq ?_
  -- region 6
  refine wpc_draw 59 (by kernel_rfl) (fun _ h => h.drew) ?_
  refine wpd_p 0 rfl (by kernel_rfl) trivial (q_pure rfl) rfl sk0 ?_
  refine wpd_p 1 rfl (by kernel_rfl) trivial (q_pure rfl) rfl sk0 ?_
  refine wpd_p 2 rfl (by kernel_rfl) ⟨_, rfl, rfl⟩ (q_pure rfl) rfl sk0 ?_
  refine wpd_p 3 rfl (by kernel_rfl) ⟨_, rfl, rfl⟩ (q_pure rfl) rfl sk0 ?_
  refine wpd_p 4 rfl (by kernel_rfl) trivial (q_pure rfl) rfl sk0 ?_
  refine wpd_p 5 rfl (by kernel_rfl) trivial (q_pure rfl) rfl sk0 ?_
  refine wpd_p 6 rfl (by kernel_rfl) ⟨_, rfl, rfl⟩ (q_pure rfl) rfl sk0 ?_
  refine wpd_p 7 rfl (by kernel_rfl) ⟨_, rfl, rfl⟩ (q_pure rfl) rfl sk0 ?_
  refine wpd_p 8 rfl (by kernel_rfl) trivial (q_pure rfl) rfl sk0 ?_
  refine wpd_p 9 rfl (by kernel_rfl) trivial (q_pure rfl) rfl sk0 ?_
  refine wpd_q 10 rfl (by kernel_rfl) ⟨_, rfl, rfl⟩ (q_ldN Try.underlying30 rfl Try.ti30 rfl (by first | rfl | (simp only [v8s_length, v32s_length, vis_length, v64s_length, List.length_replicate]; first | done | assumption | omega))) rfl (fun _ h => h) ?_
  refine wpd_q 11 rfl (by kernel_rfl) ⟨_, rfl, rfl⟩ (q_ldN Try.underlying30 rfl Try.ti30 rfl (by first | rfl | (simp only [v8s_length, v32s_length, vis_length, v64s_length, List.length_replicate]; first | done | assumption | omega))) rfl (fun _ h => h) ?_
  refine wpd_p 12 rfl (by kernel_rfl) ⟨_, rfl, rfl⟩ (q_eqA eqc30 (by decide) guard30 rfl rfl (win_ok _ _) (win_ok _ _) true (by simp)) rfl sk0 ?_
  refine wpd_p 13 rfl (by kernel_rfl) trivial (q_pure rfl) rfl sk0 ?_
  refine wpd_p 14 rfl (by kernel_rfl) trivial (q_pure rfl) rfl sk0 ?_
  refine wpd_p 15 rfl (by kernel_rfl) ⟨_, rfl, rfl⟩ (q_pure rfl) rfl sk0 ?_
  refine wpd_p 16 rfl (by kernel_rfl) ⟨_, rfl, rfl⟩ (q_pure rfl) rfl sk0 ?_
  refine wpd_p 17 rfl (by kernel_rfl) ⟨_, rfl, rfl⟩ (qop_eq (q_beq Try.underlying4 rfl rfl) (v := .bool true) (by simp)) rfl sk0 ?_
  refine wpd_p 18 rfl (by kernel_rfl) trivial (q_pure rfl) rfl sk0 ?_
  refine wpd_p 19 rfl (by kernel_rfl) trivial (q_pure rfl) rfl sk0 ?_
  refine wpd_p 20 rfl (by kernel_rfl) ⟨_, rfl, rfl⟩ (q_pure rfl) rfl sk0 ?_
  refine wpd_q 21 rfl (by kernel_rfl) ⟨_, rfl, rfl⟩ (q_ldN Try.underlying30 rfl Try.ti30 rfl (by first | rfl | (simp only [v8s_length, v32s_length, vis_length, v64s_length, List.length_replicate]; first | done | assumption | omega))) rfl (fun _ h => h) ?_
  refine wpd_t 22 rfl (by kernel_rfl) ⟨_, rfl, rfl⟩ (t_pur Try.hb21 rfl fun w' h => clock_Check.calls 0 0 0 w' hk3) rfl (fun _ => sk0) ?_
  intro b68
  refine wpd_p 23 rfl (by kernel_rfl) ⟨_, rfl, rfl⟩ (q_pure rfl) rfl sk0 ?_
  refine wpd_p 24 rfl (by kernel_rfl) ⟨_, rfl, rfl⟩ (q_pure rfl) rfl sk0 ?_
  refine wpd_q 25 rfl (by kernel_rfl) ⟨_, rfl, rfl⟩ (q_ldN Try.underlying30 rfl Try.ti30 rfl (by first | rfl | (simp only [v8s_length, v32s_length, vis_length, v64s_length, List.length_replicate]; first | done | assumption | omega))) rfl (fun _ h => h) ?_
  refine wpd_p 26 rfl (by kernel_rfl) ⟨_, rfl, rfl⟩ (q_build (cs := [.int .i64 0, .int .i64 0]) (vs := []) rfl (built_struct Try.underlying30 Try.ti30 (pl := [(0, 1), (1, 1)]) (by kernel_rfl) rfl)) rfl sk0 ?_
  refine wpd_p 27 rfl (by kernel_rfl) ⟨_, rfl, rfl⟩ (q_neA eqc30 (by decide) guard30 rfl rfl (win_ok _ _) (win_ok _ _) false (by simp)) rfl sk0 ?_
  refine wpd_p 28 rfl (by kernel_rfl) ⟨_, rfl, rfl⟩ (q_pure rfl) rfl sk0 ?_
  refine wpd_p 29 rfl (by kernel_rfl) ⟨_, rfl, rfl⟩ (q_field Try.underlying30 rfl Try.ti2 rfl rfl _ rfl) rfl sk0 ?_
  refine wpd_q 30 rfl (by kernel_rfl) ⟨_, rfl, rfl⟩ (q_ld Try.underlying2 rfl rfl (by first | exact vis_get (by omega) | rfl)) rfl (fun _ h => h) ?_
  refine wpd_p 31 rfl (by kernel_rfl) ⟨_, rfl, rfl⟩ (qop_eq (q_pure rfl) (v := .bool true) (by simp; omega)) rfl sk0 ?_
  refine wpd_p 32 rfl (by kernel_rfl) ⟨_, rfl, rfl⟩ (q_pure rfl) rfl sk0 ?_
  refine wpd_p 33 rfl (by kernel_rfl) ⟨_, rfl, rfl⟩ (q_field Try.underlying30 rfl Try.ti2 rfl rfl _ rfl) rfl sk0 ?_
  refine wpd_q 34 rfl (by kernel_rfl) ⟨_, rfl, rfl⟩ (q_ld Try.underlying2 rfl rfl (by first | exact vis_get (by omega) | rfl)) rfl (fun _ h => h) ?_
  refine wpd_p 35 rfl (by kernel_rfl) ⟨_, rfl, rfl⟩ (qop_eq (q_pure rfl) (v := .bool false) (by simp; omega)) rfl sk0 ?_
  refine wpd_p 36 rfl (by kernel_rfl) ⟨_, rfl, rfl⟩ (q_pure rfl) rfl sk0 ?_
  refine wpd_p 37 rfl (by kernel_rfl) ⟨_, rfl, rfl⟩ (q_pure rfl) rfl sk0 ?_
  refine wpd_p 38 rfl (by kernel_rfl) ⟨_, rfl, rfl⟩ (q_pure rfl) rfl sk0 ?_
  refine wpd_p 39 rfl (by kernel_rfl) ⟨_, rfl, rfl⟩ (qop_eq (q_beq Try.underlying4 rfl rfl) (v := .bool true) (by simp)) rfl sk0 ?_
  refine wpd_p 40 rfl (by kernel_rfl) trivial (q_pure rfl) rfl sk0 ?_
  refine wpd_p 41 rfl (by kernel_rfl) trivial (q_pure rfl) rfl sk0 ?_
  refine wpd_p 42 rfl (by kernel_rfl) ⟨_, rfl, rfl⟩ (q_pure rfl) rfl sk0 ?_
  refine wpd_p 43 rfl (by kernel_rfl) ⟨_, rfl, rfl⟩ (q_pure rfl) rfl sk0 ?_
  refine wpd_off 44 rfl (by kernel_rfl) ⟨_, _, rfl, rfl, rfl⟩ rfl sk0 ?_
  refine wpd_off 45 rfl (by kernel_rfl) ⟨_, _, rfl, rfl, rfl⟩ rfl sk0 ?_
  refine wpd_off 46 rfl (by kernel_rfl) ⟨_, _, rfl, rfl, rfl⟩ rfl sk0 ?_
  refine wpd_p 47 rfl (by kernel_rfl) ⟨_, rfl, rfl⟩ (q_pure rfl) rfl sk0 ?_
  refine wpd_q 48 rfl (by kernel_rfl) ⟨_, rfl, rfl⟩ (q_ldN Try.underlying30 rfl Try.ti30 rfl (by first | rfl | (simp only [v8s_length, v32s_length, vis_length, v64s_length, List.length_replicate]; first | done | assumption | omega))) rfl (fun _ h => h) ?_
  refine wpd_p 49 rfl (by kernel_rfl) ⟨_, rfl, rfl⟩ (q_pure rfl) rfl sk0 ?_
  refine wpd_t 50 rfl (by kernel_rfl) ⟨_, rfl, rfl⟩ (t_pur Try.hb23 rfl fun w' h => clock_In.calls a b tm false w' hi1) rfl (fun _ => sk0) ?_
  intro b96
  refine wpd_p 51 rfl (by kernel_rfl) ⟨_, rfl, rfl⟩ (q_pure rfl) rfl sk0 ?_
  refine wpd_off 52 rfl (by kernel_rfl) ⟨_, _, rfl, rfl, rfl⟩ rfl sk0 ?_
  refine wpd_off 53 rfl (by kernel_rfl) ⟨_, _, rfl, rfl, rfl⟩ rfl sk0 ?_
  refine wpd_off 54 rfl (by kernel_rfl) ⟨_, _, rfl, rfl, rfl⟩ rfl sk0 ?_
  refine wpd_p 55 rfl (by kernel_rfl) ⟨_, rfl, rfl⟩ (q_pure rfl) rfl sk0 ?_
  refine wpd_p 56 rfl (by kernel_rfl) ⟨_, rfl, rfl⟩ (qop_eq (q_beq Try.underlying4 rfl rfl) (v := .bool true) (by simp)) rfl sk0 ?_
  refine wpd_p 57 rfl (by kernel_rfl) trivial (q_pure rfl) rfl sk0 ?_
  refine wpd_p 58 rfl (by kernel_rfl) trivial (q_pure rfl) rfl sk0 ?_
  refine wpd_done (by kernel_rfl) ?_
  refine ex_then ?_
  refine wpc_ret ?_
  refine ret1 (.inl rfl) rfl rfl ?_
  exact fun w h => ⟨rfl, h.below⟩

theorem both (a b c d tm : Int) (w : World) : Calls Try.prog 8 #[.agg #[.int .i64 a, .int .i64 b], .agg #[.int .i64 c, .int .i64 d], .int .i64 tm] w (Pur w (.bool true)) := by
  rcases chkW_01 a b with h1 | h1
  · rcases chkW_01 c d with h2 | h2
    · cases hi : inW a b tm
      · by_cases h3 : max a c ≤ min b d
        · by_cases h4 : max a c = 0 ∧ min b d = 0
          · exact okBF a b c d tm w h1 h2 h3 h4 hi
          · exact okAF a b c d tm w h1 h2 h3 h4 hi
        · by_cases h4 : a = 0
          · exact noBF a b c d tm w h1 h2 (by omega) h4 hi
          · exact noAF a b c d tm w h1 h2 (by omega) h4 hi
      · by_cases h3 : max a c ≤ min b d
        · by_cases h4 : max a c = 0 ∧ min b d = 0
          · exact okBT a b c d tm w h1 h2 h3 h4 hi
          · exact okAT a b c d tm w h1 h2 h3 h4 hi
        · by_cases h4 : a = 0
          · exact noBT a b c d tm w h1 h2 (by omega) h4 hi
          · exact noAT a b c d tm w h1 h2 (by omega) h4 hi
    · exact badB a b c d tm w h1 h2
  · exact badA a b c d tm w h1
theorem walkLaw (a0 b0 : Int) (_ : (Lit.int .i64 a0).wf = true) (_ : (Lit.int .i64 b0).wf = true) (a1 b1 : Int) (_ : (Lit.int .i64 a1).wf = true) (_ : (Lit.int .i64 b1).wf = true) (a2 : Int) (_ : (Lit.int .i64 a2).wf = true) (w : World) :
    Calls Try.prog 8 #[.agg #[.int .i64 a0, .int .i64 b0], .agg #[.int .i64 a1, .int .i64 b1], .int .i64 a2] w fun e w' => e = .returned (.bool true) ∧ RowKit.Below w.heap.size w w' := both a0 b0 a1 b1 a2 w
end Go.Proofs.Ytoefmoniafhgfaa.LB