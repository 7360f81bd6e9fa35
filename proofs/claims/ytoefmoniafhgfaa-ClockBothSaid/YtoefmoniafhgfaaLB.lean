/- The law ClockBoth: its walk. -/
import Derived.Test.YtoefmoniafhgfaaK0
import Derived.Test.YtoefmoniafhgfaaPureClockNext
import Derived.Test.YtoefmoniafhgfaaPLS
namespace Go.Proofs.Ytoefmoniafhgfaa.LB
set_option linter.unusedSimpArgs false
set_option linter.unusedVariables false
open Go Go.PL Go.RowKit Go.Proofs.Ytoefmoniafhgfaa Go.Proofs.Ytoefmoniafhgfaa.PClockWindows Go.Proofs.YtoefmoniafhgfaaW.PrintWords Go.Proofs.YtoefmoniafhgfaaW.PrintMore Go.Proofs.YtoefmoniafhgfaaW.PrintLast Go.Proofs.Ytoefmoniafhgfaa.Clk
theorem alive_calls (w : World) : Calls Try.prog 16 #[] w (Pur w (.bool true)) := PClockNext.gatepathlaw04_alive.calls 1 true w (Pure.alive_eq 0)
theorem nek30 : Try.prog.eqGuardType Try.prog.depth 30 = false := guard30
theorem chkW0 (f t : Int) : chkW f t = 0 ↔ 0 ≤ f ∧ f ≤ 1099511627776 ∧ 0 ≤ t ∧ t ≤ 1099511627776 ∧ f ≤ t := by
  unfold chkW timB
  split <;> simp_all <;> omega
theorem inW_iff (f t u : Int) : inW f t u = true ↔ chkW f t = 0 ∧ f ≤ u ∧ u ≤ t := by
  unfold inW; simp [and_assoc]

set_option maxRecDepth 100000 in
theorem badA (a b c d tm : Int) (w : World) (h1 : chkW a b = 8) :
    Calls Try.prog 8 [.agg #[.int .i64 a, .int .i64 b], .agg #[.int .i64 c, .int .i64 d], .int .i64 tm].toArray w (Pur w (.bool true)) := by
  have hk1 := chk_w a b
  have hk2 := chk_w c d
  rw [h1] at hk1
  have hb1 : clock_Both.f 4 a b c d = some (0, 0, false, 8) := by rw [both_w]; unfold bothW; rw [if_neg (by omega)]
  have hb2 : clock_Both.f 4 c d a b = some (0, 0, false, 8) := by rw [both_w]; unfold bothW; rw [if_neg (by omega)]
  refine enter (n := 104) (R := Mem w [] [] []) Try.func8 rfl rfl (Nat.le_of_ble_eq_true rfl) (Mem.start w) ?_
  refine wpc_seq ?_
  -- region 0
  refine wpc_region ?_
  refine wpl_t (t_box rfl _ rfl) rfl ?_
  intro b3
  refine wpl_t (t_box rfl _ rfl) rfl ?_
  intro b4
  refine wpl_q (q_pure rfl) rfl ?_
  refine wpl_nil ?_
  refine ex_then ?_
  refine wpc_seq ?_
  -- region 1
  refine wpc_region ?_
  refine wpl_t (t_pur Try.hb16 rfl fun w' h => alive_calls w') rfl ?_
  intro b14
  refine wpl_q (q_pure rfl) rfl ?_
  refine wpl_nil ?_
  refine ex_then ?_
  refine wpc_seq ?_
  -- region 2
  refine wpc_region ?_
  refine wpl_q (q_ldN Try.underlying30 rfl Try.ti30 rfl (by first | rfl | (simp only [v8s_length, v32s_length, vis_length, v64s_length, List.length_replicate]; first | done | assumption | omega))) rfl ?_
  refine wpl_q (q_ldN Try.underlying30 rfl Try.ti30 rfl (by first | rfl | (simp only [v8s_length, v32s_length, vis_length, v64s_length, List.length_replicate]; first | done | assumption | omega))) rfl ?_
  refine wpl_t (t_pur Try.hb17 rfl fun w' h => clock_Both.calls 4 a b c d 0 0 false 8 w' hb1) rfl ?_
  intro b18
  refine wpl_q (q_pure rfl) rfl ?_
  refine wpl_q (q_pure rfl) rfl ?_
  refine wpl_q (q_pure rfl) rfl ?_
  refine wpl_q (q_pure rfl) rfl ?_
  refine wpl_t (t_alloc Try.ti30 _ rfl) rfl ?_
  intro b8
  refine wpl_t0 (t_stA Try.ti30 rfl rfl (by first | rfl | (simp only [v8s_length, v32s_length, vis_length, v64s_length, List.length_replicate]; first | done | assumption | omega)) (by first | exact v32s_one _ | exact v8s_one _ | exact v64s_one _ | (intro u hu; simp at hu; rcases hu with h | h <;> subst h <;> rfl) | (simp [Value.oneCell']; done)) (by first | rfl | (simp only [v8s_length, v32s_length, vis_length, v64s_length, List.length_replicate]; first | done | assumption | omega))) ?_
  intro _
  refine wpl_q (q_pure rfl) rfl ?_
  refine wpl_q (q_pure rfl) rfl ?_
  refine wpl_nil ?_
  refine ex_then ?_
  refine wpc_seq ?_
  refine wpc_seq ?_
  -- region 3
  refine wpc_region ?_
  refine wpl_q (q_ldN Try.underlying30 rfl Try.ti30 rfl (by first | rfl | (simp only [v8s_length, v32s_length, vis_length, v64s_length, List.length_replicate]; first | done | assumption | omega))) rfl ?_
  refine wpl_t (t_pur Try.hb21 rfl fun w' h => clock_Check.calls a b 8 w' hk1) rfl ?_
  intro b23
  refine wpl_q (q_pure rfl) rfl ?_
  refine wpl_q (q_pure rfl) rfl ?_
  refine wpl_off rfl rfl rfl rfl ?_
  refine wpl_off rfl rfl rfl rfl ?_
  refine wpl_off rfl rfl rfl rfl ?_
  refine wpl_q (q_pure rfl) rfl ?_
  refine wpl_nil ?_
  refine ex_then ?_
  refine wpc_cond_t rfl ?_
  refine wpc_seq ?_
  -- region 4
  refine wpc_region ?_
  refine wpl_q (q_pure rfl) rfl ?_
  refine wpl_q (q_pure rfl) rfl ?_
  refine wpl_on rfl rfl ?_
  refine wpl_q (q_pure rfl) rfl ?_
  refine wpl_on rfl rfl ?_
  refine wpl_q (q_pure rfl) rfl ?_
  refine wpl_q (q_pure rfl) rfl ?_
  refine wpl_q (q_pure rfl) rfl ?_
  refine wpl_on rfl rfl ?_
  refine wpl_q (q_pure rfl) rfl ?_
  refine wpl_on rfl rfl ?_
  refine wpl_q (q_pure rfl) rfl ?_
  refine wpl_q (q_pure rfl) rfl ?_
  refine wpl_q (q_pure rfl) rfl ?_
  refine wpl_nil ?_
  refine ex_then ?_
  refine wpc_ret ?_
  refine ex_then_ret ?_
  refine ret1 (.inl rfl) rfl rfl ?_
  exact fun w h => ⟨rfl, h.below⟩

set_option maxRecDepth 100000 in
theorem badB (a b c d tm : Int) (w : World) (h1 : chkW a b = 0) (h2 : chkW c d = 8) :
    Calls Try.prog 8 [.agg #[.int .i64 a, .int .i64 b], .agg #[.int .i64 c, .int .i64 d], .int .i64 tm].toArray w (Pur w (.bool true)) := by
  have hk1 := chk_w a b
  have hk2 := chk_w c d
  rw [h1] at hk1
  rw [h2] at hk2
  have hb1 : clock_Both.f 4 a b c d = some (0, 0, false, 8) := by rw [both_w]; unfold bothW; rw [if_neg (by omega)]
  have hb2 : clock_Both.f 4 c d a b = some (0, 0, false, 8) := by rw [both_w]; unfold bothW; rw [if_neg (by omega)]
  refine enter (n := 104) (R := Mem w [] [] []) Try.func8 rfl rfl (Nat.le_of_ble_eq_true rfl) (Mem.start w) ?_
  refine wpc_seq ?_
  -- region 0
  refine wpc_region ?_
  refine wpl_t (t_box rfl _ rfl) rfl ?_
  intro b3
  refine wpl_t (t_box rfl _ rfl) rfl ?_
  intro b4
  refine wpl_q (q_pure rfl) rfl ?_
  refine wpl_nil ?_
  refine ex_then ?_
  refine wpc_seq ?_
  -- region 1
  refine wpc_region ?_
  refine wpl_t (t_pur Try.hb16 rfl fun w' h => alive_calls w') rfl ?_
  intro b14
  refine wpl_q (q_pure rfl) rfl ?_
  refine wpl_nil ?_
  refine ex_then ?_
  refine wpc_seq ?_
  -- region 2
  refine wpc_region ?_
  refine wpl_q (q_ldN Try.underlying30 rfl Try.ti30 rfl (by first | rfl | (simp only [v8s_length, v32s_length, vis_length, v64s_length, List.length_replicate]; first | done | assumption | omega))) rfl ?_
  refine wpl_q (q_ldN Try.underlying30 rfl Try.ti30 rfl (by first | rfl | (simp only [v8s_length, v32s_length, vis_length, v64s_length, List.length_replicate]; first | done | assumption | omega))) rfl ?_
  refine wpl_t (t_pur Try.hb17 rfl fun w' h => clock_Both.calls 4 a b c d 0 0 false 8 w' hb1) rfl ?_
  intro b18
  refine wpl_q (q_pure rfl) rfl ?_
  refine wpl_q (q_pure rfl) rfl ?_
  refine wpl_q (q_pure rfl) rfl ?_
  refine wpl_q (q_pure rfl) rfl ?_
  refine wpl_t (t_alloc Try.ti30 _ rfl) rfl ?_
  intro b8
  refine wpl_t0 (t_stA Try.ti30 rfl rfl (by first | rfl | (simp only [v8s_length, v32s_length, vis_length, v64s_length, List.length_replicate]; first | done | assumption | omega)) (by first | exact v32s_one _ | exact v8s_one _ | exact v64s_one _ | (intro u hu; simp at hu; rcases hu with h | h <;> subst h <;> rfl) | (simp [Value.oneCell']; done)) (by first | rfl | (simp only [v8s_length, v32s_length, vis_length, v64s_length, List.length_replicate]; first | done | assumption | omega))) ?_
  intro _
  refine wpl_q (q_pure rfl) rfl ?_
  refine wpl_q (q_pure rfl) rfl ?_
  refine wpl_nil ?_
  refine ex_then ?_
  refine wpc_seq ?_
  refine wpc_seq ?_
  -- region 3
  refine wpc_region ?_
  refine wpl_q (q_ldN Try.underlying30 rfl Try.ti30 rfl (by first | rfl | (simp only [v8s_length, v32s_length, vis_length, v64s_length, List.length_replicate]; first | done | assumption | omega))) rfl ?_
  refine wpl_t (t_pur Try.hb21 rfl fun w' h => clock_Check.calls a b 0 w' hk1) rfl ?_
  intro b23
  refine wpl_q (q_pure rfl) rfl ?_
  refine wpl_q (q_pure rfl) rfl ?_
  refine wpl_on rfl rfl ?_
  refine wpl_q (q_ldN Try.underlying30 rfl Try.ti30 rfl (by first | rfl | (simp only [v8s_length, v32s_length, vis_length, v64s_length, List.length_replicate]; first | done | assumption | omega))) rfl ?_
  refine wpl_on rfl rfl ?_
  refine wpl_t (t_pur Try.hb21 rfl fun w' h => clock_Check.calls c d 8 w' hk2) rfl ?_
  intro b27
  refine wpl_on rfl rfl ?_
  refine wpl_q (q_pure rfl) rfl ?_
  refine wpl_q (q_pure rfl) rfl ?_
  refine wpl_nil ?_
  refine ex_then ?_
  refine wpc_cond_t rfl ?_
  refine wpc_seq ?_
  -- region 4
  refine wpc_region ?_
  refine wpl_q (q_pure rfl) rfl ?_
  refine wpl_q (q_pure rfl) rfl ?_
  refine wpl_on rfl rfl ?_
  refine wpl_q (q_pure rfl) rfl ?_
  refine wpl_on rfl rfl ?_
  refine wpl_q (q_pure rfl) rfl ?_
  refine wpl_q (q_pure rfl) rfl ?_
  refine wpl_q (q_pure rfl) rfl ?_
  refine wpl_on rfl rfl ?_
  refine wpl_q (q_pure rfl) rfl ?_
  refine wpl_on rfl rfl ?_
  refine wpl_q (q_pure rfl) rfl ?_
  refine wpl_q (q_pure rfl) rfl ?_
  refine wpl_q (q_pure rfl) rfl ?_
  refine wpl_nil ?_
  refine ex_then ?_
  refine wpc_ret ?_
  refine ex_then_ret ?_
  refine ret1 (.inl rfl) rfl rfl ?_
  exact fun w h => ⟨rfl, h.below⟩

set_option maxRecDepth 100000 in
theorem okAT (a b c d tm : Int) (w : World) (h1 : chkW a b = 0) (h2 : chkW c d = 0) (h3 : max a c ≤ min b d) (h4 : ¬ (max a c = 0 ∧ min b d = 0)) (hi : inW a b tm = true) :
    Calls Try.prog 8 [.agg #[.int .i64 a, .int .i64 b], .agg #[.int .i64 c, .int .i64 d], .int .i64 tm].toArray w (Pur w (.bool true)) := by
  have hk1 := chk_w a b
  have hk2 := chk_w c d
  rw [h1] at hk1
  rw [h2] at hk2
  obtain ⟨z1, z2, z3, z4, z5⟩ := (chkW0 a b).1 h1
  obtain ⟨y1, y2, y3, y4, y5⟩ := (chkW0 c d).1 h2
  have eb1 := both_w a b c d
  have eb2 := both_w c d a b
  unfold bothW at eb1 eb2
  rw [if_pos ⟨h1, h2⟩] at eb1
  rw [if_pos ⟨h2, h1⟩] at eb2
  rw [if_neg (by omega)] at eb1 eb2
  have hb1 : clock_Both.f 4 a b c d = some (max a c, min b d, true, 0) := eb1
  have hb2 : clock_Both.f 4 c d a b = some (max a c, min b d, true, 0) := by rw [eb2, show max c a = max a c by omega, show min d b = min b d by omega]
  have hk3' : chkW (max a c) (min b d) = 0 := (chkW0 _ _).2 (by omega)
  have hk3 : clock_Check.f (max a c) (min b d) = some 0 := by rw [chk_w, hk3']
  have hi1 := in_w a b tm
  rw [hi] at hi1
  have hi3 : clock_In.f (max a c) (min b d) tm = some (inW c d tm) := by
    rw [in_w]
    congr 1
    apply Bool.eq_iff_iff.2
    constructor
    · intro q; have e := (inW_iff _ _ _).1 q; exact (inW_iff c d tm).2 ⟨h2, by omega, by omega⟩
    · intro q; have e := (inW_iff _ _ _).1 q; have e1 := (inW_iff _ _ _).1 hi; exact (inW_iff _ _ _).2 ⟨hk3', by omega, by omega⟩
  refine enter (n := 104) (R := Mem w [] [] []) Try.func8 rfl rfl (Nat.le_of_ble_eq_true rfl) (Mem.start w) ?_
  refine wpc_seq ?_
  -- region 0
  refine wpc_region ?_
  refine wpl_t (t_box rfl _ rfl) rfl ?_
  intro b3
  refine wpl_t (t_box rfl _ rfl) rfl ?_
  intro b4
  refine wpl_q (q_pure rfl) rfl ?_
  refine wpl_nil ?_
  refine ex_then ?_
  refine wpc_seq ?_
  -- region 1
  refine wpc_region ?_
  refine wpl_t (t_pur Try.hb16 rfl fun w' h => alive_calls w') rfl ?_
  intro b14
  refine wpl_q (q_pure rfl) rfl ?_
  refine wpl_nil ?_
  refine ex_then ?_
  refine wpc_seq ?_
  -- region 2
  refine wpc_region ?_
  refine wpl_q (q_ldN Try.underlying30 rfl Try.ti30 rfl (by first | rfl | (simp only [v8s_length, v32s_length, vis_length, v64s_length, List.length_replicate]; first | done | assumption | omega))) rfl ?_
  refine wpl_q (q_ldN Try.underlying30 rfl Try.ti30 rfl (by first | rfl | (simp only [v8s_length, v32s_length, vis_length, v64s_length, List.length_replicate]; first | done | assumption | omega))) rfl ?_
  refine wpl_t (t_pur Try.hb17 rfl fun w' h => clock_Both.calls 4 a b c d (max a c) (min b d) true 0 w' hb1) rfl ?_
  intro b18
  refine wpl_q (q_pure rfl) rfl ?_
  refine wpl_q (q_pure rfl) rfl ?_
  refine wpl_q (q_pure rfl) rfl ?_
  refine wpl_q (q_pure rfl) rfl ?_
  refine wpl_t (t_alloc Try.ti30 _ rfl) rfl ?_
  intro b8
  refine wpl_t0 (t_stA Try.ti30 rfl rfl (by first | rfl | (simp only [v8s_length, v32s_length, vis_length, v64s_length, List.length_replicate]; first | done | assumption | omega)) (by first | exact v32s_one _ | exact v8s_one _ | exact v64s_one _ | (intro u hu; simp at hu; rcases hu with h | h <;> subst h <;> rfl) | (simp [Value.oneCell']; done)) (by first | rfl | (simp only [v8s_length, v32s_length, vis_length, v64s_length, List.length_replicate]; first | done | assumption | omega))) ?_
  intro _
  refine wpl_q (q_pure rfl) rfl ?_
  refine wpl_q (q_pure rfl) rfl ?_
  refine wpl_nil ?_
  refine ex_then ?_
  refine wpc_seq ?_
  refine wpc_seq ?_
  -- region 3
  refine wpc_region ?_
  refine wpl_q (q_ldN Try.underlying30 rfl Try.ti30 rfl (by first | rfl | (simp only [v8s_length, v32s_length, vis_length, v64s_length, List.length_replicate]; first | done | assumption | omega))) rfl ?_
  refine wpl_t (t_pur Try.hb21 rfl fun w' h => clock_Check.calls a b 0 w' hk1) rfl ?_
  intro b23
  refine wpl_q (q_pure rfl) rfl ?_
  refine wpl_q (q_pure rfl) rfl ?_
  refine wpl_on rfl rfl ?_
  refine wpl_q (q_ldN Try.underlying30 rfl Try.ti30 rfl (by first | rfl | (simp only [v8s_length, v32s_length, vis_length, v64s_length, List.length_replicate]; first | done | assumption | omega))) rfl ?_
  refine wpl_on rfl rfl ?_
  refine wpl_t (t_pur Try.hb21 rfl fun w' h => clock_Check.calls c d 0 w' hk2) rfl ?_
  intro b27
  refine wpl_on rfl rfl ?_
  refine wpl_q (q_pure rfl) rfl ?_
  refine wpl_q (q_pure rfl) rfl ?_
  refine wpl_nil ?_
  refine ex_then ?_
  refine wpc_cond_f rfl ?_
  refine wpc_skip ?_
  refine ex_then ?_
  refine wpc_seq ?_
  -- region 5
  refine wpc_region ?_
  refine wpl_q (q_ldN Try.underlying30 rfl Try.ti30 rfl (by first | rfl | (simp only [v8s_length, v32s_length, vis_length, v64s_length, List.length_replicate]; first | done | assumption | omega))) rfl ?_
  refine wpl_q (q_ldN Try.underlying30 rfl Try.ti30 rfl (by first | rfl | (simp only [v8s_length, v32s_length, vis_length, v64s_length, List.length_replicate]; first | done | assumption | omega))) rfl ?_
  refine wpl_t (t_pur Try.hb17 rfl fun w' h => clock_Both.calls 4 c d a b (max a c) (min b d) true 0 w' hb2) rfl ?_
  intro b42
  refine wpl_q (q_pure rfl) rfl ?_
  refine wpl_q (q_pure rfl) rfl ?_
  refine wpl_q (q_pure rfl) rfl ?_
  refine wpl_q (q_pure rfl) rfl ?_
  refine wpl_t (t_alloc Try.ti30 _ rfl) rfl ?_
  intro b11
  refine wpl_t0 (t_stA Try.ti30 rfl rfl (by first | rfl | (simp only [v8s_length, v32s_length, vis_length, v64s_length, List.length_replicate]; first | done | assumption | omega)) (by first | exact v32s_one _ | exact v8s_one _ | exact v64s_one _ | (intro u hu; simp at hu; rcases hu with h | h <;> subst h <;> rfl) | (simp [Value.oneCell']; done)) (by first | rfl | (simp only [v8s_length, v32s_length, vis_length, v64s_length, List.length_replicate]; first | done | assumption | omega))) ?_
  intro _
  refine wpl_q (q_pure rfl) rfl ?_
  refine wpl_q (q_pure rfl) rfl ?_
  refine wpl_nil ?_
  refine ex_then ?_
  refine wpc_seq ?_
  -- region 6
  refine wpc_draw 59 (by kernel_rfl) (fun _ h => h.drew) ?_
  refine wpd_p 0 rfl (by kernel_rfl) trivial (q_pure rfl) rfl sk0 ?_
  refine wpd_p 1 rfl (by kernel_rfl) trivial (q_pure rfl) rfl sk0 ?_
  refine wpd_p 2 rfl (by kernel_rfl) ⟨_, rfl, rfl⟩ (q_pure rfl) rfl sk0 ?_
  refine wpd_p 3 rfl (by kernel_rfl) ⟨_, rfl, rfl⟩ (q_pure rfl) rfl sk0 ?_
  refine wpd_p 4 rfl (by kernel_rfl) trivial (q_pure rfl) rfl sk0 ?_
  refine wpd_p 5 rfl (by kernel_rfl) trivial (q_pure rfl) rfl sk0 ?_
  refine wpd_p 6 rfl (by kernel_rfl) ⟨_, rfl, rfl⟩ (q_pure rfl) rfl sk0 ?_
  refine wpd_p 7 rfl (by kernel_rfl) ⟨_, rfl, rfl⟩ (q_pure rfl) rfl sk0 ?_
  refine wpd_p 8 rfl (by kernel_rfl) trivial (q_pure rfl) rfl sk0 ?_
  refine wpd_p 9 rfl (by kernel_rfl) trivial (q_pure rfl) rfl sk0 ?_
  refine wpd_q 10 rfl (by kernel_rfl) ⟨_, rfl, rfl⟩ (q_ldN Try.underlying30 rfl Try.ti30 rfl (by first | rfl | (simp only [v8s_length, v32s_length, vis_length, v64s_length, List.length_replicate]; first | done | assumption | omega))) rfl (fun _ h => h) ?_
  refine wpd_q 11 rfl (by kernel_rfl) ⟨_, rfl, rfl⟩ (q_ldN Try.underlying30 rfl Try.ti30 rfl (by first | rfl | (simp only [v8s_length, v32s_length, vis_length, v64s_length, List.length_replicate]; first | done | assumption | omega))) rfl (fun _ h => h) ?_
  refine wpd_p 12 rfl (by kernel_rfl) ⟨_, rfl, rfl⟩ (q_eqA eqc30 (by decide) guard30 rfl rfl (win_ok _ _) (win_ok _ _) true (by simp)) rfl sk0 ?_
  refine wpd_p 13 rfl (by kernel_rfl) trivial (q_pure rfl) rfl sk0 ?_
  refine wpd_p 14 rfl (by kernel_rfl) trivial (q_pure rfl) rfl sk0 ?_
  refine wpd_p 15 rfl (by kernel_rfl) ⟨_, rfl, rfl⟩ (q_pure rfl) rfl sk0 ?_
  refine wpd_p 16 rfl (by kernel_rfl) ⟨_, rfl, rfl⟩ (q_pure rfl) rfl sk0 ?_
  refine wpd_p 17 rfl (by kernel_rfl) ⟨_, rfl, rfl⟩ (qop_eq (q_beq Try.underlying4 rfl rfl) (v := .bool true) (by simp)) rfl sk0 ?_
  refine wpd_p 18 rfl (by kernel_rfl) trivial (q_pure rfl) rfl sk0 ?_
  refine wpd_p 19 rfl (by kernel_rfl) trivial (q_pure rfl) rfl sk0 ?_
  refine wpd_p 20 rfl (by kernel_rfl) ⟨_, rfl, rfl⟩ (q_pure rfl) rfl sk0 ?_
  refine wpd_q 21 rfl (by kernel_rfl) ⟨_, rfl, rfl⟩ (q_ldN Try.underlying30 rfl Try.ti30 rfl (by first | rfl | (simp only [v8s_length, v32s_length, vis_length, v64s_length, List.length_replicate]; first | done | assumption | omega))) rfl (fun _ h => h) ?_
  refine wpd_t 22 rfl (by kernel_rfl) ⟨_, rfl, rfl⟩ (t_pur Try.hb21 rfl fun w' h => clock_Check.calls (max a c) (min b d) 0 w' hk3) rfl (fun _ => sk0) ?_
  intro b68
  refine wpd_p 23 rfl (by kernel_rfl) ⟨_, rfl, rfl⟩ (q_pure rfl) rfl sk0 ?_
  refine wpd_p 24 rfl (by kernel_rfl) ⟨_, rfl, rfl⟩ (q_pure rfl) rfl sk0 ?_
  refine wpd_q 25 rfl (by kernel_rfl) ⟨_, rfl, rfl⟩ (q_ldN Try.underlying30 rfl Try.ti30 rfl (by first | rfl | (simp only [v8s_length, v32s_length, vis_length, v64s_length, List.length_replicate]; first | done | assumption | omega))) rfl (fun _ h => h) ?_
  refine wpd_p 26 rfl (by kernel_rfl) ⟨_, rfl, rfl⟩ (q_build (cs := [.int .i64 0, .int .i64 0]) (vs := []) rfl (built_struct Try.underlying30 Try.ti30 (pl := [(0, 1), (1, 1)]) (by kernel_rfl) rfl)) rfl sk0 ?_
  refine wpd_p 27 rfl (by kernel_rfl) ⟨_, rfl, rfl⟩ (q_neA eqc30 (by decide) guard30 rfl rfl (win_ok _ _) (win_ok _ _) true (by simp; intro h; omega)) rfl sk0 ?_
  refine wpd_p 28 rfl (by kernel_rfl) ⟨_, rfl, rfl⟩ (q_pure rfl) rfl sk0 ?_
  refine wpd_off 29 rfl (by kernel_rfl) ⟨_, _, rfl, rfl, rfl⟩ rfl sk0 ?_
  refine wpd_off 30 rfl (by kernel_rfl) ⟨_, _, rfl, rfl, rfl⟩ rfl sk0 ?_
  refine wpd_off 31 rfl (by kernel_rfl) ⟨_, _, rfl, rfl, rfl⟩ rfl sk0 ?_
  refine wpd_off 32 rfl (by kernel_rfl) ⟨_, _, rfl, rfl, rfl⟩ rfl sk0 ?_
  refine wpd_off 33 rfl (by kernel_rfl) ⟨_, _, rfl, rfl, rfl⟩ rfl sk0 ?_
  refine wpd_off 34 rfl (by kernel_rfl) ⟨_, _, rfl, rfl, rfl⟩ rfl sk0 ?_
  refine wpd_off 35 rfl (by kernel_rfl) ⟨_, _, rfl, rfl, rfl⟩ rfl sk0 ?_
  refine wpd_off 36 rfl (by kernel_rfl) ⟨_, _, rfl, rfl, rfl⟩ rfl sk0 ?_
  refine wpd_p 37 rfl (by kernel_rfl) ⟨_, rfl, rfl⟩ (q_pure rfl) rfl sk0 ?_
  refine wpd_p 38 rfl (by kernel_rfl) ⟨_, rfl, rfl⟩ (q_pure rfl) rfl sk0 ?_
  refine wpd_p 39 rfl (by kernel_rfl) ⟨_, rfl, rfl⟩ (qop_eq (q_beq Try.underlying4 rfl rfl) (v := .bool true) (by simp)) rfl sk0 ?_
  refine wpd_p 40 rfl (by kernel_rfl) trivial (q_pure rfl) rfl sk0 ?_
  refine wpd_p 41 rfl (by kernel_rfl) trivial (q_pure rfl) rfl sk0 ?_
  refine wpd_p 42 rfl (by kernel_rfl) ⟨_, rfl, rfl⟩ (q_pure rfl) rfl sk0 ?_
  refine wpd_p 43 rfl (by kernel_rfl) ⟨_, rfl, rfl⟩ (q_pure rfl) rfl sk0 ?_
  refine wpd_q 44 rfl (by kernel_rfl) ⟨_, rfl, rfl⟩ (q_ldN Try.underlying30 rfl Try.ti30 rfl (by first | rfl | (simp only [v8s_length, v32s_length, vis_length, v64s_length, List.length_replicate]; first | done | assumption | omega))) rfl (fun _ h => h) ?_
  refine wpd_p 45 rfl (by kernel_rfl) ⟨_, rfl, rfl⟩ (q_pure rfl) rfl sk0 ?_
  refine wpd_q 48 rfl (by kernel_rfl) ⟨_, rfl, rfl⟩ (q_ldN Try.underlying30 rfl Try.ti30 rfl (by first | rfl | (simp only [v8s_length, v32s_length, vis_length, v64s_length, List.length_replicate]; first | done | assumption | omega))) rfl (fun _ h => h) ?_
  refine wpd_p 49 rfl (by kernel_rfl) ⟨_, rfl, rfl⟩ (q_pure rfl) rfl sk0 ?_
  refine wpd_t 46 rfl (by kernel_rfl) ⟨_, rfl, rfl⟩ (t_pur Try.hb23 rfl fun w' h => clock_In.calls (max a c) (min b d) tm (inW c d tm) w' hi3) rfl (fun _ => sk0) ?_
  intro b92
  refine wpd_p 47 rfl (by kernel_rfl) ⟨_, rfl, rfl⟩ (q_pure rfl) rfl sk0 ?_
  refine wpd_t 50 rfl (by kernel_rfl) ⟨_, rfl, rfl⟩ (t_pur Try.hb23 rfl fun w' h => clock_In.calls a b tm true w' hi1) rfl (fun _ => sk0) ?_
  intro b96
  refine wpd_p 51 rfl (by kernel_rfl) ⟨_, rfl, rfl⟩ (q_pure rfl) rfl sk0 ?_
  refine wpd_q 52 rfl (by kernel_rfl) ⟨_, rfl, rfl⟩ (q_ldN Try.underlying30 rfl Try.ti30 rfl (by first | rfl | (simp only [v8s_length, v32s_length, vis_length, v64s_length, List.length_replicate]; first | done | assumption | omega))) rfl (fun _ h => h) ?_
  refine wpd_p 53 rfl (by kernel_rfl) ⟨_, rfl, rfl⟩ (q_pure rfl) rfl sk0 ?_
  refine wpd_t 54 rfl (by kernel_rfl) ⟨_, rfl, rfl⟩ (t_pur Try.hb23 rfl fun w' h => clock_In.calls c d tm (inW c d tm) w' (in_w c d tm)) rfl (fun _ => sk0) ?_
  intro b100
  refine wpd_p 55 rfl (by kernel_rfl) ⟨_, rfl, rfl⟩ (q_pure rfl) rfl sk0 ?_
  refine wpd_p 56 rfl (by kernel_rfl) ⟨_, rfl, rfl⟩ (qop_eq (q_beq Try.underlying4 rfl rfl) (v := .bool true) (by simp)) rfl sk0 ?_
  refine wpd_p 57 rfl (by kernel_rfl) trivial (q_pure rfl) rfl sk0 ?_
  refine wpd_p 58 rfl (by kernel_rfl) trivial (q_pure rfl) rfl sk0 ?_
  refine wpd_done (by kernel_rfl) ?_
  refine ex_then ?_
  refine wpc_ret ?_
  refine ret1 (.inl rfl) rfl rfl ?_
  exact fun w h => ⟨rfl, h.below⟩

set_option maxRecDepth 100000 in
theorem okAF (a b c d tm : Int) (w : World) (h1 : chkW a b = 0) (h2 : chkW c d = 0) (h3 : max a c ≤ min b d) (h4 : ¬ (max a c = 0 ∧ min b d = 0)) (hi : inW a b tm = false) :
    Calls Try.prog 8 [.agg #[.int .i64 a, .int .i64 b], .agg #[.int .i64 c, .int .i64 d], .int .i64 tm].toArray w (Pur w (.bool true)) := by
  have hk1 := chk_w a b
  have hk2 := chk_w c d
  rw [h1] at hk1
  rw [h2] at hk2
  obtain ⟨z1, z2, z3, z4, z5⟩ := (chkW0 a b).1 h1
  obtain ⟨y1, y2, y3, y4, y5⟩ := (chkW0 c d).1 h2
  have eb1 := both_w a b c d
  have eb2 := both_w c d a b
  unfold bothW at eb1 eb2
  rw [if_pos ⟨h1, h2⟩] at eb1
  rw [if_pos ⟨h2, h1⟩] at eb2
  rw [if_neg (by omega)] at eb1 eb2
  have hb1 : clock_Both.f 4 a b c d = some (max a c, min b d, true, 0) := eb1
  have hb2 : clock_Both.f 4 c d a b = some (max a c, min b d, true, 0) := by rw [eb2, show max c a = max a c by omega, show min d b = min b d by omega]
  have hk3' : chkW (max a c) (min b d) = 0 := (chkW0 _ _).2 (by omega)
  have hk3 : clock_Check.f (max a c) (min b d) = some 0 := by rw [chk_w, hk3']
  have hi1 := in_w a b tm
  rw [hi] at hi1
  have hi3 : clock_In.f (max a c) (min b d) tm = some false := by
    rw [in_w]
    congr 1
    cases hq : inW (max a c) (min b d) tm
    · rfl
    · have e := (inW_iff _ _ _).1 hq
      have := (inW_iff a b tm).2 ⟨h1, by omega, by omega⟩
      rw [hi] at this; cases this
  refine enter (n := 104) (R := Mem w [] [] []) Try.func8 rfl rfl (Nat.le_of_ble_eq_true rfl) (Mem.start w) ?_
  refine wpc_seq ?_
  -- region 0
  refine wpc_region ?_
  refine wpl_t (t_box rfl _ rfl) rfl ?_
  intro b3
  refine wpl_t (t_box rfl _ rfl) rfl ?_
  intro b4
  refine wpl_q (q_pure rfl) rfl ?_
  refine wpl_nil ?_
  refine ex_then ?_
  refine wpc_seq ?_
  -- region 1
  refine wpc_region ?_
  refine wpl_t (t_pur Try.hb16 rfl fun w' h => alive_calls w') rfl ?_
  intro b14
  refine wpl_q (q_pure rfl) rfl ?_
  refine wpl_nil ?_
  refine ex_then ?_
  refine wpc_seq ?_
  -- region 2
  refine wpc_region ?_
  refine wpl_q (q_ldN Try.underlying30 rfl Try.ti30 rfl (by first | rfl | (simp only [v8s_length, v32s_length, vis_length, v64s_length, List.length_replicate]; first | done | assumption | omega))) rfl ?_
  refine wpl_q (q_ldN Try.underlying30 rfl Try.ti30 rfl (by first | rfl | (simp only [v8s_length, v32s_length, vis_length, v64s_length, List.length_replicate]; first | done | assumption | omega))) rfl ?_
  refine wpl_t (t_pur Try.hb17 rfl fun w' h => clock_Both.calls 4 a b c d (max a c) (min b d) true 0 w' hb1) rfl ?_
  intro b18
  refine wpl_q (q_pure rfl) rfl ?_
  refine wpl_q (q_pure rfl) rfl ?_
  refine wpl_q (q_pure rfl) rfl ?_
  refine wpl_q (q_pure rfl) rfl ?_
  refine wpl_t (t_alloc Try.ti30 _ rfl) rfl ?_
  intro b8
  refine wpl_t0 (t_stA Try.ti30 rfl rfl (by first | rfl | (simp only [v8s_length, v32s_length, vis_length, v64s_length, List.length_replicate]; first | done | assumption | omega)) (by first | exact v32s_one _ | exact v8s_one _ | exact v64s_one _ | (intro u hu; simp at hu; rcases hu with h | h <;> subst h <;> rfl) | (simp [Value.oneCell']; done)) (by first | rfl | (simp only [v8s_length, v32s_length, vis_length, v64s_length, List.length_replicate]; first | done | assumption | omega))) ?_
  intro _
  refine wpl_q (q_pure rfl) rfl ?_
  refine wpl_q (q_pure rfl) rfl ?_
  refine wpl_nil ?_
  refine ex_then ?_
  refine wpc_seq ?_
  refine wpc_seq ?_
  -- region 3
  refine wpc_region ?_
  refine wpl_q (q_ldN Try.underlying30 rfl Try.ti30 rfl (by first | rfl | (simp only [v8s_length, v32s_length, vis_length, v64s_length, List.length_replicate]; first | done | assumption | omega))) rfl ?_
  refine wpl_t (t_pur Try.hb21 rfl fun w' h => clock_Check.calls a b 0 w' hk1) rfl ?_
  intro b23
  refine wpl_q (q_pure rfl) rfl ?_
  refine wpl_q (q_pure rfl) rfl ?_
  refine wpl_on rfl rfl ?_
  refine wpl_q (q_ldN Try.underlying30 rfl Try.ti30 rfl (by first | rfl | (simp only [v8s_length, v32s_length, vis_length, v64s_length, List.length_replicate]; first | done | assumption | omega))) rfl ?_
  refine wpl_on rfl rfl ?_
  refine wpl_t (t_pur Try.hb21 rfl fun w' h => clock_Check.calls c d 0 w' hk2) rfl ?_
  intro b27
  refine wpl_on rfl rfl ?_
  refine wpl_q (q_pure rfl) rfl ?_
  refine wpl_q (q_pure rfl) rfl ?_
  refine wpl_nil ?_
  refine ex_then ?_
  refine wpc_cond_f rfl ?_
  refine wpc_skip ?_
  refine ex_then ?_
  refine wpc_seq ?_
  -- region 5
  refine wpc_region ?_
  refine wpl_q (q_ldN Try.underlying30 rfl Try.ti30 rfl (by first | rfl | (simp only [v8s_length, v32s_length, vis_length, v64s_length, List.length_replicate]; first | done | assumption | omega))) rfl ?_
  refine wpl_q (q_ldN Try.underlying30 rfl Try.ti30 rfl (by first | rfl | (simp only [v8s_length, v32s_length, vis_length, v64s_length, List.length_replicate]; first | done | assumption | omega))) rfl ?_
  refine wpl_t (t_pur Try.hb17 rfl fun w' h => clock_Both.calls 4 c d a b (max a c) (min b d) true 0 w' hb2) rfl ?_
  intro b42
  refine wpl_q (q_pure rfl) rfl ?_
  refine wpl_q (q_pure rfl) rfl ?_
  refine wpl_q (q_pure rfl) rfl ?_
  refine wpl_q (q_pure rfl) rfl ?_
  refine wpl_t (t_alloc Try.ti30 _ rfl) rfl ?_
  intro b11
  refine wpl_t0 (t_stA Try.ti30 rfl rfl (by first | rfl | (simp only [v8s_length, v32s_length, vis_length, v64s_length, List.length_replicate]; first | done | assumption | omega)) (by first | exact v32s_one _ | exact v8s_one _ | exact v64s_one _ | (intro u hu; simp at hu; rcases hu with h | h <;> subst h <;> rfl) | (simp [Value.oneCell']; done)) (by first | rfl | (simp only [v8s_length, v32s_length, vis_length, v64s_length, List.length_replicate]; first | done | assumption | omega))) ?_
  intro _
  refine wpl_q (q_pure rfl) rfl ?_
  refine wpl_q (q_pure rfl) rfl ?_
  refine wpl_nil ?_
  refine ex_then ?_
  refine wpc_seq ?_
  -- region 6
  refine wpc_draw 59 (by kernel_rfl) (fun _ h => h.drew) ?_
  refine wpd_p 0 rfl (by kernel_rfl) trivial (q_pure rfl) rfl sk0 ?_
  refine wpd_p 1 rfl (by kernel_rfl) trivial (q_pure rfl) rfl sk0 ?_
  refine wpd_p 2 rfl (by kernel_rfl) ⟨_, rfl, rfl⟩ (q_pure rfl) rfl sk0 ?_
  refine wpd_p 3 rfl (by kernel_rfl) ⟨_, rfl, rfl⟩ (q_pure rfl) rfl sk0 ?_
  refine wpd_p 4 rfl (by kernel_rfl) trivial (q_pure rfl) rfl sk0 ?_
  refine wpd_p 5 rfl (by kernel_rfl) trivial (q_pure rfl) rfl sk0 ?_
  refine wpd_p 6 rfl (by kernel_rfl) ⟨_, rfl, rfl⟩ (q_pure rfl) rfl sk0 ?_
  refine wpd_p 7 rfl (by kernel_rfl) ⟨_, rfl, rfl⟩ (q_pure rfl) rfl sk0 ?_
  refine wpd_p 8 rfl (by kernel_rfl) trivial (q_pure rfl) rfl sk0 ?_
  refine wpd_p 9 rfl (by kernel_rfl) trivial (q_pure rfl) rfl sk0 ?_
  refine wpd_q 10 rfl (by kernel_rfl) ⟨_, rfl, rfl⟩ (q_ldN Try.underlying30 rfl Try.ti30 rfl (by first | rfl | (simp only [v8s_length, v32s_length, vis_length, v64s_length, List.length_replicate]; first | done | assumption | omega))) rfl (fun _ h => h) ?_
  refine wpd_q 11 rfl (by kernel_rfl) ⟨_, rfl, rfl⟩ (q_ldN Try.underlying30 rfl Try.ti30 rfl (by first | rfl | (simp only [v8s_length, v32s_length, vis_length, v64s_length, List.length_replicate]; first | done | assumption | omega))) rfl (fun _ h => h) ?_
  refine wpd_p 12 rfl (by kernel_rfl) ⟨_, rfl, rfl⟩ (q_eqA eqc30 (by decide) guard30 rfl rfl (win_ok _ _) (win_ok _ _) true (by simp)) rfl sk0 ?_
  refine wpd_p 13 rfl (by kernel_rfl) trivial (q_pure rfl) rfl sk0 ?_
  refine wpd_p 14 rfl (by kernel_rfl) trivial (q_pure rfl) rfl sk0 ?_
  refine wpd_p 15 rfl (by kernel_rfl) ⟨_, rfl, rfl⟩ (q_pure rfl) rfl sk0 ?_
  refine wpd_p 16 rfl (by kernel_rfl) ⟨_, rfl, rfl⟩ (q_pure rfl) rfl sk0 ?_
  refine wpd_p 17 rfl (by kernel_rfl) ⟨_, rfl, rfl⟩ (qop_eq (q_beq Try.underlying4 rfl rfl) (v := .bool true) (by simp)) rfl sk0 ?_
  refine wpd_p 18 rfl (by kernel_rfl) trivial (q_pure rfl) rfl sk0 ?_
  refine wpd_p 19 rfl (by kernel_rfl) trivial (q_pure rfl) rfl sk0 ?_
  refine wpd_p 20 rfl (by kernel_rfl) ⟨_, rfl, rfl⟩ (q_pure rfl) rfl sk0 ?_
  refine wpd_q 21 rfl (by kernel_rfl) ⟨_, rfl, rfl⟩ (q_ldN Try.underlying30 rfl Try.ti30 rfl (by first | rfl | (simp only [v8s_length, v32s_length, vis_length, v64s_length, List.length_replicate]; first | done | assumption | omega))) rfl (fun _ h => h) ?_
  refine wpd_t 22 rfl (by kernel_rfl) ⟨_, rfl, rfl⟩ (t_pur Try.hb21 rfl fun w' h => clock_Check.calls (max a c) (min b d) 0 w' hk3) rfl (fun _ => sk0) ?_
  intro b68
  refine wpd_p 23 rfl (by kernel_rfl) ⟨_, rfl, rfl⟩ (q_pure rfl) rfl sk0 ?_
  refine wpd_p 24 rfl (by kernel_rfl) ⟨_, rfl, rfl⟩ (q_pure rfl) rfl sk0 ?_
  refine wpd_q 25 rfl (by kernel_rfl) ⟨_, rfl, rfl⟩ (q_ldN Try.underlying30 rfl Try.ti30 rfl (by first | rfl | (simp only [v8s_length, v32s_length, vis_length, v64s_length, List.length_replicate]; first | done | assumption | omega))) rfl (fun _ h => h) ?_
  refine wpd_p 26 rfl (by kernel_rfl) ⟨_, rfl, rfl⟩ (q_build (cs := [.int .i64 0, .int .i64 0]) (vs := []) rfl (built_struct Try.underlying30 Try.ti30 (pl := [(0, 1), (1, 1)]) (by kernel_rfl) rfl)) rfl sk0 ?_
  refine wpd_p 27 rfl (by kernel_rfl) ⟨_, rfl, rfl⟩ (q_neA eqc30 (by decide) guard30 rfl rfl (win_ok _ _) (win_ok _ _) true (by simp; intro h; omega)) rfl sk0 ?_
  refine wpd_p 28 rfl (by kernel_rfl) ⟨_, rfl, rfl⟩ (q_pure rfl) rfl sk0 ?_
  refine wpd_off 29 rfl (by kernel_rfl) ⟨_, _, rfl, rfl, rfl⟩ rfl sk0 ?_
  refine wpd_off 30 rfl (by kernel_rfl) ⟨_, _, rfl, rfl, rfl⟩ rfl sk0 ?_
  refine wpd_off 31 rfl (by kernel_rfl) ⟨_, _, rfl, rfl, rfl⟩ rfl sk0 ?_
  refine wpd_off 32 rfl (by kernel_rfl) ⟨_, _, rfl, rfl, rfl⟩ rfl sk0 ?_
  refine wpd_off 33 rfl (by kernel_rfl) ⟨_, _, rfl, rfl, rfl⟩ rfl sk0 ?_
  refine wpd_off 34 rfl (by kernel_rfl) ⟨_, _, rfl, rfl, rfl⟩ rfl sk0 ?_
  refine wpd_off 35 rfl (by kernel_rfl) ⟨_, _, rfl, rfl, rfl⟩ rfl sk0 ?_
  refine wpd_off 36 rfl (by kernel_rfl) ⟨_, _, rfl, rfl, rfl⟩ rfl sk0 ?_
  refine wpd_p 37 rfl (by kernel_rfl) ⟨_, rfl, rfl⟩ (q_pure rfl) rfl sk0 ?_
  refine wpd_p 38 rfl (by kernel_rfl) ⟨_, rfl, rfl⟩ (q_pure rfl) rfl sk0 ?_
  refine wpd_p 39 rfl (by kernel_rfl) ⟨_, rfl, rfl⟩ (qop_eq (q_beq Try.underlying4 rfl rfl) (v := .bool true) (by simp)) rfl sk0 ?_
  refine wpd_p 40 rfl (by kernel_rfl) trivial (q_pure rfl) rfl sk0 ?_
  refine wpd_p 41 rfl (by kernel_rfl) trivial (q_pure rfl) rfl sk0 ?_
  refine wpd_p 42 rfl (by kernel_rfl) ⟨_, rfl, rfl⟩ (q_pure rfl) rfl sk0 ?_
  refine wpd_p 43 rfl (by kernel_rfl) ⟨_, rfl, rfl⟩ (q_pure rfl) rfl sk0 ?_
  refine wpd_q 44 rfl (by kernel_rfl) ⟨_, rfl, rfl⟩ (q_ldN Try.underlying30 rfl Try.ti30 rfl (by first | rfl | (simp only [v8s_length, v32s_length, vis_length, v64s_length, List.length_replicate]; first | done | assumption | omega))) rfl (fun _ h => h) ?_
  refine wpd_p 45 rfl (by kernel_rfl) ⟨_, rfl, rfl⟩ (q_pure rfl) rfl sk0 ?_
  refine wpd_q 48 rfl (by kernel_rfl) ⟨_, rfl, rfl⟩ (q_ldN Try.underlying30 rfl Try.ti30 rfl (by first | rfl | (simp only [v8s_length, v32s_length, vis_length, v64s_length, List.length_replicate]; first | done | assumption | omega))) rfl (fun _ h => h) ?_
  refine wpd_p 49 rfl (by kernel_rfl) ⟨_, rfl, rfl⟩ (q_pure rfl) rfl sk0 ?_
  refine wpd_t 46 rfl (by kernel_rfl) ⟨_, rfl, rfl⟩ (t_pur Try.hb23 rfl fun w' h => clock_In.calls (max a c) (min b d) tm false w' hi3) rfl (fun _ => sk0) ?_
  intro b92
  refine wpd_p 47 rfl (by kernel_rfl) ⟨_, rfl, rfl⟩ (q_pure rfl) rfl sk0 ?_
  refine wpd_t 50 rfl (by kernel_rfl) ⟨_, rfl, rfl⟩ (t_pur Try.hb23 rfl fun w' h => clock_In.calls a b tm false w' hi1) rfl (fun _ => sk0) ?_
  intro b96
  refine wpd_p 51 rfl (by kernel_rfl) ⟨_, rfl, rfl⟩ (q_pure rfl) rfl sk0 ?_
  refine wpd_off 52 rfl (by kernel_rfl) ⟨_, _, rfl, rfl, rfl⟩ rfl sk0 ?_
  refine wpd_off 53 rfl (by kernel_rfl) ⟨_, _, rfl, rfl, rfl⟩ rfl sk0 ?_
  refine wpd_off 54 rfl (by kernel_rfl) ⟨_, _, rfl, rfl, rfl⟩ rfl sk0 ?_
  refine wpd_p 55 rfl (by kernel_rfl) ⟨_, rfl, rfl⟩ (q_pure rfl) rfl sk0 ?_
  refine wpd_p 56 rfl (by kernel_rfl) ⟨_, rfl, rfl⟩ (qop_eq (q_beq Try.underlying4 rfl rfl) (v := .bool true) (by simp)) rfl sk0 ?_
  refine wpd_p 57 rfl (by kernel_rfl) trivial (q_pure rfl) rfl sk0 ?_
  refine wpd_p 58 rfl (by kernel_rfl) trivial (q_pure rfl) rfl sk0 ?_
  refine wpd_done (by kernel_rfl) ?_
  refine ex_then ?_
  refine wpc_ret ?_
  refine ret1 (.inl rfl) rfl rfl ?_
  exact fun w h => ⟨rfl, h.below⟩

set_option maxRecDepth 100000 in
theorem okBT (a b c d tm : Int) (w : World) (h1 : chkW a b = 0) (h2 : chkW c d = 0) (h3 : max a c ≤ min b d) (h4 : max a c = 0 ∧ min b d = 0) (hi : inW a b tm = true) :
    Calls Try.prog 8 [.agg #[.int .i64 a, .int .i64 b], .agg #[.int .i64 c, .int .i64 d], .int .i64 tm].toArray w (Pur w (.bool true)) := by
  have hk1 := chk_w a b
  have hk2 := chk_w c d
  rw [h1] at hk1
  rw [h2] at hk2
  obtain ⟨z1, z2, z3, z4, z5⟩ := (chkW0 a b).1 h1
  obtain ⟨y1, y2, y3, y4, y5⟩ := (chkW0 c d).1 h2
  have eb1 := both_w a b c d
  have eb2 := both_w c d a b
  unfold bothW at eb1 eb2
  rw [if_pos ⟨h1, h2⟩] at eb1
  rw [if_pos ⟨h2, h1⟩] at eb2
  rw [if_neg (by omega)] at eb1 eb2
  have hb1 : clock_Both.f 4 a b c d = some (max a c, min b d, true, 0) := eb1
  have hb2 : clock_Both.f 4 c d a b = some (max a c, min b d, true, 0) := by rw [eb2, show max c a = max a c by omega, show min d b = min b d by omega]
  have hk3' : chkW (max a c) (min b d) = 0 := (chkW0 _ _).2 (by omega)
  have hk3 : clock_Check.f (max a c) (min b d) = some 0 := by rw [chk_w, hk3']
  have hi1 := in_w a b tm
  rw [hi] at hi1
  have hi3 : clock_In.f (max a c) (min b d) tm = some (inW c d tm) := by
    rw [in_w]
    congr 1
    apply Bool.eq_iff_iff.2
    constructor
    · intro q; have e := (inW_iff _ _ _).1 q; exact (inW_iff c d tm).2 ⟨h2, by omega, by omega⟩
    · intro q; have e := (inW_iff _ _ _).1 q; have e1 := (inW_iff _ _ _).1 hi; exact (inW_iff _ _ _).2 ⟨hk3', by omega, by omega⟩
  refine enter (n := 104) (R := Mem w [] [] []) Try.func8 rfl rfl (Nat.le_of_ble_eq_true rfl) (Mem.start w) ?_
  refine wpc_seq ?_
  -- region 0
  refine wpc_region ?_
  refine wpl_t (t_box rfl _ rfl) rfl ?_
  intro b3
  refine wpl_t (t_box rfl _ rfl) rfl ?_
  intro b4
  refine wpl_q (q_pure rfl) rfl ?_
  refine wpl_nil ?_
  refine ex_then ?_
  refine wpc_seq ?_
  -- region 1
  refine wpc_region ?_
  refine wpl_t (t_pur Try.hb16 rfl fun w' h => alive_calls w') rfl ?_
  intro b14
  refine wpl_q (q_pure rfl) rfl ?_
  refine wpl_nil ?_
  refine ex_then ?_
  refine wpc_seq ?_
  -- region 2
  refine wpc_region ?_
  refine wpl_q (q_ldN Try.underlying30 rfl Try.ti30 rfl (by first | rfl | (simp only [v8s_length, v32s_length, vis_length, v64s_length, List.length_replicate]; first | done | assumption | omega))) rfl ?_
  refine wpl_q (q_ldN Try.underlying30 rfl Try.ti30 rfl (by first | rfl | (simp only [v8s_length, v32s_length, vis_length, v64s_length, List.length_replicate]; first | done | assumption | omega))) rfl ?_
  refine wpl_t (t_pur Try.hb17 rfl fun w' h => clock_Both.calls 4 a b c d (max a c) (min b d) true 0 w' hb1) rfl ?_
  intro b18
  refine wpl_q (q_pure rfl) rfl ?_
  refine wpl_q (q_pure rfl) rfl ?_
  refine wpl_q (q_pure rfl) rfl ?_
  refine wpl_q (q_pure rfl) rfl ?_
  refine wpl_t (t_alloc Try.ti30 _ rfl) rfl ?_
  intro b8
  refine wpl_t0 (t_stA Try.ti30 rfl rfl (by first | rfl | (simp only [v8s_length, v32s_length, vis_length, v64s_length, List.length_replicate]; first | done | assumption | omega)) (by first | exact v32s_one _ | exact v8s_one _ | exact v64s_one _ | (intro u hu; simp at hu; rcases hu with h | h <;> subst h <;> rfl) | (simp [Value.oneCell']; done)) (by first | rfl | (simp only [v8s_length, v32s_length, vis_length, v64s_length, List.length_replicate]; first | done | assumption | omega))) ?_
  intro _
  refine wpl_q (q_pure rfl) rfl ?_
  refine wpl_q (q_pure rfl) rfl ?_
  refine wpl_nil ?_
  refine ex_then ?_
  refine wpc_seq ?_
  refine wpc_seq ?_
  -- region 3
  refine wpc_region ?_
  refine wpl_q (q_ldN Try.underlying30 rfl Try.ti30 rfl (by first | rfl | (simp only [v8s_length, v32s_length, vis_length, v64s_length, List.length_replicate]; first | done | assumption | omega))) rfl ?_
  refine wpl_t (t_pur Try.hb21 rfl fun w' h => clock_Check.calls a b 0 w' hk1) rfl ?_
  intro b23
  refine wpl_q (q_pure rfl) rfl ?_
  refine wpl_q (q_pure rfl) rfl ?_
  refine wpl_on rfl rfl ?_
  refine wpl_q (q_ldN Try.underlying30 rfl Try.ti30 rfl (by first | rfl | (simp only [v8s_length, v32s_length, vis_length, v64s_length, List.length_replicate]; first | done | assumption | omega))) rfl ?_
  refine wpl_on rfl rfl ?_
  refine wpl_t (t_pur Try.hb21 rfl fun w' h => clock_Check.calls c d 0 w' hk2) rfl ?_
  intro b27
  refine wpl_on rfl rfl ?_
  refine wpl_q (q_pure rfl) rfl ?_
  refine wpl_q (q_pure rfl) rfl ?_
  refine wpl_nil ?_
  refine ex_then ?_
  refine wpc_cond_f rfl ?_
  refine wpc_skip ?_
  refine ex_then ?_
  refine wpc_seq ?_
  -- region 5
  refine wpc_region ?_
  refine wpl_q (q_ldN Try.underlying30 rfl Try.ti30 rfl (by first | rfl | (simp only [v8s_length, v32s_length, vis_length, v64s_length, List.length_replicate]; first | done | assumption | omega))) rfl ?_
  refine wpl_q (q_ldN Try.underlying30 rfl Try.ti30 rfl (by first | rfl | (simp only [v8s_length, v32s_length, vis_length, v64s_length, List.length_replicate]; first | done | assumption | omega))) rfl ?_
  refine wpl_t (t_pur Try.hb17 rfl fun w' h => clock_Both.calls 4 c d a b (max a c) (min b d) true 0 w' hb2) rfl ?_
  intro b42
  refine wpl_q (q_pure rfl) rfl ?_
  refine wpl_q (q_pure rfl) rfl ?_
  refine wpl_q (q_pure rfl) rfl ?_
  refine wpl_q (q_pure rfl) rfl ?_
  refine wpl_t (t_alloc Try.ti30 _ rfl) rfl ?_
  intro b11
  refine wpl_t0 (t_stA Try.ti30 rfl rfl (by first | rfl | (simp only [v8s_length, v32s_length, vis_length, v64s_length, List.length_replicate]; first | done | assumption | omega)) (by first | exact v32s_one _ | exact v8s_one _ | exact v64s_one _ | (intro u hu; simp at hu; rcases hu with h | h <;> subst h <;> rfl) | (simp [Value.oneCell']; done)) (by first | rfl | (simp only [v8s_length, v32s_length, vis_length, v64s_length, List.length_replicate]; first | done | assumption | omega))) ?_
  intro _
  refine wpl_q (q_pure rfl) rfl ?_
  refine wpl_q (q_pure rfl) rfl ?_
  refine wpl_nil ?_
  refine ex_then ?_
  refine wpc_seq ?_
  -- region 6
  refine wpc_draw 59 (by kernel_rfl) (fun _ h => h.drew) ?_
  refine wpd_p 0 rfl (by kernel_rfl) trivial (q_pure rfl) rfl sk0 ?_
  refine wpd_p 1 rfl (by kernel_rfl) trivial (q_pure rfl) rfl sk0 ?_
  refine wpd_p 2 rfl (by kernel_rfl) ⟨_, rfl, rfl⟩ (q_pure rfl) rfl sk0 ?_
  refine wpd_p 3 rfl (by kernel_rfl) ⟨_, rfl, rfl⟩ (q_pure rfl) rfl sk0 ?_
  refine wpd_p 4 rfl (by kernel_rfl) trivial (q_pure rfl) rfl sk0 ?_
  refine wpd_p 5 rfl (by kernel_rfl) trivial (q_pure rfl) rfl sk0 ?_
  refine wpd_p 6 rfl (by kernel_rfl) ⟨_, rfl, rfl⟩ (q_pure rfl) rfl sk0 ?_
  refine wpd_p 7 rfl (by kernel_rfl) ⟨_, rfl, rfl⟩ (q_pure rfl) rfl sk0 ?_
  refine wpd_p 8 rfl (by kernel_rfl) trivial (q_pure rfl) rfl sk0 ?_
  refine wpd_p 9 rfl (by kernel_rfl) trivial (q_pure rfl) rfl sk0 ?_
  refine wpd_q 10 rfl (by kernel_rfl) ⟨_, rfl, rfl⟩ (q_ldN Try.underlying30 rfl Try.ti30 rfl (by first | rfl | (simp only [v8s_length, v32s_length, vis_length, v64s_length, List.length_replicate]; first | done | assumption | omega))) rfl (fun _ h => h) ?_
  refine wpd_q 11 rfl (by kernel_rfl) ⟨_, rfl, rfl⟩ (q_ldN Try.underlying30 rfl Try.ti30 rfl (by first | rfl | (simp only [v8s_length, v32s_length, vis_length, v64s_length, List.length_replicate]; first | done | assumption | omega))) rfl (fun _ h => h) ?_
  refine wpd_p 12 rfl (by kernel_rfl) ⟨_, rfl, rfl⟩ (q_eqA eqc30 (by decide) guard30 rfl rfl (win_ok _ _) (win_ok _ _) true (by simp)) rfl sk0 ?_
  refine wpd_p 13 rfl (by kernel_rfl) trivial (q_pure rfl) rfl sk0 ?_
  refine wpd_p 14 rfl (by kernel_rfl) trivial (q_pure rfl) rfl sk0 ?_
  refine wpd_p 15 rfl (by kernel_rfl) ⟨_, rfl, rfl⟩ (q_pure rfl) rfl sk0 ?_
  refine wpd_p 16 rfl (by kernel_rfl) ⟨_, rfl, rfl⟩ (q_pure rfl) rfl sk0 ?_
  refine wpd_p 17 rfl (by kernel_rfl) ⟨_, rfl, rfl⟩ (qop_eq (q_beq Try.underlying4 rfl rfl) (v := .bool true) (by simp)) rfl sk0 ?_
  refine wpd_p 18 rfl (by kernel_rfl) trivial (q_pure rfl) rfl sk0 ?_
  refine wpd_p 19 rfl (by kernel_rfl) trivial (q_pure rfl) rfl sk0 ?_
  refine wpd_p 20 rfl (by kernel_rfl) ⟨_, rfl, rfl⟩ (q_pure rfl) rfl sk0 ?_
  refine wpd_q 21 rfl (by kernel_rfl) ⟨_, rfl, rfl⟩ (q_ldN Try.underlying30 rfl Try.ti30 rfl (by first | rfl | (simp only [v8s_length, v32s_length, vis_length, v64s_length, List.length_replicate]; first | done | assumption | omega))) rfl (fun _ h => h) ?_
  refine wpd_t 22 rfl (by kernel_rfl) ⟨_, rfl, rfl⟩ (t_pur Try.hb21 rfl fun w' h => clock_Check.calls (max a c) (min b d) 0 w' hk3) rfl (fun _ => sk0) ?_
  intro b68
  refine wpd_p 23 rfl (by kernel_rfl) ⟨_, rfl, rfl⟩ (q_pure rfl) rfl sk0 ?_
  refine wpd_p 24 rfl (by kernel_rfl) ⟨_, rfl, rfl⟩ (q_pure rfl) rfl sk0 ?_
  refine wpd_q 25 rfl (by kernel_rfl) ⟨_, rfl, rfl⟩ (q_ldN Try.underlying30 rfl Try.ti30 rfl (by first | rfl | (simp only [v8s_length, v32s_length, vis_length, v64s_length, List.length_replicate]; first | done | assumption | omega))) rfl (fun _ h => h) ?_
  refine wpd_p 26 rfl (by kernel_rfl) ⟨_, rfl, rfl⟩ (q_build (cs := [.int .i64 0, .int .i64 0]) (vs := []) rfl (built_struct Try.underlying30 Try.ti30 (pl := [(0, 1), (1, 1)]) (by kernel_rfl) rfl)) rfl sk0 ?_
  refine wpd_p 27 rfl (by kernel_rfl) ⟨_, rfl, rfl⟩ (q_neA eqc30 (by decide) guard30 rfl rfl (win_ok _ _) (win_ok _ _) false (by simp; omega)) rfl sk0 ?_
  refine wpd_p 28 rfl (by kernel_rfl) ⟨_, rfl, rfl⟩ (q_pure rfl) rfl sk0 ?_
  refine wpd_p 29 rfl (by kernel_rfl) ⟨_, rfl, rfl⟩ (q_field Try.underlying30 rfl Try.ti2 rfl rfl _ rfl) rfl sk0 ?_
  refine wpd_q 30 rfl (by kernel_rfl) ⟨_, rfl, rfl⟩ (q_ld Try.underlying2 rfl rfl (by first | exact vis_get (by omega) | rfl)) rfl (fun _ h => h) ?_
  refine wpd_p 31 rfl (by kernel_rfl) ⟨_, rfl, rfl⟩ (qop_eq (q_pure rfl) (v := .bool true) (by simp; omega)) rfl sk0 ?_
  refine wpd_p 32 rfl (by kernel_rfl) ⟨_, rfl, rfl⟩ (q_pure rfl) rfl sk0 ?_
  refine wpd_p 33 rfl (by kernel_rfl) ⟨_, rfl, rfl⟩ (q_field Try.underlying30 rfl Try.ti2 rfl rfl _ rfl) rfl sk0 ?_
  refine wpd_q 34 rfl (by kernel_rfl) ⟨_, rfl, rfl⟩ (q_ld Try.underlying2 rfl rfl (by first | exact vis_get (by omega) | rfl)) rfl (fun _ h => h) ?_
  refine wpd_p 35 rfl (by kernel_rfl) ⟨_, rfl, rfl⟩ (qop_eq (q_pure rfl) (v := .bool true) (by simp; omega)) rfl sk0 ?_
  refine wpd_p 36 rfl (by kernel_rfl) ⟨_, rfl, rfl⟩ (q_pure rfl) rfl sk0 ?_
  refine wpd_p 37 rfl (by kernel_rfl) ⟨_, rfl, rfl⟩ (q_pure rfl) rfl sk0 ?_
  refine wpd_p 38 rfl (by kernel_rfl) ⟨_, rfl, rfl⟩ (q_pure rfl) rfl sk0 ?_
  refine wpd_p 39 rfl (by kernel_rfl) ⟨_, rfl, rfl⟩ (qop_eq (q_beq Try.underlying4 rfl rfl) (v := .bool true) (by simp)) rfl sk0 ?_
  refine wpd_p 40 rfl (by kernel_rfl) trivial (q_pure rfl) rfl sk0 ?_
  refine wpd_p 41 rfl (by kernel_rfl) trivial (q_pure rfl) rfl sk0 ?_
  refine wpd_p 42 rfl (by kernel_rfl) ⟨_, rfl, rfl⟩ (q_pure rfl) rfl sk0 ?_
  refine wpd_p 43 rfl (by kernel_rfl) ⟨_, rfl, rfl⟩ (q_pure rfl) rfl sk0 ?_
  refine wpd_q 44 rfl (by kernel_rfl) ⟨_, rfl, rfl⟩ (q_ldN Try.underlying30 rfl Try.ti30 rfl (by first | rfl | (simp only [v8s_length, v32s_length, vis_length, v64s_length, List.length_replicate]; first | done | assumption | omega))) rfl (fun _ h => h) ?_
  refine wpd_p 45 rfl (by kernel_rfl) ⟨_, rfl, rfl⟩ (q_pure rfl) rfl sk0 ?_
  refine wpd_q 48 rfl (by kernel_rfl) ⟨_, rfl, rfl⟩ (q_ldN Try.underlying30 rfl Try.ti30 rfl (by first | rfl | (simp only [v8s_length, v32s_length, vis_length, v64s_length, List.length_replicate]; first | done | assumption | omega))) rfl (fun _ h => h) ?_
  refine wpd_p 49 rfl (by kernel_rfl) ⟨_, rfl, rfl⟩ (q_pure rfl) rfl sk0 ?_
  refine wpd_t 46 rfl (by kernel_rfl) ⟨_, rfl, rfl⟩ (t_pur Try.hb23 rfl fun w' h => clock_In.calls (max a c) (min b d) tm (inW c d tm) w' hi3) rfl (fun _ => sk0) ?_
  intro b92
  refine wpd_p 47 rfl (by kernel_rfl) ⟨_, rfl, rfl⟩ (q_pure rfl) rfl sk0 ?_
  refine wpd_t 50 rfl (by kernel_rfl) ⟨_, rfl, rfl⟩ (t_pur Try.hb23 rfl fun w' h => clock_In.calls a b tm true w' hi1) rfl (fun _ => sk0) ?_
  intro b96
  refine wpd_p 51 rfl (by kernel_rfl) ⟨_, rfl, rfl⟩ (q_pure rfl) rfl sk0 ?_
  refine wpd_q 52 rfl (by kernel_rfl) ⟨_, rfl, rfl⟩ (q_ldN Try.underlying30 rfl Try.ti30 rfl (by first | rfl | (simp only [v8s_length, v32s_length, vis_length, v64s_length, List.length_replicate]; first | done | assumption | omega))) rfl (fun _ h => h) ?_
  refine wpd_p 53 rfl (by kernel_rfl) ⟨_, rfl, rfl⟩ (q_pure rfl) rfl sk0 ?_
  refine wpd_t 54 rfl (by kernel_rfl) ⟨_, rfl, rfl⟩ (t_pur Try.hb23 rfl fun w' h => clock_In.calls c d tm (inW c d tm) w' (in_w c d tm)) rfl (fun _ => sk0) ?_
  intro b100
  refine wpd_p 55 rfl (by kernel_rfl) ⟨_, rfl, rfl⟩ (q_pure rfl) rfl sk0 ?_
  refine wpd_p 56 rfl (by kernel_rfl) ⟨_, rfl, rfl⟩ (qop_eq (q_beq Try.underlying4 rfl rfl) (v := .bool true) (by simp)) rfl sk0 ?_
  refine wpd_p 57 rfl (by kernel_rfl) trivial (q_pure rfl) rfl sk0 ?_
  refine wpd_p 58 rfl (by kernel_rfl) trivial (q_pure rfl) rfl sk0 ?_
  refine wpd_done (by kernel_rfl) ?_
  refine ex_then ?_
  refine wpc_ret ?_
  refine ret1 (.inl rfl) rfl rfl ?_
  exact fun w h => ⟨rfl, h.below⟩

set_option maxRecDepth 100000 in
theorem okBF (a b c d tm : Int) (w : World) (h1 : chkW a b = 0) (h2 : chkW c d = 0) (h3 : max a c ≤ min b d) (h4 : max a c = 0 ∧ min b d = 0) (hi : inW a b tm = false) :
    Calls Try.prog 8 [.agg #[.int .i64 a, .int .i64 b], .agg #[.int .i64 c, .int .i64 d], .int .i64 tm].toArray w (Pur w (.bool true)) := by
  have hk1 := chk_w a b
  have hk2 := chk_w c d
  rw [h1] at hk1
  rw [h2] at hk2
  obtain ⟨z1, z2, z3, z4, z5⟩ := (chkW0 a b).1 h1
  obtain ⟨y1, y2, y3, y4, y5⟩ := (chkW0 c d).1 h2
  have eb1 := both_w a b c d
  have eb2 := both_w c d a b
  unfold bothW at eb1 eb2
  rw [if_pos ⟨h1, h2⟩] at eb1
  rw [if_pos ⟨h2, h1⟩] at eb2
  rw [if_neg (by omega)] at eb1 eb2
  have hb1 : clock_Both.f 4 a b c d = some (max a c, min b d, true, 0) := eb1
  have hb2 : clock_Both.f 4 c d a b = some (max a c, min b d, true, 0) := by rw [eb2, show max c a = max a c by omega, show min d b = min b d by omega]
  have hk3' : chkW (max a c) (min b d) = 0 := (chkW0 _ _).2 (by omega)
  have hk3 : clock_Check.f (max a c) (min b d) = some 0 := by rw [chk_w, hk3']
  have hi1 := in_w a b tm
  rw [hi] at hi1
  have hi3 : clock_In.f (max a c) (min b d) tm = some false := by
    rw [in_w]
    congr 1
    cases hq : inW (max a c) (min b d) tm
    · rfl
    · have e := (inW_iff _ _ _).1 hq
      have := (inW_iff a b tm).2 ⟨h1, by omega, by omega⟩
      rw [hi] at this; cases this
  refine enter (n := 104) (R := Mem w [] [] []) Try.func8 rfl rfl (Nat.le_of_ble_eq_true rfl) (Mem.start w) ?_
  refine wpc_seq ?_
  -- region 0
  refine wpc_region ?_
  refine wpl_t (t_box rfl _ rfl) rfl ?_
  intro b3
  refine wpl_t (t_box rfl _ rfl) rfl ?_
  intro b4
  refine wpl_q (q_pure rfl) rfl ?_
  refine wpl_nil ?_
  refine ex_then ?_
  refine wpc_seq ?_
  -- region 1
  refine wpc_region ?_
  refine wpl_t (t_pur Try.hb16 rfl fun w' h => alive_calls w') rfl ?_
  intro b14
  refine wpl_q (q_pure rfl) rfl ?_
  refine wpl_nil ?_
  refine ex_then ?_
  refine wpc_seq ?_
  -- region 2
  refine wpc_region ?_
  refine wpl_q (q_ldN Try.underlying30 rfl Try.ti30 rfl (by first | rfl | (simp only [v8s_length, v32s_length, vis_length, v64s_length, List.length_replicate]; first | done | assumption | omega))) rfl ?_
  refine wpl_q (q_ldN Try.underlying30 rfl Try.ti30 rfl (by first | rfl | (simp only [v8s_length, v32s_length, vis_length, v64s_length, List.length_replicate]; first | done | assumption | omega))) rfl ?_
  refine wpl_t (t_pur Try.hb17 rfl fun w' h => clock_Both.calls 4 a b c d (max a c) (min b d) true 0 w' hb1) rfl ?_
  intro b18
  refine wpl_q (q_pure rfl) rfl ?_
  refine wpl_q (q_pure rfl) rfl ?_
  refine wpl_q (q_pure rfl) rfl ?_
  refine wpl_q (q_pure rfl) rfl ?_
  refine wpl_t (t_alloc Try.ti30 _ rfl) rfl ?_
  intro b8
  refine wpl_t0 (t_stA Try.ti30 rfl rfl (by first | rfl | (simp only [v8s_length, v32s_length, vis_length, v64s_length, List.length_replicate]; first | done | assumption | omega)) (by first | exact v32s_one _ | exact v8s_one _ | exact v64s_one _ | (intro u hu; simp at hu; rcases hu with h | h <;> subst h <;> rfl) | (simp [Value.oneCell']; done)) (by first | rfl | (simp only [v8s_length, v32s_length, vis_length, v64s_length, List.length_replicate]; first | done | assumption | omega))) ?_
  intro _
  refine wpl_q (q_pure rfl) rfl ?_
  refine wpl_q (q_pure rfl) rfl ?_
  refine wpl_nil ?_
  refine ex_then ?_
  refine wpc_seq ?_
  refine wpc_seq ?_
  -- region 3
  refine wpc_region ?_
  refine wpl_q (q_ldN Try.underlying30 rfl Try.ti30 rfl (by first | rfl | (simp only [v8s_length, v32s_length, vis_length, v64s_length, List.length_replicate]; first | done | assumption | omega))) rfl ?_
  refine wpl_t (t_pur Try.hb21 rfl fun w' h => clock_Check.calls a b 0 w' hk1) rfl ?_
  intro b23
  refine wpl_q (q_pure rfl) rfl ?_
  refine wpl_q (q_pure rfl) rfl ?_
  refine wpl_on rfl rfl ?_
  refine wpl_q (q_ldN Try.underlying30 rfl Try.ti30 rfl (by first | rfl | (simp only [v8s_length, v32s_length, vis_length, v64s_length, List.length_replicate]; first | done | assumption | omega))) rfl ?_
  refine wpl_on rfl rfl ?_
  refine wpl_t (t_pur Try.hb21 rfl fun w' h => clock_Check.calls c d 0 w' hk2) rfl ?_
  intro b27
  refine wpl_on rfl rfl ?_
  refine wpl_q (q_pure rfl) rfl ?_
  refine wpl_q (q_pure rfl) rfl ?_
  refine wpl_nil ?_
  refine ex_then ?_
  refine wpc_cond_f rfl ?_
  refine wpc_skip ?_
  refine ex_then ?_
  refine wpc_seq ?_
  -- region 5
  refine wpc_region ?_
  refine wpl_q (q_ldN Try.underlying30 rfl Try.ti30 rfl (by first | rfl | (simp only [v8s_length, v32s_length, vis_length, v64s_length, List.length_replicate]; first | done | assumption | omega))) rfl ?_
  refine wpl_q (q_ldN Try.underlying30 rfl Try.ti30 rfl (by first | rfl | (simp only [v8s_length, v32s_length, vis_length, v64s_length, List.length_replicate]; first | done | assumption | omega))) rfl ?_
  refine wpl_t (t_pur Try.hb17 rfl fun w' h => clock_Both.calls 4 c d a b (max a c) (min b d) true 0 w' hb2) rfl ?_
  intro b42
  refine wpl_q (q_pure rfl) rfl ?_
  refine wpl_q (q_pure rfl) rfl ?_
  refine wpl_q (q_pure rfl) rfl ?_
  refine wpl_q (q_pure rfl) rfl ?_
  refine wpl_t (t_alloc Try.ti30 _ rfl) rfl ?_
  intro b11
  refine wpl_t0 (t_stA Try.ti30 rfl rfl (by first | rfl | (simp only [v8s_length, v32s_length, vis_length, v64s_length, List.length_replicate]; first | done | assumption | omega)) (by first | exact v32s_one _ | exact v8s_one _ | exact v64s_one _ | (intro u hu; simp at hu; rcases hu with h | h <;> subst h <;> rfl) | (simp [Value.oneCell']; done)) (by first | rfl | (simp only [v8s_length, v32s_length, vis_length, v64s_length, List.length_replicate]; first | done | assumption | omega))) ?_
  intro _
  refine wpl_q (q_pure rfl) rfl ?_
  refine wpl_q (q_pure rfl) rfl ?_
  refine wpl_nil ?_
  refine ex_then ?_
  refine wpc_seq ?_
  -- region 6
  refine wpc_draw 59 (by kernel_rfl) (fun _ h => h.drew) ?_
  refine wpd_p 0 rfl (by kernel_rfl) trivial (q_pure rfl) rfl sk0 ?_
  refine wpd_p 1 rfl (by kernel_rfl) trivial (q_pure rfl) rfl sk0 ?_
  refine wpd_p 2 rfl (by kernel_rfl) ⟨_, rfl, rfl⟩ (q_pure rfl) rfl sk0 ?_
  refine wpd_p 3 rfl (by kernel_rfl) ⟨_, rfl, rfl⟩ (q_pure rfl) rfl sk0 ?_
  refine wpd_p 4 rfl (by kernel_rfl) trivial (q_pure rfl) rfl sk0 ?_
  refine wpd_p 5 rfl (by kernel_rfl) trivial (q_pure rfl) rfl sk0 ?_
  refine wpd_p 6 rfl (by kernel_rfl) ⟨_, rfl, rfl⟩ (q_pure rfl) rfl sk0 ?_
  refine wpd_p 7 rfl (by kernel_rfl) ⟨_, rfl, rfl⟩ (q_pure rfl) rfl sk0 ?_
  refine wpd_p 8 rfl (by kernel_rfl) trivial (q_pure rfl) rfl sk0 ?_
  refine wpd_p 9 rfl (by kernel_rfl) trivial (q_pure rfl) rfl sk0 ?_
  refine wpd_q 10 rfl (by kernel_rfl) ⟨_, rfl, rfl⟩ (q_ldN Try.underlying30 rfl Try.ti30 rfl (by first | rfl | (simp only [v8s_length, v32s_length, vis_length, v64s_length, List.length_replicate]; first | done | assumption | omega))) rfl (fun _ h => h) ?_
  refine wpd_q 11 rfl (by kernel_rfl) ⟨_, rfl, rfl⟩ (q_ldN Try.underlying30 rfl Try.ti30 rfl (by first | rfl | (simp only [v8s_length, v32s_length, vis_length, v64s_length, List.length_replicate]; first | done | assumption | omega))) rfl (fun _ h => h) ?_
  refine wpd_p 12 rfl (by kernel_rfl) ⟨_, rfl, rfl⟩ (q_eqA eqc30 (by decide) guard30 rfl rfl (win_ok _ _) (win_ok _ _) true (by simp)) rfl sk0 ?_
  refine wpd_p 13 rfl (by kernel_rfl) trivial (q_pure rfl) rfl sk0 ?_
  refine wpd_p 14 rfl (by kernel_rfl) trivial (q_pure rfl) rfl sk0 ?_
  refine wpd_p 15 rfl (by kernel_rfl) ⟨_, rfl, rfl⟩ (q_pure rfl) rfl sk0 ?_
  refine wpd_p 16 rfl (by kernel_rfl) ⟨_, rfl, rfl⟩ (q_pure rfl) rfl sk0 ?_
  refine wpd_p 17 rfl (by kernel_rfl) ⟨_, rfl, rfl⟩ (qop_eq (q_beq Try.underlying4 rfl rfl) (v := .bool true) (by simp)) rfl sk0 ?_
  refine wpd_p 18 rfl (by kernel_rfl) trivial (q_pure rfl) rfl sk0 ?_
  refine wpd_p 19 rfl (by kernel_rfl) trivial (q_pure rfl) rfl sk0 ?_
  refine wpd_p 20 rfl (by kernel_rfl) ⟨_, rfl, rfl⟩ (q_pure rfl) rfl sk0 ?_
  refine wpd_q 21 rfl (by kernel_rfl) ⟨_, rfl, rfl⟩ (q_ldN Try.underlying30 rfl Try.ti30 rfl (by first | rfl | (simp only [v8s_length, v32s_length, vis_length, v64s_length, List.length_replicate]; first | done | assumption | omega))) rfl (fun _ h => h) ?_
  refine wpd_t 22 rfl (by kernel_rfl) ⟨_, rfl, rfl⟩ (t_pur Try.hb21 rfl fun w' h => clock_Check.calls (max a c) (min b d) 0 w' hk3) rfl (fun _ => sk0) ?_
  intro b68
  refine wpd_p 23 rfl (by kernel_rfl) ⟨_, rfl, rfl⟩ (q_pure rfl) rfl sk0 ?_
  refine wpd_p 24 rfl (by kernel_rfl) ⟨_, rfl, rfl⟩ (q_pure rfl) rfl sk0 ?_
  refine wpd_q 25 rfl (by kernel_rfl) ⟨_, rfl, rfl⟩ (q_ldN Try.underlying30 rfl Try.ti30 rfl (by first | rfl | (simp only [v8s_length, v32s_length, vis_length, v64s_length, List.length_replicate]; first | done | assumption | omega))) rfl (fun _ h => h) ?_
  refine wpd_p 26 rfl (by kernel_rfl) ⟨_, rfl, rfl⟩ (q_build (cs := [.int .i64 0, .int .i64 0]) (vs := []) rfl (built_struct Try.underlying30 Try.ti30 (pl := [(0, 1), (1, 1)]) (by kernel_rfl) rfl)) rfl sk0 ?_
  refine wpd_p 27 rfl (by kernel_rfl) ⟨_, rfl, rfl⟩ (q_neA eqc30 (by decide) guard30 rfl rfl (win_ok _ _) (win_ok _ _) false (by simp; omega)) rfl sk0 ?_
  refine wpd_p 28 rfl (by kernel_rfl) ⟨_, rfl, rfl⟩ (q_pure rfl) rfl sk0 ?_
  refine wpd_p 29 rfl (by kernel_rfl) ⟨_, rfl, rfl⟩ (q_field Try.underlying30 rfl Try.ti2 rfl rfl _ rfl) rfl sk0 ?_
  refine wpd_q 30 rfl (by kernel_rfl) ⟨_, rfl, rfl⟩ (q_ld Try.underlying2 rfl rfl (by first | exact vis_get (by omega) | rfl)) rfl (fun _ h => h) ?_
  refine wpd_p 31 rfl (by kernel_rfl) ⟨_, rfl, rfl⟩ (qop_eq (q_pure rfl) (v := .bool true) (by simp; omega)) rfl sk0 ?_
  refine wpd_p 32 rfl (by kernel_rfl) ⟨_, rfl, rfl⟩ (q_pure rfl) rfl sk0 ?_
  refine wpd_p 33 rfl (by kernel_rfl) ⟨_, rfl, rfl⟩ (q_field Try.underlying30 rfl Try.ti2 rfl rfl _ rfl) rfl sk0 ?_
  refine wpd_q 34 rfl (by kernel_rfl) ⟨_, rfl, rfl⟩ (q_ld Try.underlying2 rfl rfl (by first | exact vis_get (by omega) | rfl)) rfl (fun _ h => h) ?_
  refine wpd_p 35 rfl (by kernel_rfl) ⟨_, rfl, rfl⟩ (qop_eq (q_pure rfl) (v := .bool true) (by simp; omega)) rfl sk0 ?_
  refine wpd_p 36 rfl (by kernel_rfl) ⟨_, rfl, rfl⟩ (q_pure rfl) rfl sk0 ?_
  refine wpd_p 37 rfl (by kernel_rfl) ⟨_, rfl, rfl⟩ (q_pure rfl) rfl sk0 ?_
  refine wpd_p 38 rfl (by kernel_rfl) ⟨_, rfl, rfl⟩ (q_pure rfl) rfl sk0 ?_
  refine wpd_p 39 rfl (by kernel_rfl) ⟨_, rfl, rfl⟩ (qop_eq (q_beq Try.underlying4 rfl rfl) (v := .bool true) (by simp)) rfl sk0 ?_
  refine wpd_p 40 rfl (by kernel_rfl) trivial (q_pure rfl) rfl sk0 ?_
  refine wpd_p 41 rfl (by kernel_rfl) trivial (q_pure rfl) rfl sk0 ?_
  refine wpd_p 42 rfl (by kernel_rfl) ⟨_, rfl, rfl⟩ (q_pure rfl) rfl sk0 ?_
  refine wpd_p 43 rfl (by kernel_rfl) ⟨_, rfl, rfl⟩ (q_pure rfl) rfl sk0 ?_
  refine wpd_q 44 rfl (by kernel_rfl) ⟨_, rfl, rfl⟩ (q_ldN Try.underlying30 rfl Try.ti30 rfl (by first | rfl | (simp only [v8s_length, v32s_length, vis_length, v64s_length, List.length_replicate]; first | done | assumption | omega))) rfl (fun _ h => h) ?_
  refine wpd_p 45 rfl (by kernel_rfl) ⟨_, rfl, rfl⟩ (q_pure rfl) rfl sk0 ?_
  refine wpd_q 48 rfl (by kernel_rfl) ⟨_, rfl, rfl⟩ (q_ldN Try.underlying30 rfl Try.ti30 rfl (by first | rfl | (simp only [v8s_length, v32s_length, vis_length, v64s_length, List.length_replicate]; first | done | assumption | omega))) rfl (fun _ h => h) ?_
  refine wpd_p 49 rfl (by kernel_rfl) ⟨_, rfl, rfl⟩ (q_pure rfl) rfl sk0 ?_
  refine wpd_t 46 rfl (by kernel_rfl) ⟨_, rfl, rfl⟩ (t_pur Try.hb23 rfl fun w' h => clock_In.calls (max a c) (min b d) tm false w' hi3) rfl (fun _ => sk0) ?_
  intro b92
  refine wpd_p 47 rfl (by kernel_rfl) ⟨_, rfl, rfl⟩ (q_pure rfl) rfl sk0 ?_
  refine wpd_t 50 rfl (by kernel_rfl) ⟨_, rfl, rfl⟩ (t_pur Try.hb23 rfl fun w' h => clock_In.calls a b tm false w' hi1) rfl (fun _ => sk0) ?_
  intro b96
  refine wpd_p 51 rfl (by kernel_rfl) ⟨_, rfl, rfl⟩ (q_pure rfl) rfl sk0 ?_
  refine wpd_off 52 rfl (by kernel_rfl) ⟨_, _, rfl, rfl, rfl⟩ rfl sk0 ?_
  refine wpd_off 53 rfl (by kernel_rfl) ⟨_, _, rfl, rfl, rfl⟩ rfl sk0 ?_
  refine wpd_off 54 rfl (by kernel_rfl) ⟨_, _, rfl, rfl, rfl⟩ rfl sk0 ?_
  refine wpd_p 55 rfl (by kernel_rfl) ⟨_, rfl, rfl⟩ (q_pure rfl) rfl sk0 ?_
  refine wpd_p 56 rfl (by kernel_rfl) ⟨_, rfl, rfl⟩ (qop_eq (q_beq Try.underlying4 rfl rfl) (v := .bool true) (by simp)) rfl sk0 ?_
  refine wpd_p 57 rfl (by kernel_rfl) trivial (q_pure rfl) rfl sk0 ?_
  refine wpd_p 58 rfl (by kernel_rfl) trivial (q_pure rfl) rfl sk0 ?_
  refine wpd_done (by kernel_rfl) ?_
  refine ex_then ?_
  refine wpc_ret ?_
  refine ret1 (.inl rfl) rfl rfl ?_
  exact fun w h => ⟨rfl, h.below⟩

end Go.Proofs.Ytoefmoniafhgfaa.LB