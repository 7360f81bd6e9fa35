/- The law ClockNames: its walk. -/
import Derived.Test.YtoefmoniafhgfaaK1
import Derived.Test.YtoefmoniafhgfaaPureClockNext
import Derived.Test.YtoefmoniafhgfaaPLS
namespace Go.Proofs.Ytoefmoniafhgfaa.LN
set_option linter.unusedSimpArgs false
set_option linter.unusedVariables false
open Go Go.PL Go.RowKit Go.Proofs.Ytoefmoniafhgfaa Go.Proofs.Ytoefmoniafhgfaa.PClockWindows Go.Proofs.YtoefmoniafhgfaaW.PrintWords Go.Proofs.YtoefmoniafhgfaaW.PrintMore Go.Proofs.YtoefmoniafhgfaaW.PrintLast Go.Proofs.Ytoefmoniafhgfaa.Clk
theorem alive_calls (w : World) : Calls Try.prog 16 #[] w (Pur w (.bool true)) := PClockNext.gatepathlaw04_alive.calls 1 true w (Pure.alive_eq 0)
def many (m : Nat) : List Int := (List.range m).map Int.ofNat
theorem many_length (m : Nat) : (many m).length = m := by simp [many]
theorem many_succ (m : Nat) : many (m + 1) = many m ++ [(m : Int)] := by simp [many, List.range_succ]
theorem many_take (m k : Nat) (h : m ≤ k) : (many k).take m = many m := by
  simp only [many, ← List.map_take, List.take_range, Nat.min_eq_left h]
theorem next_pur (l : List Int) (n : Nat) (hn : l.length = n) (A0 : Option Addr) (cap : Nat) (t r1 r2 : Int) (w : World) (hs : Seen w.cell? (.slice A0 n cap) n 1 (vis l)) (h : clock_Next.f 1300 l t = some (r1, r2)) :
    Calls Try.prog 19 #[.slice A0 n cap, .int .i64 t] w (Pur w (.tuple #[.int .i64 r1, .int .i64 r2])) := by
  subst hn
  obtain ⟨hc, hm, hz⟩ := hs.cap
  have hr : ReadsInt w .i64 A0 l.length l := by
    refine ⟨rfl, by simp only [maxLen] at hm; omega, fun h0 => ?_⟩
    cases A0 with
    | none => have := hz rfl; omega
    | some ad => exact ⟨ad, rfl, fun j hj => hs.cell (vis_get hj)⟩
  exact (clock_Next.calls 1300 A0 cap l t r1 r2 w (Kd.C_of_reads (d := (0 : Int)) (h1 := fun _ => rfl) hr) hc h).mono fun e w2 h2 => ⟨h2.1, h2.2.below⟩
set_option maxRecDepth 100000 in
theorem n1 : clock_Next.f 1300 (many 1001) 0 = some (0, 4) := by unfold clock_Next.f; rw [many_length]; rfl
set_option maxRecDepth 100000 in
theorem n2 : clock_Next.f 1300 (many 1000) 998 = some (999, 0) := by decide +kernel
set_option maxRecDepth 100000 in
theorem n3 : clock_Next.f 1300 (many 1000) 999 = some (0, 6) := by decide +kernel

set_option maxRecDepth 100000 in
theorem names (w : World) :
    Calls Try.prog 9 [].toArray w (Pur w (.bool true)) := by
  refine enter (n := 311) (R := Mem w [] [] []) Try.func9 rfl rfl (Nat.le_of_ble_eq_true rfl) (Mem.start w) ?_
  refine wpc_seq ?_
  -- region 0
  refine wpc_region ?_
  refine wpl_q (q_pure rfl) rfl ?_
  refine wpl_nil ?_
  refine ex_then ?_
  refine wpc_seq ?_
  -- region 1
  refine wpc_region ?_
  refine wpl_q (q_build (cs := [.int .i64 (0), .int .i64 (1099511627776)]) (vs := [(1, .int .i64 (1099511627776))]) rfl (built_struct Try.underlying30 Try.ti30 (pl := [(0, 1), (1, 1)]) (by kernel_rfl) rfl)) rfl ?_
  refine wpl_t (t_pur Try.hb21 rfl fun w' h => clock_Check.calls (0) (1099511627776) 0 w' (by decide +kernel)) rfl ?_
  intro b47
  refine wpl_q (q_pure rfl) rfl ?_
  refine wpl_q (q_pure rfl) rfl ?_
  refine wpl_on rfl rfl ?_
  refine wpl_q (q_build (cs := [.int .i64 (0), .int .i64 (1099511627777)]) (vs := [(1, .int .i64 (1099511627777))]) rfl (built_struct Try.underlying30 Try.ti30 (pl := [(0, 1), (1, 1)]) (by kernel_rfl) rfl)) rfl ?_
  refine wpl_on rfl rfl ?_
  refine wpl_t (t_pur Try.hb21 rfl fun w' h => clock_Check.calls (0) (1099511627777) 8 w' (by decide +kernel)) rfl ?_
  intro b51
  refine wpl_on rfl rfl ?_
  refine wpl_q (q_pure rfl) rfl ?_
  refine wpl_q (q_pure rfl) rfl ?_
  refine wpl_q (q_pure rfl) rfl ?_
  refine wpl_on rfl rfl ?_
  refine wpl_q (q_build (cs := [.int .i64 (-1), .int .i64 (0)]) (vs := [(0, .int .i64 (-1))]) rfl (built_struct Try.underlying30 Try.ti30 (pl := [(0, 1), (1, 1)]) (by kernel_rfl) rfl)) rfl ?_
  refine wpl_on rfl rfl ?_
  refine wpl_t (t_pur Try.hb21 rfl fun w' h => clock_Check.calls (-1) (0) 8 w' (by decide +kernel)) rfl ?_
  intro b56
  refine wpl_on rfl rfl ?_
  refine wpl_q (q_pure rfl) rfl ?_
  refine wpl_q (q_pure rfl) rfl ?_
  refine wpl_q (q_pure rfl) rfl ?_
  refine wpl_on rfl rfl ?_
  refine wpl_q (q_build (cs := [.int .i64 (2), .int .i64 (1)]) (vs := [(0, .int .i64 (2)), (1, .int .i64 (1))]) rfl (built_struct Try.underlying30 Try.ti30 (pl := [(0, 1), (1, 1)]) (by kernel_rfl) rfl)) rfl ?_
  refine wpl_on rfl rfl ?_
  refine wpl_t (t_pur Try.hb21 rfl fun w' h => clock_Check.calls (2) (1) 8 w' (by decide +kernel)) rfl ?_
  intro b61
  refine wpl_on rfl rfl ?_
  refine wpl_q (q_pure rfl) rfl ?_
  refine wpl_q (q_pure rfl) rfl ?_
  refine wpl_q (q_pure rfl) rfl ?_
  refine wpl_on rfl rfl ?_
  refine wpl_q (q_build (cs := [.int .i64 (3), .int .i64 (5)]) (vs := [(0, .int .i64 (3)), (1, .int .i64 (5))]) rfl (built_struct Try.underlying30 Try.ti30 (pl := [(0, 1), (1, 1)]) (by kernel_rfl) rfl)) rfl ?_
  refine wpl_on rfl rfl ?_
  refine wpl_t (t_pur Try.hb23 rfl fun w' h => clock_In.calls 3 5 5 true w' (by decide +kernel)) rfl ?_
  intro b66
  refine wpl_q (q_pure rfl) rfl ?_
  refine wpl_q (q_pure rfl) rfl ?_
  refine wpl_on rfl rfl ?_
  refine wpl_q (q_build (cs := [.int .i64 (3), .int .i64 (5)]) (vs := [(0, .int .i64 (3)), (1, .int .i64 (5))]) rfl (built_struct Try.underlying30 Try.ti30 (pl := [(0, 1), (1, 1)]) (by kernel_rfl) rfl)) rfl ?_
  refine wpl_on rfl rfl ?_
  refine wpl_t (t_pur Try.hb23 rfl fun w' h => clock_In.calls 3 5 6 false w' (by decide +kernel)) rfl ?_
  intro b70
  refine wpl_on rfl rfl ?_
  refine wpl_q (q_pure rfl) rfl ?_
  refine wpl_q (q_pure rfl) rfl ?_
  refine wpl_q (q_pure rfl) rfl ?_
  refine wpl_on rfl rfl ?_
  refine wpl_q (q_build (cs := [.int .i64 (5), .int .i64 (3)]) (vs := [(0, .int .i64 (5)), (1, .int .i64 (3))]) rfl (built_struct Try.underlying30 Try.ti30 (pl := [(0, 1), (1, 1)]) (by kernel_rfl) rfl)) rfl ?_
  refine wpl_on rfl rfl ?_
  refine wpl_t (t_pur Try.hb23 rfl fun w' h => clock_In.calls 5 3 4 false w' (by decide +kernel)) rfl ?_
  intro b75
  refine wpl_on rfl rfl ?_
  refine wpl_q (q_pure rfl) rfl ?_
  refine wpl_q (q_pure rfl) rfl ?_
  refine wpl_q (q_pure rfl) rfl ?_
  refine wpl_nil ?_
  refine ex_then ?_
  refine wpc_seq ?_
  -- region 2
  refine wpc_region ?_
  refine wpl_q (q_build (cs := [.int .i64 (1), .int .i64 (5)]) (vs := [(0, .int .i64 (1)), (1, .int .i64 (5))]) rfl (built_struct Try.underlying30 Try.ti30 (pl := [(0, 1), (1, 1)]) (by kernel_rfl) rfl)) rfl ?_
  refine wpl_q (q_build (cs := [.int .i64 (5), .int .i64 (9)]) (vs := [(0, .int .i64 (5)), (1, .int .i64 (9))]) rfl (built_struct Try.underlying30 Try.ti30 (pl := [(0, 1), (1, 1)]) (by kernel_rfl) rfl)) rfl ?_
  refine wpl_t (t_pur Try.hb17 rfl fun w' h => clock_Both.calls 4 1 5 5 9 5 5 true 0 w' (by decide +kernel)) rfl ?_
  intro b81
  refine wpl_q (q_pure rfl) rfl ?_
  refine wpl_q (q_pure rfl) rfl ?_
  refine wpl_q (q_pure rfl) rfl ?_
  refine wpl_q (q_pure rfl) rfl ?_
  refine wpl_t (t_alloc Try.ti30 _ rfl) rfl ?_
  intro b2
  refine wpl_t0 (t_stA Try.ti30 rfl rfl (by first | rfl | (simp only [v8s_length, v32s_length, vis_length, v64s_length, List.length_replicate]; first | done | assumption | omega)) (by first | exact v32s_one _ | exact v8s_one _ | exact v64s_one _ | (intro u hu; simp at hu; rcases hu with h | h <;> subst h <;> rfl) | (simp [Value.oneCell']; done)) (by first | rfl | (simp only [v8s_length, v32s_length, vis_length, v64s_length, List.length_replicate]; first | done | assumption | omega))) ?_
  intro _
  refine wpl_q (q_pure rfl) rfl ?_
  refine wpl_q (q_pure rfl) rfl ?_
  refine wpl_nil ?_
  refine ex_then ?_
  refine wpc_seq ?_
  -- region 3
  refine wpc_region ?_
  refine wpl_q (q_build (cs := [.int .i64 (1), .int .i64 (4)]) (vs := [(0, .int .i64 (1)), (1, .int .i64 (4))]) rfl (built_struct Try.underlying30 Try.ti30 (pl := [(0, 1), (1, 1)]) (by kernel_rfl) rfl)) rfl ?_
  refine wpl_q (q_build (cs := [.int .i64 (5), .int .i64 (9)]) (vs := [(0, .int .i64 (5)), (1, .int .i64 (9))]) rfl (built_struct Try.underlying30 Try.ti30 (pl := [(0, 1), (1, 1)]) (by kernel_rfl) rfl)) rfl ?_
  refine wpl_t (t_pur Try.hb17 rfl fun w' h => clock_Both.calls 4 1 4 5 9 0 0 false 0 w' (by decide +kernel)) rfl ?_
  intro b88
  refine wpl_q (q_pure rfl) rfl ?_
  refine wpl_q (q_pure rfl) rfl ?_
  refine wpl_q (q_pure rfl) rfl ?_
  refine wpl_q (q_pure rfl) rfl ?_
  refine wpl_t (t_alloc Try.ti30 _ rfl) rfl ?_
  intro b5
  refine wpl_t0 (t_stA Try.ti30 rfl rfl (by first | rfl | (simp only [v8s_length, v32s_length, vis_length, v64s_length, List.length_replicate]; first | done | assumption | omega)) (by first | exact v32s_one _ | exact v8s_one _ | exact v64s_one _ | (intro u hu; simp at hu; rcases hu with h | h <;> subst h <;> rfl) | (simp [Value.oneCell']; done)) (by first | rfl | (simp only [v8s_length, v32s_length, vis_length, v64s_length, List.length_replicate]; first | done | assumption | omega))) ?_
  intro _
  refine wpl_q (q_pure rfl) rfl ?_
  refine wpl_q (q_pure rfl) rfl ?_
  refine wpl_nil ?_
  refine ex_then ?_
  refine wpc_seq ?_
  -- region 4
  refine wpc_region ?_
  refine wpl_q (q_build (cs := [.int .i64 (0), .int .i64 (0)]) (vs := []) rfl (built_struct Try.underlying30 Try.ti30 (pl := [(0, 1), (1, 1)]) (by kernel_rfl) rfl)) rfl ?_
  refine wpl_q (q_build (cs := [.int .i64 (1), .int .i64 (0)]) (vs := [(0, .int .i64 (1))]) rfl (built_struct Try.underlying30 Try.ti30 (pl := [(0, 1), (1, 1)]) (by kernel_rfl) rfl)) rfl ?_
  refine wpl_t (t_pur Try.hb17 rfl fun w' h => clock_Both.calls 4 0 0 1 0 0 0 false 8 w' (by decide +kernel)) rfl ?_
  intro b95
  refine wpl_q (q_pure rfl) rfl ?_
  refine wpl_q (q_pure rfl) rfl ?_
  refine wpl_q (q_pure rfl) rfl ?_
  refine wpl_q (q_pure rfl) rfl ?_
  refine wpl_t (t_alloc Try.ti30 _ rfl) rfl ?_
  intro b8
  refine wpl_t0 (t_stA Try.ti30 rfl rfl (by first | rfl | (simp only [v8s_length, v32s_length, vis_length, v64s_length, List.length_replicate]; first | done | assumption | omega)) (by first | exact v32s_one _ | exact v8s_one _ | exact v64s_one _ | (intro u hu; simp at hu; rcases hu with h | h <;> subst h <;> rfl) | (simp [Value.oneCell']; done)) (by first | rfl | (simp only [v8s_length, v32s_length, vis_length, v64s_length, List.length_replicate]; first | done | assumption | omega))) ?_
  intro _
  refine wpl_q (q_pure rfl) rfl ?_
  refine wpl_q (q_pure rfl) rfl ?_
  refine wpl_nil ?_
  refine ex_then ?_
  refine wpc_seq ?_
  -- region 5
  refine wpc_region ?_
  refine wpl_q (q_pure rfl) rfl ?_
  refine wpl_q (q_pure rfl) rfl ?_
  refine wpl_on rfl rfl ?_
  refine wpl_q (q_pure rfl) rfl ?_
  refine wpl_on rfl rfl ?_
  refine wpl_q (q_pure rfl) rfl ?_
  refine wpl_q (q_pure rfl) rfl ?_
  refine wpl_q (q_pure rfl) rfl ?_
  refine wpl_on rfl rfl ?_
  refine wpl_q (q_ldN Try.underlying30 rfl Try.ti30 rfl (by first | rfl | (simp only [v8s_length, v32s_length, vis_length, v64s_length, List.length_replicate]; first | done | assumption | omega))) rfl ?_
  refine wpl_on rfl rfl ?_
  refine wpl_q (q_build (cs := [.int .i64 (5), .int .i64 (5)]) (vs := [(0, .int .i64 (5)), (1, .int .i64 (5))]) rfl (built_struct Try.underlying30 Try.ti30 (pl := [(0, 1), (1, 1)]) (by kernel_rfl) rfl)) rfl ?_
  refine wpl_on rfl rfl ?_
  refine wpl_q (q_eqA eqc30 (by decide) guard30 rfl rfl (win_ok _ _) (win_ok _ _) true (by simp)) rfl ?_
  refine wpl_q (q_pure rfl) rfl ?_
  refine wpl_q (q_pure rfl) rfl ?_
  refine wpl_on rfl rfl ?_
  refine wpl_q (q_pure rfl) rfl ?_
  refine wpl_on rfl rfl ?_
  refine wpl_q (q_pure rfl) rfl ?_
  refine wpl_q (q_pure rfl) rfl ?_
  refine wpl_q (q_pure rfl) rfl ?_
  refine wpl_on rfl rfl ?_
  refine wpl_q (q_pure rfl) rfl ?_
  refine wpl_on rfl rfl ?_
  refine wpl_q (q_pure rfl) rfl ?_
  refine wpl_q (q_pure rfl) rfl ?_
  refine wpl_q (q_pure rfl) rfl ?_
  refine wpl_on rfl rfl ?_
  refine wpl_q (q_pure rfl) rfl ?_
  refine wpl_on rfl rfl ?_
  refine wpl_q (q_pure rfl) rfl ?_
  refine wpl_q (q_pure rfl) rfl ?_
  refine wpl_q (q_pure rfl) rfl ?_
  refine wpl_nil ?_
  refine ex_then ?_
  refine wpc_seq ?_
  -- region 6
  refine wpc_region ?_
  refine wpl_q (q_build (cs := [.int .i64 (-1048576), .int .i64 (1000)]) (vs := [(0, .int .i64 (-1048576)), (1, .int .i64 (1000))]) rfl (built_struct Try.underlying23 Try.ti23 (pl := [(0, 1), (1, 1)]) (by kernel_rfl) rfl)) rfl ?_
  refine wpl_t (t_alloc Try.ti23 _ rfl) rfl ?_
  intro b12
  refine wpl_t0 (t_stA Try.ti23 rfl rfl (by first | rfl | (simp only [v8s_length, v32s_length, vis_length, v64s_length, List.length_replicate]; first | done | assumption | omega)) (by first | exact v32s_one _ | exact v8s_one _ | exact v64s_one _ | (intro u hu; simp at hu; rcases hu with h | h <;> subst h <;> rfl) | (simp [Value.oneCell']; done)) (by first | rfl | (simp only [v8s_length, v32s_length, vis_length, v64s_length, List.length_replicate]; first | done | assumption | omega))) ?_
  intro _
  refine wpl_nil ?_
  refine ex_then ?_
  refine wpc_seq ?_
  -- region 7
  refine wpc_region ?_
  refine wpl_q (q_ldN Try.underlying23 rfl Try.ti23 rfl (by first | rfl | (simp only [v8s_length, v32s_length, vis_length, v64s_length, List.length_replicate]; first | done | assumption | omega))) rfl ?_
  refine wpl_t (t_pur Try.hb10 rfl fun w' h => PClockNext.clock_Read.calls (-1048576) 1000 (1099511627776) 1100610090827 0 w' (by decide +kernel)) rfl ?_
  intro b124
  refine wpl_q (q_pure rfl) rfl ?_
  refine wpl_q (q_pure rfl) rfl ?_
  refine wpl_q (q_pure rfl) rfl ?_
  refine wpl_q (q_pure rfl) rfl ?_
  refine wpl_q (q_pure rfl) rfl ?_
  refine wpl_nil ?_
  refine ex_then ?_
  refine wpc_seq ?_
  -- region 8
  refine wpc_region ?_
  refine wpl_q (q_ldN Try.underlying23 rfl Try.ti23 rfl (by first | rfl | (simp only [v8s_length, v32s_length, vis_length, v64s_length, List.length_replicate]; first | done | assumption | omega))) rfl ?_
  refine wpl_t (t_pur Try.hb10 rfl fun w' h => PClockNext.clock_Read.calls (-1048576) 1000 (0) (-1048576) 0 w' (by decide +kernel)) rfl ?_
  intro b129
  refine wpl_q (q_pure rfl) rfl ?_
  refine wpl_q (q_pure rfl) rfl ?_
  refine wpl_q (q_pure rfl) rfl ?_
  refine wpl_q (q_pure rfl) rfl ?_
  refine wpl_q (q_pure rfl) rfl ?_
  refine wpl_nil ?_
  refine ex_then ?_
  refine wpc_seq ?_
  -- region 9
  refine wpc_region ?_
  refine wpl_q (q_ldN Try.underlying23 rfl Try.ti23 rfl (by first | rfl | (simp only [v8s_length, v32s_length, vis_length, v64s_length, List.length_replicate]; first | done | assumption | omega))) rfl ?_
  refine wpl_t (t_pur Try.hb10 rfl fun w' h => PClockNext.clock_Read.calls (-1048576) 1000 (1099511627777) 0 2 w' (by decide +kernel)) rfl ?_
  intro b134
  refine wpl_q (q_pure rfl) rfl ?_
  refine wpl_q (q_pure rfl) rfl ?_
  refine wpl_q (q_pure rfl) rfl ?_
  refine wpl_q (q_pure rfl) rfl ?_
  refine wpl_q (q_pure rfl) rfl ?_
  refine wpl_nil ?_
  refine ex_then ?_
  refine wpc_seq ?_
  -- region 10
  refine wpc_region ?_
  refine wpl_q (q_ldN Try.underlying23 rfl Try.ti23 rfl (by first | rfl | (simp only [v8s_length, v32s_length, vis_length, v64s_length, List.length_replicate]; first | done | assumption | omega))) rfl ?_
  refine wpl_t (t_pur Try.hb10 rfl fun w' h => PClockNext.clock_Read.calls (-1048576) 1000 (-1) 0 2 w' (by decide +kernel)) rfl ?_
  intro b139
  refine wpl_q (q_pure rfl) rfl ?_
  refine wpl_q (q_pure rfl) rfl ?_
  refine wpl_q (q_pure rfl) rfl ?_
  refine wpl_q (q_pure rfl) rfl ?_
  refine wpl_q (q_pure rfl) rfl ?_
  refine wpl_nil ?_
  refine ex_then ?_
  refine wpc_seq ?_
  -- region 11
  refine wpc_region ?_
  refine wpl_q (q_build (cs := [.int .i64 (0), .int .i64 (1001)]) (vs := [(1, .int .i64 (1001))]) rfl (built_struct Try.underlying23 Try.ti23 (pl := [(0, 1), (1, 1)]) (by kernel_rfl) rfl)) rfl ?_
  refine wpl_t (t_pur Try.hb10 rfl fun w' h => PClockNext.clock_Read.calls 0 1001 (0) 0 8 w' (by decide +kernel)) rfl ?_
  intro b144
  refine wpl_q (q_pure rfl) rfl ?_
  refine wpl_q (q_pure rfl) rfl ?_
  refine wpl_q (q_pure rfl) rfl ?_
  refine wpl_q (q_pure rfl) rfl ?_
  refine wpl_q (q_pure rfl) rfl ?_
  refine wpl_nil ?_
  refine ex_then ?_
  refine wpc_seq ?_
  -- region 12
  refine wpc_region ?_
  refine wpl_q (q_ldN Try.underlying23 rfl Try.ti23 rfl (by first | rfl | (simp only [v8s_length, v32s_length, vis_length, v64s_length, List.length_replicate]; first | done | assumption | omega))) rfl ?_
  refine wpl_q (q_pure rfl) rfl ?_
  refine wpl_q (qop_eq (q_pure rfl) (v := .int .i64 1100610090828) (congrArg (Value.int .i64) (by decide))) rfl ?_
  refine wpl_t (t_pur Try.hb12 rfl fun w' h => PClockNext.clock_Sure.calls 100 (-1048576) 1000 (1100610090828) 0 0 6 w' (by decide +kernel)) rfl ?_
  intro b151
  refine wpl_q (q_pure rfl) rfl ?_
  refine wpl_q (q_pure rfl) rfl ?_
  refine wpl_q (q_pure rfl) rfl ?_
  refine wpl_t (t_alloc Try.ti30 _ rfl) rfl ?_
  intro b23
  refine wpl_t0 (t_stA Try.ti30 rfl rfl (by first | rfl | (simp only [v8s_length, v32s_length, vis_length, v64s_length, List.length_replicate]; first | done | assumption | omega)) (by first | exact v32s_one _ | exact v8s_one _ | exact v64s_one _ | (intro u hu; simp at hu; rcases hu with h | h <;> subst h <;> rfl) | (simp [Value.oneCell']; done)) (by first | rfl | (simp only [v8s_length, v32s_length, vis_length, v64s_length, List.length_replicate]; first | done | assumption | omega))) ?_
  intro _
  refine wpl_q (q_pure rfl) rfl ?_
  refine wpl_nil ?_
  refine ex_then ?_
  refine wpc_seq ?_
  -- region 13
  refine wpc_region ?_
  refine wpl_q (q_ldN Try.underlying23 rfl Try.ti23 rfl (by first | rfl | (simp only [v8s_length, v32s_length, vis_length, v64s_length, List.length_replicate]; first | done | assumption | omega))) rfl ?_
  refine wpl_q (q_pure rfl) rfl ?_
  refine wpl_t (t_pur Try.hb12 rfl fun w' h => PClockNext.clock_Sure.calls 100 (-1048576) 1000 (1100610090827) 1099511627776 1099511627776 0 w' (by decide +kernel)) rfl ?_
  intro b157
  refine wpl_q (q_pure rfl) rfl ?_
  refine wpl_q (q_pure rfl) rfl ?_
  refine wpl_q (q_pure rfl) rfl ?_
  refine wpl_t (t_alloc Try.ti30 _ rfl) rfl ?_
  intro b25
  refine wpl_t0 (t_stA Try.ti30 rfl rfl (by first | rfl | (simp only [v8s_length, v32s_length, vis_length, v64s_length, List.length_replicate]; first | done | assumption | omega)) (by first | exact v32s_one _ | exact v8s_one _ | exact v64s_one _ | (intro u hu; simp at hu; rcases hu with h | h <;> subst h <;> rfl) | (simp [Value.oneCell']; done)) (by first | rfl | (simp only [v8s_length, v32s_length, vis_length, v64s_length, List.length_replicate]; first | done | assumption | omega))) ?_
  intro _
  refine wpl_q (q_pure rfl) rfl ?_
  refine wpl_nil ?_
  refine ex_then ?_
  refine wpc_seq ?_
  -- region 14
  refine wpc_region ?_
  refine wpl_q (q_build (cs := [.int .i64 (0), .int .i64 (1000)]) (vs := [(1, .int .i64 (1000))]) rfl (built_struct Try.underlying23 Try.ti23 (pl := [(0, 1), (1, 1)]) (by kernel_rfl) rfl)) rfl ?_
  refine wpl_t (t_pur Try.hb12 rfl fun w' h => PClockNext.clock_Sure.calls 100 0 1000 (1000) 0 0 6 w' (by decide +kernel)) rfl ?_
  intro b162
  refine wpl_q (q_pure rfl) rfl ?_
  refine wpl_q (q_pure rfl) rfl ?_
  refine wpl_q (q_pure rfl) rfl ?_
  refine wpl_t (t_alloc Try.ti30 _ rfl) rfl ?_
  intro b27
  refine wpl_t0 (t_stA Try.ti30 rfl rfl (by first | rfl | (simp only [v8s_length, v32s_length, vis_length, v64s_length, List.length_replicate]; first | done | assumption | omega)) (by first | exact v32s_one _ | exact v8s_one _ | exact v64s_one _ | (intro u hu; simp at hu; rcases hu with h | h <;> subst h <;> rfl) | (simp [Value.oneCell']; done)) (by first | rfl | (simp only [v8s_length, v32s_length, vis_length, v64s_length, List.length_replicate]; first | done | assumption | omega))) ?_
  intro _
  refine wpl_q (q_pure rfl) rfl ?_
  refine wpl_nil ?_
  refine ex_then ?_
  refine wpc_seq ?_
  -- region 15
  refine wpc_region ?_
  refine wpl_q (q_build (cs := [.int .i64 (0), .int .i64 (-1000)]) (vs := [(1, .int .i64 (-1000))]) rfl (built_struct Try.underlying23 Try.ti23 (pl := [(0, 1), (1, 1)]) (by kernel_rfl) rfl)) rfl ?_
  refine wpl_t (t_pur Try.hb12 rfl fun w' h => PClockNext.clock_Sure.calls 100 0 (-1000) (-1) 0 0 6 w' (by decide +kernel)) rfl ?_
  intro b167
  refine wpl_q (q_pure rfl) rfl ?_
  refine wpl_q (q_pure rfl) rfl ?_
  refine wpl_q (q_pure rfl) rfl ?_
  refine wpl_t (t_alloc Try.ti30 _ rfl) rfl ?_
  intro b29
  refine wpl_t0 (t_stA Try.ti30 rfl rfl (by first | rfl | (simp only [v8s_length, v32s_length, vis_length, v64s_length, List.length_replicate]; first | done | assumption | omega)) (by first | exact v32s_one _ | exact v8s_one _ | exact v64s_one _ | (intro u hu; simp at hu; rcases hu with h | h <;> subst h <;> rfl) | (simp [Value.oneCell']; done)) (by first | rfl | (simp only [v8s_length, v32s_length, vis_length, v64s_length, List.length_replicate]; first | done | assumption | omega))) ?_
  intro _
  refine wpl_q (q_pure rfl) rfl ?_
  refine wpl_nil ?_
  refine ex_then ?_
  refine wpc_seq ?_
  -- region 16
  refine wpc_region ?_
  refine wpl_q (q_build (cs := [.int .i64 (0), .int .i64 (0)]) (vs := []) rfl (built_struct Try.underlying23 Try.ti23 (pl := [(0, 1), (1, 1)]) (by kernel_rfl) rfl)) rfl ?_
  refine wpl_t (t_pur Try.hb12 rfl fun w' h => PClockNext.clock_Sure.calls 100 0 0 (-9223372036854775808) 0 0 6 w' (by decide +kernel)) rfl ?_
  intro b172
  refine wpl_q (q_pure rfl) rfl ?_
  refine wpl_q (q_pure rfl) rfl ?_
  refine wpl_q (q_pure rfl) rfl ?_
  refine wpl_t (t_alloc Try.ti30 _ rfl) rfl ?_
  intro b31
  refine wpl_t0 (t_stA Try.ti30 rfl rfl (by first | rfl | (simp only [v8s_length, v32s_length, vis_length, v64s_length, List.length_replicate]; first | done | assumption | omega)) (by first | exact v32s_one _ | exact v8s_one _ | exact v64s_one _ | (intro u hu; simp at hu; rcases hu with h | h <;> subst h <;> rfl) | (simp [Value.oneCell']; done)) (by first | rfl | (simp only [v8s_length, v32s_length, vis_length, v64s_length, List.length_replicate]; first | done | assumption | omega))) ?_
  intro _
  refine wpl_q (q_pure rfl) rfl ?_
  refine wpl_nil ?_
  refine ex_then ?_
  refine wpc_seq ?_
  -- region 17
  refine wpc_region ?_
  refine wpl_q (q_build (cs := [.int .i64 (0), .int .i64 (0)]) (vs := []) rfl (built_struct Try.underlying23 Try.ti23 (pl := [(0, 1), (1, 1)]) (by kernel_rfl) rfl)) rfl ?_
  refine wpl_t (t_pur Try.hb12 rfl fun w' h => PClockNext.clock_Sure.calls 100 0 0 (7) 7 7 0 w' (by decide +kernel)) rfl ?_
  intro b177
  refine wpl_q (q_pure rfl) rfl ?_
  refine wpl_q (q_pure rfl) rfl ?_
  refine wpl_q (q_pure rfl) rfl ?_
  refine wpl_t (t_alloc Try.ti30 _ rfl) rfl ?_
  intro b33
  refine wpl_t0 (t_stA Try.ti30 rfl rfl (by first | rfl | (simp only [v8s_length, v32s_length, vis_length, v64s_length, List.length_replicate]; first | done | assumption | omega)) (by first | exact v32s_one _ | exact v8s_one _ | exact v64s_one _ | (intro u hu; simp at hu; rcases hu with h | h <;> subst h <;> rfl) | (simp [Value.oneCell']; done)) (by first | rfl | (simp only [v8s_length, v32s_length, vis_length, v64s_length, List.length_replicate]; first | done | assumption | omega))) ?_
  intro _
  refine wpl_q (q_pure rfl) rfl ?_
  refine wpl_nil ?_
  refine ex_then ?_
  refine wpc_seq ?_
  -- region 18
  refine wpc_region ?_
  refine wpl_q (q_pure rfl) rfl ?_
  refine wpl_q (q_pure rfl) rfl ?_
  refine wpl_q (q_pure rfl) rfl ?_
  refine wpl_on rfl rfl ?_
  refine wpl_q (q_pure rfl) rfl ?_
  refine wpl_on rfl rfl ?_
  refine wpl_q (q_pure rfl) rfl ?_
  refine wpl_q (q_pure rfl) rfl ?_
  refine wpl_q (q_pure rfl) rfl ?_
  refine wpl_on rfl rfl ?_
  refine wpl_q (q_pure rfl) rfl ?_
  refine wpl_on rfl rfl ?_
  refine wpl_q (q_pure rfl) rfl ?_
  refine wpl_q (q_pure rfl) rfl ?_
  refine wpl_q (q_pure rfl) rfl ?_
  refine wpl_on rfl rfl ?_
  refine wpl_q (q_pure rfl) rfl ?_
  refine wpl_on rfl rfl ?_
  refine wpl_q (q_pure rfl) rfl ?_
  refine wpl_q (q_pure rfl) rfl ?_
  refine wpl_q (q_pure rfl) rfl ?_
  refine wpl_on rfl rfl ?_
  refine wpl_q (q_pure rfl) rfl ?_
  refine wpl_on rfl rfl ?_
  refine wpl_q (q_pure rfl) rfl ?_
  refine wpl_q (q_pure rfl) rfl ?_
  refine wpl_q (q_pure rfl) rfl ?_
  refine wpl_on rfl rfl ?_
  refine wpl_q (q_pure rfl) rfl ?_
  refine wpl_on rfl rfl ?_
  refine wpl_q (q_pure rfl) rfl ?_
  refine wpl_q (q_pure rfl) rfl ?_
  refine wpl_q (q_pure rfl) rfl ?_
  refine wpl_on rfl rfl ?_
  refine wpl_q (q_pure rfl) rfl ?_
  refine wpl_on rfl rfl ?_
  refine wpl_q (q_pure rfl) rfl ?_
  refine wpl_q (q_pure rfl) rfl ?_
  refine wpl_q (q_pure rfl) rfl ?_
  refine wpl_on rfl rfl ?_
  refine wpl_q (q_pure rfl) rfl ?_
  refine wpl_on rfl rfl ?_
  refine wpl_q (q_pure rfl) rfl ?_
  refine wpl_q (q_pure rfl) rfl ?_
  refine wpl_q (q_pure rfl) rfl ?_
  refine wpl_on rfl rfl ?_
  refine wpl_q (q_pure rfl) rfl ?_
  refine wpl_on rfl rfl ?_
  refine wpl_q (q_pure rfl) rfl ?_
  refine wpl_q (q_pure rfl) rfl ?_
  refine wpl_q (q_pure rfl) rfl ?_
  refine wpl_on rfl rfl ?_
  refine wpl_q (q_ldN Try.underlying30 rfl Try.ti30 rfl (by first | rfl | (simp only [v8s_length, v32s_length, vis_length, v64s_length, List.length_replicate]; first | done | assumption | omega))) rfl ?_
  refine wpl_on rfl rfl ?_
  refine wpl_q (q_build (cs := [.int .i64 (1099511627776), .int .i64 (1099511627776)]) (vs := [(0, .int .i64 (1099511627776)), (1, .int .i64 (1099511627776))]) rfl (built_struct Try.underlying30 Try.ti30 (pl := [(0, 1), (1, 1)]) (by kernel_rfl) rfl)) rfl ?_
  refine wpl_on rfl rfl ?_
  refine wpl_q (q_eqA eqc30 (by decide) guard30 rfl rfl (win_ok _ _) (win_ok _ _) true (by simp)) rfl ?_
  refine wpl_q (q_pure rfl) rfl ?_
  refine wpl_q (q_pure rfl) rfl ?_
  refine wpl_on rfl rfl ?_
  refine wpl_q (q_pure rfl) rfl ?_
  refine wpl_on rfl rfl ?_
  refine wpl_q (q_pure rfl) rfl ?_
  refine wpl_q (q_pure rfl) rfl ?_
  refine wpl_q (q_pure rfl) rfl ?_
  refine wpl_on rfl rfl ?_
  refine wpl_q (q_pure rfl) rfl ?_
  refine wpl_on rfl rfl ?_
  refine wpl_q (q_pure rfl) rfl ?_
  refine wpl_q (q_pure rfl) rfl ?_
  refine wpl_q (q_pure rfl) rfl ?_
  refine wpl_on rfl rfl ?_
  refine wpl_q (q_pure rfl) rfl ?_
  refine wpl_on rfl rfl ?_
  refine wpl_q (q_pure rfl) rfl ?_
  refine wpl_q (q_pure rfl) rfl ?_
  refine wpl_q (q_pure rfl) rfl ?_
  refine wpl_on rfl rfl ?_
  refine wpl_q (q_ldN Try.underlying30 rfl Try.ti30 rfl (by first | rfl | (simp only [v8s_length, v32s_length, vis_length, v64s_length, List.length_replicate]; first | done | assumption | omega))) rfl ?_
  refine wpl_on rfl rfl ?_
  refine wpl_q (q_build (cs := [.int .i64 (7), .int .i64 (7)]) (vs := [(0, .int .i64 (7)), (1, .int .i64 (7))]) rfl (built_struct Try.underlying30 Try.ti30 (pl := [(0, 1), (1, 1)]) (by kernel_rfl) rfl)) rfl ?_
  refine wpl_on rfl rfl ?_
  refine wpl_q (q_eqA eqc30 (by decide) guard30 rfl rfl (win_ok _ _) (win_ok _ _) true (by simp)) rfl ?_
  refine wpl_q (q_pure rfl) rfl ?_
  refine wpl_q (q_pure rfl) rfl ?_
  refine wpl_on rfl rfl ?_
  refine wpl_q (q_pure rfl) rfl ?_
  refine wpl_on rfl rfl ?_
  refine wpl_q (q_pure rfl) rfl ?_
  refine wpl_q (q_pure rfl) rfl ?_
  refine wpl_q (q_pure rfl) rfl ?_
  refine wpl_on rfl rfl ?_
  refine wpl_q (q_ldN Try.underlying30 rfl Try.ti30 rfl (by first | rfl | (simp only [v8s_length, v32s_length, vis_length, v64s_length, List.length_replicate]; first | done | assumption | omega))) rfl ?_
  refine wpl_on rfl rfl ?_
  refine wpl_q (q_build (cs := [.int .i64 (0), .int .i64 (0)]) (vs := []) rfl (built_struct Try.underlying30 Try.ti30 (pl := [(0, 1), (1, 1)]) (by kernel_rfl) rfl)) rfl ?_
  refine wpl_on rfl rfl ?_
  refine wpl_q (q_eqA eqc30 (by decide) guard30 rfl rfl (win_ok _ _) (win_ok _ _) true (by simp)) rfl ?_
  refine wpl_q (q_pure rfl) rfl ?_
  refine wpl_q (q_pure rfl) rfl ?_
  refine wpl_nil ?_
  refine ex_then ?_
  refine wpc_seq ?_
  -- region 19
  refine wpc_region ?_
  refine wpl_q (q_pure rfl) rfl ?_
  refine wpl_nil ?_
  refine ex_then ?_
  refine wpc_seq ?_
  refine wpc_seq ?_
  -- region 20
  refine wpc_region ?_
  refine wpl_q (q_pure rfl) rfl ?_
  refine wpl_nil ?_
  refine ex_then ?_
  refine wpc_block ?_
  refine wpc_loop (ι := { i : Nat // i ≤ 1001 } × Value) (fun x => [(37, .int .i64 (x.1.1 : Nat)), (36, x.2), (1, .bool true), (11, .bool true), (35, .bool true)]) (fun x => Mem w [] [.row x.2 x.1.1 2 1 (vis (many x.1.1))] []) (fun x => 1001 - x.1.1) ⟨⟨0, by omega⟩, .slice none 0 0⟩ ?_ ?_ ?_
  · exact by repeat (first | exact trivial | refine ⟨rfl, ?_⟩)
  · exact fun w h => (h.nilRow 2 1).sub (.keep .nil) .nil
  · rintro ⟨⟨i, hi⟩, v⟩; dsimp only
    refine wpc_seq ?_
    refine wpc_seq ?_
    -- region 21
    refine wpc_region ?_
    refine wpl_q (q_pure rfl) rfl ?_
    refine wpl_q (q_pure rfl) rfl ?_
    refine wpl_nil ?_
    refine ex_then ?_
    refine wpc_cond rfl (fun hc246 => ?_) (fun hc246 => ?_)
    ·
      simp only [decide_eq_true_eq, decide_eq_false_iff_not, Bool.and_eq_true, Bool.or_eq_true, beq_iff_eq, bne_iff_ne, ne_eq] at hc246
      refine wpc_skip ?_
      refine ex_then ?_
      refine wpc_seq ?_
      refine wpc_block ?_
      -- region 23
      refine wpc_region ?_
      refine wpl_q (q_pure rfl) rfl ?_
      refine wpl_q (q_pure rfl) rfl ?_
      refine wpl_t (t_buildSlice [.int .i64 (i : Int)] Try.underlying39 Try.ti2 rfl (by decide) (by decide) rfl rfl rfl) rfl ?_
      intro b251
      refine wpl_t (t_append Try.underlying39 Try.ti2 rfl (by decide) rfl rfl (fun w h => h.seenV) (by first | exact v32s_one _ | exact v8s_one _ | exact v64s_one _ | (intro u hu; simp at hu; rcases hu with h | h <;> subst h <;> rfl) | (simp [Value.oneCell']; done)) (by simp only [maxLen]; omega) (by omega)) rfl ?_
      intro b252
      refine wpl_q (q_pure rfl) rfl ?_
      refine wpl_nil ?_
      refine ex_block ?_
      refine ex_then ?_
      -- region 22
      refine wpc_region ?_
      refine wpl_q (q_pure rfl) rfl ?_
      first | refine wpl_q (qop_eq (q_pure rfl) (congrArg (Value.int .i64) (wk_i64 (by omega) (by omega)))) rfl ?_ | refine wpl_q (q_pure rfl) rfl ?_
      refine wpl_q (q_pure rfl) rfl ?_
      refine wpl_nil ?_
      refine ex_again ⟨⟨i + 1, by omega⟩, b252⟩ ?_ ?_ ?_
      · exact (by repeat (first | exact trivial | refine ⟨rfl, ?_⟩))
      · exact fun w h => by
          have h2 := h.sub (.drop (Sub.refl _)) (Sub.refl _)
          rw [show vis (many i) ++ [Value.int .i64 (i : Int)] = vis (many (i + 1)) by rw [many_succ]; simp [vis]] at h2
          exact h2
      · show 1001 - (i + 1) < 1001 - i; omega
    ·
      simp only [decide_eq_true_eq, decide_eq_false_iff_not, Bool.and_eq_true, Bool.or_eq_true, beq_iff_eq, bne_iff_ne, ne_eq] at hc246
      refine wpc_exit ?_
      refine ex_then_exit ?_
      refine ex_then_exit ?_
      refine ex_block_hit ?_
      refine ex_then ?_
      refine wpc_seq ?_
      -- region 24
      obtain rfl : i = 1001 := by omega
      refine wpc_fact (fun w h => h.formV (v := v)) (fun hv => ?_)
      rcases hv with ⟨_, h0, _⟩ | ⟨g, cp, rfl, hc1, hc2⟩
      · cases h0
      refine wpc_region ?_
      refine wpl_q (q_pure rfl) rfl ?_
      refine wpl_t (t_pur Try.hb19 rfl fun w' h => next_pur (many 1001) 1001 (many_length _) _ _ 0 0 4 w' h.seenV n1) rfl ?_
      intro b255
      refine wpl_q (q_pure rfl) rfl ?_
      refine wpl_q (q_pure rfl) rfl ?_
      refine wpl_q (q_pure rfl) rfl ?_
      refine wpl_q (q_pure rfl) rfl ?_
      refine wpl_q (q_pure rfl) rfl ?_
      refine wpl_nil ?_
      refine ex_then ?_
      refine wpc_seq ?_
      -- region 25
      refine wpc_region ?_
      refine wpl_q (q_pure rfl) rfl ?_
      refine wpl_q (q_sl_h Try.underlying39 Try.ti2 rfl rfl (by decide) (by omega) 1000 rfl) rfl ?_
      refine wpl_t (t_pur Try.hb19 rfl fun w' h => next_pur (many 1000) (1000 - 0) (many_length _) _ _ 998 999 0 w' (by have h2 := (h.seenV (v := .slice (some ⟨g, 0, none⟩) 1001 cp)).slice 0 1000 (by decide) (by decide); rw [show (1000 - 0) * 1 = 1000 from rfl, Nat.zero_mul, List.drop_zero, vis_take, many_take _ _ (by decide)] at h2; exact h2) n2) rfl ?_
      intro b261
      refine wpl_q (q_pure rfl) rfl ?_
      refine wpl_q (q_pure rfl) rfl ?_
      refine wpl_q (q_pure rfl) rfl ?_
      refine wpl_q (q_pure rfl) rfl ?_
      refine wpl_q (q_pure rfl) rfl ?_
      refine wpl_nil ?_
      refine ex_then ?_
      refine wpc_seq ?_
      -- region 26
      refine wpc_region ?_
      refine wpl_q (q_pure rfl) rfl ?_
      refine wpl_q (q_sl_h Try.underlying39 Try.ti2 rfl rfl (by decide) (by omega) 1000 rfl) rfl ?_
      refine wpl_t (t_pur Try.hb19 rfl fun w' h => next_pur (many 1000) (1000 - 0) (many_length _) _ _ 999 0 6 w' (by have h2 := (h.seenV (v := .slice (some ⟨g, 0, none⟩) 1001 cp)).slice 0 1000 (by decide) (by decide); rw [show (1000 - 0) * 1 = 1000 from rfl, Nat.zero_mul, List.drop_zero, vis_take, many_take _ _ (by decide)] at h2; exact h2) n3) rfl ?_
      intro b267
      refine wpl_q (q_pure rfl) rfl ?_
      refine wpl_q (q_pure rfl) rfl ?_
      refine wpl_q (q_pure rfl) rfl ?_
      refine wpl_q (q_pure rfl) rfl ?_
      refine wpl_q (q_pure rfl) rfl ?_
      refine wpl_nil ?_
      refine ex_then ?_
      refine wpc_seq ?_
      -- region 27
      refine wpc_region ?_
      refine wpl_t (t_buildSlice (vis [9, -5, 7, 8]) Try.underlying39 Try.ti2 rfl (by decide) (by decide) rfl rfl rfl) rfl ?_
      intro b271
      refine wpl_t (t_pur Try.hb19 rfl fun w' h => next_pur [9, -5, 7, 8] 4 rfl _ _ (-6) (-5) 0 w' h.seenV (by decide +kernel)) rfl ?_
      intro b272
      refine wpl_q (q_pure rfl) rfl ?_
      refine wpl_q (q_pure rfl) rfl ?_
      refine wpl_q (q_pure rfl) rfl ?_
      refine wpl_q (q_pure rfl) rfl ?_
      refine wpl_q (q_pure rfl) rfl ?_
      refine wpl_nil ?_
      refine ex_then ?_
      refine wpc_seq ?_
      -- region 28
      refine wpc_region ?_
      refine wpl_q (q_pure rfl) rfl ?_
      refine wpl_on rfl rfl ?_
      refine wpl_t (t_pur Try.hb16 rfl fun w' h => alive_calls w') rfl ?_
      intro b276
      refine wpl_q (q_pure rfl) rfl ?_
      refine wpl_q (q_pure rfl) rfl ?_
      refine wpl_on rfl rfl ?_
      refine wpl_q (q_pure rfl) rfl ?_
      refine wpl_q (q_pure rfl) rfl ?_
      refine wpl_q (q_pure rfl) rfl ?_
      refine wpl_on rfl rfl ?_
      refine wpl_q (q_pure rfl) rfl ?_
      refine wpl_q (q_pure rfl) rfl ?_
      refine wpl_q (q_pure rfl) rfl ?_
      refine wpl_on rfl rfl ?_
      refine wpl_q (q_pure rfl) rfl ?_
      refine wpl_q (q_pure rfl) rfl ?_
      refine wpl_q (q_pure rfl) rfl ?_
      refine wpl_on rfl rfl ?_
      refine wpl_q (q_pure rfl) rfl ?_
      refine wpl_on rfl rfl ?_
      refine wpl_q (q_pure rfl) rfl ?_
      refine wpl_q (q_pure rfl) rfl ?_
      refine wpl_q (q_pure rfl) rfl ?_
      refine wpl_on rfl rfl ?_
      refine wpl_q (q_pure rfl) rfl ?_
      refine wpl_on rfl rfl ?_
      refine wpl_q (q_pure rfl) rfl ?_
      refine wpl_q (q_pure rfl) rfl ?_
      refine wpl_q (q_pure rfl) rfl ?_
      refine wpl_on rfl rfl ?_
      refine wpl_q (q_pure rfl) rfl ?_
      refine wpl_on rfl rfl ?_
      refine wpl_q (q_pure rfl) rfl ?_
      refine wpl_q (q_pure rfl) rfl ?_
      refine wpl_q (q_pure rfl) rfl ?_
      refine wpl_on rfl rfl ?_
      refine wpl_q (q_pure rfl) rfl ?_
      refine wpl_on rfl rfl ?_
      refine wpl_q (q_pure rfl) rfl ?_
      refine wpl_q (q_pure rfl) rfl ?_
      refine wpl_q (q_pure rfl) rfl ?_
      refine wpl_on rfl rfl ?_
      refine wpl_q (q_pure rfl) rfl ?_
      refine wpl_on rfl rfl ?_
      refine wpl_q (q_pure rfl) rfl ?_
      refine wpl_q (q_pure rfl) rfl ?_
      refine wpl_q (q_pure rfl) rfl ?_
      refine wpl_on rfl rfl ?_
      refine wpl_q (q_pure rfl) rfl ?_
      refine wpl_on rfl rfl ?_
      refine wpl_q (q_pure rfl) rfl ?_
      refine wpl_q (q_pure rfl) rfl ?_
      refine wpl_q (q_pure rfl) rfl ?_
      refine wpl_nil ?_
      refine ex_then ?_
      refine wpc_ret ?_
      refine ret1 (.inl rfl) rfl rfl ?_
      exact fun w h => ⟨rfl, h.below⟩

theorem walkLaw (w : World) : Calls Try.prog 9 #[] w fun e w' => e = .returned (.bool true) ∧ RowKit.Below w.heap.size w w' := names w
end Go.Proofs.Ytoefmoniafhgfaa.LN