/- The law ClockWindows: its walk. -/
import Derived.Test.YtoefmoniafhgfaaK0
import Derived.Test.YtoefmoniafhgfaaK1
namespace Go.Proofs.Ytoefmoniafhgfaa.LW
set_option linter.unusedSimpArgs false
set_option linter.unusedVariables false
open Go Go.PL Go.RowKit Go.Proofs.Ytoefmoniafhgfaa Go.Proofs.Ytoefmoniafhgfaa.PClockWindows Go.Proofs.YtoefmoniafhgfaaW.PrintWords Go.Proofs.YtoefmoniafhgfaaW.PrintMore Go.Proofs.YtoefmoniafhgfaaW.PrintLast

set_option maxRecDepth 100000 in
theorem windows (a b c d tm : Int) (A0 : Option Addr) (cap : Nat) (l : List Int) (w : World) (hk : ∀ w', Below w.heap.size w w' → Kd.C (Kd.int .i64) w' A0 l.length l) (hc : l.length ≤ cap) :
    Calls Try.prog 5 [.agg #[.int .i64 a, .int .i64 b], .agg #[.int .i64 c, .int .i64 d], .int .i64 tm, .slice A0 l.length cap].toArray w (Pur w (.bool true)) := by
  have hNP : NoP (bodyPost Try.prog Try.f5 (Pur w (.bool true))) := nop_pur
  refine enter (n := 87) (R := Mem w [] [] []) Try.func5 rfl rfl (Nat.le_of_ble_eq_true rfl) (Mem.start w) ?_
  refine wpc_seq ?_
  -- region 0
  refine wpc_region ?_
  refine wpl_t (t_box rfl _ rfl) rfl ?_
  intro b4
  refine wpl_t (t_box rfl _ rfl) rfl ?_
  intro b5
  refine wpl_q (q_pure rfl) rfl ?_
  refine wpl_nil ?_
  refine ex_then ?_
  refine wpc_seq ?_
  refine wpc_seq ?_
  -- region 1
  refine wpc_region ?_
  refine wpl_q (q_pure rfl) rfl ?_
  refine wpl_q (q_len Try.underlying39 rfl) rfl ?_
  refine wpl_q (q_pure rfl) rfl ?_
  refine wpl_nil ?_
  refine ex_then ?_
  refine wpc_cond rfl (fun hc21 => ?_) (fun hc21 => ?_)
  ·
    simp only [decide_eq_true_eq, decide_eq_false_iff_not, Bool.and_eq_true, Bool.or_eq_true, beq_iff_eq, bne_iff_ne, ne_eq] at hc21
    refine wpc_seq ?_
    -- region 2
    refine wpc_region ?_
    refine wpl_q (q_pure rfl) rfl ?_
    refine wpl_nil ?_
    refine ex_then ?_
    refine wpc_ret ?_
    refine ex_then_ret ?_
    refine ret1 (.inl rfl) rfl rfl ?_
    exact fun w h => ⟨rfl, h.below⟩
  ·
    simp only [decide_eq_true_eq, decide_eq_false_iff_not] at hc21
    obtain ⟨n1, n2, hn1, hn2⟩ := WN.next_same l tm (by omega)
    obtain ⟨⟨p1, p2, p3, p4⟩, hp⟩ : ∃ p, p = bothW a b c d := ⟨_, rfl⟩
    have hb1 := both_w a b c d
    have hb2 := rboth_w a b c d
    rw [← hp] at hb1 hb2
    refine wpc_skip ?_
    refine ex_then ?_
    refine wpc_seq ?_
    -- region 3
    refine wpc_region ?_
    refine wpl_q (q_loadN Try.underlying30 rfl Try.ti30 rfl (fun w h => h.cells_blk (by repeat (first | exact List.mem_cons_self .. | apply List.mem_cons_of_mem))) (by first | rfl | (simp only [v8s_length, v32s_length, vis_length, v64s_length, List.length_replicate]; first | done | assumption | omega))) rfl ?_
    refine wpl_q (q_loadN Try.underlying30 rfl Try.ti30 rfl (fun w h => h.cells_blk (by repeat (first | exact List.mem_cons_self .. | apply List.mem_cons_of_mem))) (by first | rfl | (simp only [v8s_length, v32s_length, vis_length, v64s_length, List.length_replicate]; first | done | assumption | omega))) rfl ?_
    refine wpl_t (t_pur Try.hb17 rfl fun w' h => clock_Both.calls 4 a b c d p1 p2 p3 p4 w' hb1) rfl ?_
    intro b25
    refine wpl_q (q_pure rfl) rfl ?_
    refine wpl_q (q_pure rfl) rfl ?_
    refine wpl_q (q_pure rfl) rfl ?_
    refine wpl_q (q_pure rfl) rfl ?_
    refine wpl_t (t_alloc Try.ti30 _ rfl) rfl ?_
    intro b9
    refine wpl_t0 (t_storeA Try.ti30 rfl rfl (by first | exact .here | exact .there .here | exact .there (.there .here) | exact .there (.there (.there .here)) | exact .there (.there (.there (.there .here))) | exact .there (.there (.there (.there (.there .here))))) (by first | rfl | (simp only [v8s_length, v32s_length, vis_length, v64s_length, List.length_replicate]; first | done | assumption | omega)) (by first | exact v32s_one _ | exact v8s_one _ | exact v64s_one _ | (intro u hu; simp at hu; rcases hu with h | h <;> subst h <;> rfl) | (simp [Value.oneCell']; done)) (by first | rfl | (simp only [v8s_length, v32s_length, vis_length, v64s_length, List.length_replicate]; first | done | assumption | omega))) ?_
    intro _
    refine wpl_q (q_pure rfl) rfl ?_
    refine wpl_q (q_pure rfl) rfl ?_
    refine wpl_nil ?_
    refine ex_then ?_
    refine wpc_seq ?_
    -- region 4
    refine wpc_region ?_
    refine wpl_q (q_loadN Try.underlying30 rfl Try.ti30 rfl (fun w h => h.cells_blk (by repeat (first | exact List.mem_cons_self .. | apply List.mem_cons_of_mem))) (by first | rfl | (simp only [v8s_length, v32s_length, vis_length, v64s_length, List.length_replicate]; first | done | assumption | omega))) rfl ?_
    refine wpl_q (q_loadN Try.underlying30 rfl Try.ti30 rfl (fun w h => h.cells_blk (by repeat (first | exact List.mem_cons_self .. | apply List.mem_cons_of_mem))) (by first | rfl | (simp only [v8s_length, v32s_length, vis_length, v64s_length, List.length_replicate]; first | done | assumption | omega))) rfl ?_
    refine wpl_t (t_pur Try.hb18 rfl fun w' h => gatepathref04_Both.calls 4 a b c d p1 p2 p3 p4 w' hb2) rfl ?_
    intro b32
    refine wpl_q (q_pure rfl) rfl ?_
    refine wpl_q (q_pure rfl) rfl ?_
    refine wpl_q (q_pure rfl) rfl ?_
    refine wpl_q (q_pure rfl) rfl ?_
    refine wpl_t (t_alloc Try.ti30 _ rfl) rfl ?_
    intro b12
    refine wpl_t0 (t_storeA Try.ti30 rfl rfl (by first | exact .here | exact .there .here | exact .there (.there .here) | exact .there (.there (.there .here)) | exact .there (.there (.there (.there .here))) | exact .there (.there (.there (.there (.there .here))))) (by first | rfl | (simp only [v8s_length, v32s_length, vis_length, v64s_length, List.length_replicate]; first | done | assumption | omega)) (by first | exact v32s_one _ | exact v8s_one _ | exact v64s_one _ | (intro u hu; simp at hu; rcases hu with h | h <;> subst h <;> rfl) | (simp [Value.oneCell']; done)) (by first | rfl | (simp only [v8s_length, v32s_length, vis_length, v64s_length, List.length_replicate]; first | done | assumption | omega))) ?_
    intro _
    refine wpl_q (q_pure rfl) rfl ?_
    refine wpl_q (q_pure rfl) rfl ?_
    refine wpl_nil ?_
    refine ex_then ?_
    refine wpc_seq ?_
    -- region 5
    refine wpc_region ?_
    refine wpl_q (q_pure rfl) rfl ?_
    refine wpl_q (q_pure rfl) rfl ?_
    refine wpl_t (t_pur Try.hb19 rfl fun w' h => ((clock_Next.calls 1300 A0 cap l tm n1 n2 w' (hk w' h.below) hc hn1).mono fun e w2 h2 => ⟨h2.1, h2.2.below⟩)) rfl ?_
    intro b39
    refine wpl_q (q_pure rfl) rfl ?_
    refine wpl_q (q_pure rfl) rfl ?_
    refine wpl_q (q_pure rfl) rfl ?_
    refine wpl_q (q_pure rfl) rfl ?_
    refine wpl_q (q_pure rfl) rfl ?_
    refine wpl_nil ?_
    refine ex_then ?_
    refine wpc_seq ?_
    -- region 6
    refine wpc_region ?_
    refine wpl_q (q_pure rfl) rfl ?_
    refine wpl_q (q_pure rfl) rfl ?_
    refine wpl_t (t_pur Try.hb20 rfl fun w' h => ((gatepathref04_Next.calls 1300 A0 cap l tm n1 n2 w' (hk w' h.below) hc hn2).mono fun e w2 h2 => ⟨h2.1, h2.2.below⟩)) rfl ?_
    intro b45
    refine wpl_q (q_pure rfl) rfl ?_
    refine wpl_q (q_pure rfl) rfl ?_
    refine wpl_q (q_pure rfl) rfl ?_
    refine wpl_q (q_pure rfl) rfl ?_
    refine wpl_q (q_pure rfl) rfl ?_
    refine wpl_nil ?_
    refine ex_then ?_
    refine wpc_seq ?_
    -- region 7
    refine wpc_draw 40 (by kernel_rfl) (fun _ h => h.drew) ?_
    refine wpd_q 0 rfl (by kernel_rfl) trivial (q_loadN Try.underlying30 rfl Try.ti30 rfl (fun w h => h.cells_blk (by repeat (first | exact List.mem_cons_self .. | apply List.mem_cons_of_mem))) (by first | rfl | (simp only [v8s_length, v32s_length, vis_length, v64s_length, List.length_replicate]; first | done | assumption | omega))) rfl (by repeat (first | exact hNP | apply nop_then | apply nop_block)) (fun w h => by first | exact h | exact h.sub (by first | exact Sub.refl _ | exact .drop (Sub.refl _) | exact .drop (.drop (Sub.refl _)) | exact .drop (.drop (.drop (Sub.refl _)))) (by first | exact Sub.refl _ | exact .drop (Sub.refl _) | exact .drop (.drop (Sub.refl _)) | exact .drop (.drop (.drop (Sub.refl _))))) ?_
    refine wpd_q 1 rfl (by kernel_rfl) trivial (q_loadN Try.underlying30 rfl Try.ti30 rfl (fun w h => h.cells_blk (by repeat (first | exact List.mem_cons_self .. | apply List.mem_cons_of_mem))) (by first | rfl | (simp only [v8s_length, v32s_length, vis_length, v64s_length, List.length_replicate]; first | done | assumption | omega))) rfl (by repeat (first | exact hNP | apply nop_then | apply nop_block)) (fun w h => by first | exact h | exact h.sub (by first | exact Sub.refl _ | exact .drop (Sub.refl _) | exact .drop (.drop (Sub.refl _)) | exact .drop (.drop (.drop (Sub.refl _)))) (by first | exact Sub.refl _ | exact .drop (Sub.refl _) | exact .drop (.drop (Sub.refl _)) | exact .drop (.drop (.drop (Sub.refl _))))) ?_
    refine wpd_p 2 rfl (by kernel_rfl) trivial (q_eqA eqc30 (by decide) guard30 rfl rfl (win_ok _ _) (win_ok _ _) true (by simp)) rfl (by repeat (first | exact hNP | apply nop_then | apply nop_block)) (fun w h => by first | exact .inr h | exact .inr (h.sub (by first | exact Sub.refl _ | exact .drop (Sub.refl _) | exact .drop (.drop (Sub.refl _)) | exact .drop (.drop (.drop (Sub.refl _)))) (by first | exact Sub.refl _ | exact .drop (Sub.refl _) | exact .drop (.drop (Sub.refl _)) | exact .drop (.drop (.drop (Sub.refl _))))) | exact .inl rfl) ?_
    refine wpd_p 3 rfl (by kernel_rfl) trivial (q_pure rfl) rfl (by repeat (first | exact hNP | apply nop_then | apply nop_block)) (fun w h => by first | exact .inr h | exact .inr (h.sub (by first | exact Sub.refl _ | exact .drop (Sub.refl _) | exact .drop (.drop (Sub.refl _)) | exact .drop (.drop (.drop (Sub.refl _)))) (by first | exact Sub.refl _ | exact .drop (Sub.refl _) | exact .drop (.drop (Sub.refl _)) | exact .drop (.drop (.drop (Sub.refl _))))) | exact .inl rfl) ?_
    refine wpd_p 4 rfl (by kernel_rfl) ⟨_, rfl, rfl⟩ (q_pure rfl) rfl (by repeat (first | exact hNP | apply nop_then | apply nop_block)) (fun w h => by first | exact .inr h | exact .inr (h.sub (by first | exact Sub.refl _ | exact .drop (Sub.refl _) | exact .drop (.drop (Sub.refl _)) | exact .drop (.drop (.drop (Sub.refl _)))) (by first | exact Sub.refl _ | exact .drop (Sub.refl _) | exact .drop (.drop (Sub.refl _)) | exact .drop (.drop (.drop (Sub.refl _))))) | exact .inl rfl) ?_
    refine wpd_p 5 rfl (by kernel_rfl) ⟨_, rfl, rfl⟩ (q_pure rfl) rfl (by repeat (first | exact hNP | apply nop_then | apply nop_block)) (fun w h => by first | exact .inr h | exact .inr (h.sub (by first | exact Sub.refl _ | exact .drop (Sub.refl _) | exact .drop (.drop (Sub.refl _)) | exact .drop (.drop (.drop (Sub.refl _)))) (by first | exact Sub.refl _ | exact .drop (Sub.refl _) | exact .drop (.drop (Sub.refl _)) | exact .drop (.drop (.drop (Sub.refl _))))) | exact .inl rfl) ?_
    refine wpd_p 6 rfl (by kernel_rfl) ⟨_, rfl, rfl⟩ (qop_eq (q_beq Try.underlying4 rfl rfl) (v := .bool true) (by simp)) rfl (by repeat (first | exact hNP | apply nop_then | apply nop_block)) (fun w h => by first | exact .inr h | exact .inr (h.sub (by first | exact Sub.refl _ | exact .drop (Sub.refl _) | exact .drop (.drop (Sub.refl _)) | exact .drop (.drop (.drop (Sub.refl _)))) (by first | exact Sub.refl _ | exact .drop (Sub.refl _) | exact .drop (.drop (Sub.refl _)) | exact .drop (.drop (.drop (Sub.refl _))))) | exact .inl rfl) ?_
    refine wpd_p 7 rfl (by kernel_rfl) trivial (q_pure rfl) rfl (by repeat (first | exact hNP | apply nop_then | apply nop_block)) (fun w h => by first | exact .inr h | exact .inr (h.sub (by first | exact Sub.refl _ | exact .drop (Sub.refl _) | exact .drop (.drop (Sub.refl _)) | exact .drop (.drop (.drop (Sub.refl _)))) (by first | exact Sub.refl _ | exact .drop (Sub.refl _) | exact .drop (.drop (Sub.refl _)) | exact .drop (.drop (.drop (Sub.refl _))))) | exact .inl rfl) ?_
    refine wpd_p 8 rfl (by kernel_rfl) trivial (q_pure rfl) rfl (by repeat (first | exact hNP | apply nop_then | apply nop_block)) (fun w h => by first | exact .inr h | exact .inr (h.sub (by first | exact Sub.refl _ | exact .drop (Sub.refl _) | exact .drop (.drop (Sub.refl _)) | exact .drop (.drop (.drop (Sub.refl _)))) (by first | exact Sub.refl _ | exact .drop (Sub.refl _) | exact .drop (.drop (Sub.refl _)) | exact .drop (.drop (.drop (Sub.refl _))))) | exact .inl rfl) ?_
    refine wpd_p 9 rfl (by kernel_rfl) ⟨_, rfl, rfl⟩ (q_pure rfl) rfl (by repeat (first | exact hNP | apply nop_then | apply nop_block)) (fun w h => by first | exact .inr h | exact .inr (h.sub (by first | exact Sub.refl _ | exact .drop (Sub.refl _) | exact .drop (.drop (Sub.refl _)) | exact .drop (.drop (.drop (Sub.refl _)))) (by first | exact Sub.refl _ | exact .drop (Sub.refl _) | exact .drop (.drop (Sub.refl _)) | exact .drop (.drop (.drop (Sub.refl _))))) | exact .inl rfl) ?_
    refine wpd_p 10 rfl (by kernel_rfl) ⟨_, rfl, rfl⟩ (q_pure rfl) rfl (by repeat (first | exact hNP | apply nop_then | apply nop_block)) (fun w h => by first | exact .inr h | exact .inr (h.sub (by first | exact Sub.refl _ | exact .drop (Sub.refl _) | exact .drop (.drop (Sub.refl _)) | exact .drop (.drop (.drop (Sub.refl _)))) (by first | exact Sub.refl _ | exact .drop (Sub.refl _) | exact .drop (.drop (Sub.refl _)) | exact .drop (.drop (.drop (Sub.refl _))))) | exact .inl rfl) ?_
    refine wpd_p 11 rfl (by kernel_rfl) ⟨_, rfl, rfl⟩ (qop_eq (q_pure rfl) (v := .bool true) (by simp)) rfl (by repeat (first | exact hNP | apply nop_then | apply nop_block)) (fun w h => by first | exact .inr h | exact .inr (h.sub (by first | exact Sub.refl _ | exact .drop (Sub.refl _) | exact .drop (.drop (Sub.refl _)) | exact .drop (.drop (.drop (Sub.refl _)))) (by first | exact Sub.refl _ | exact .drop (Sub.refl _) | exact .drop (.drop (Sub.refl _)) | exact .drop (.drop (.drop (Sub.refl _))))) | exact .inl rfl) ?_
    refine wpd_p 12 rfl (by kernel_rfl) trivial (q_pure rfl) rfl (by repeat (first | exact hNP | apply nop_then | apply nop_block)) (fun w h => by first | exact .inr h | exact .inr (h.sub (by first | exact Sub.refl _ | exact .drop (Sub.refl _) | exact .drop (.drop (Sub.refl _)) | exact .drop (.drop (.drop (Sub.refl _)))) (by first | exact Sub.refl _ | exact .drop (Sub.refl _) | exact .drop (.drop (Sub.refl _)) | exact .drop (.drop (.drop (Sub.refl _))))) | exact .inl rfl) ?_
    refine wpd_p 13 rfl (by kernel_rfl) trivial (q_pure rfl) rfl (by repeat (first | exact hNP | apply nop_then | apply nop_block)) (fun w h => by first | exact .inr h | exact .inr (h.sub (by first | exact Sub.refl _ | exact .drop (Sub.refl _) | exact .drop (.drop (Sub.refl _)) | exact .drop (.drop (.drop (Sub.refl _)))) (by first | exact Sub.refl _ | exact .drop (Sub.refl _) | exact .drop (.drop (Sub.refl _)) | exact .drop (.drop (.drop (Sub.refl _))))) | exact .inl rfl) ?_
    refine wpd_p 14 rfl (by kernel_rfl) ⟨_, rfl, rfl⟩ (q_pure rfl) rfl (by repeat (first | exact hNP | apply nop_then | apply nop_block)) (fun w h => by first | exact .inr h | exact .inr (h.sub (by first | exact Sub.refl _ | exact .drop (Sub.refl _) | exact .drop (.drop (Sub.refl _)) | exact .drop (.drop (.drop (Sub.refl _)))) (by first | exact Sub.refl _ | exact .drop (Sub.refl _) | exact .drop (.drop (Sub.refl _)) | exact .drop (.drop (.drop (Sub.refl _))))) | exact .inl rfl) ?_
    refine wpd_p 15 rfl (by kernel_rfl) ⟨_, rfl, rfl⟩ (q_pure rfl) rfl (by repeat (first | exact hNP | apply nop_then | apply nop_block)) (fun w h => by first | exact .inr h | exact .inr (h.sub (by first | exact Sub.refl _ | exact .drop (Sub.refl _) | exact .drop (.drop (Sub.refl _)) | exact .drop (.drop (.drop (Sub.refl _)))) (by first | exact Sub.refl _ | exact .drop (Sub.refl _) | exact .drop (.drop (Sub.refl _)) | exact .drop (.drop (.drop (Sub.refl _))))) | exact .inl rfl) ?_
    refine wpd_p 16 rfl (by kernel_rfl) ⟨_, rfl, rfl⟩ (qop_eq (q_pure rfl) (v := .bool true) (by simp)) rfl (by repeat (first | exact hNP | apply nop_then | apply nop_block)) (fun w h => by first | exact .inr h | exact .inr (h.sub (by first | exact Sub.refl _ | exact .drop (Sub.refl _) | exact .drop (.drop (Sub.refl _)) | exact .drop (.drop (.drop (Sub.refl _)))) (by first | exact Sub.refl _ | exact .drop (Sub.refl _) | exact .drop (.drop (Sub.refl _)) | exact .drop (.drop (.drop (Sub.refl _))))) | exact .inl rfl) ?_
    refine wpd_p 17 rfl (by kernel_rfl) trivial (q_pure rfl) rfl (by repeat (first | exact hNP | apply nop_then | apply nop_block)) (fun w h => by first | exact .inr h | exact .inr (h.sub (by first | exact Sub.refl _ | exact .drop (Sub.refl _) | exact .drop (.drop (Sub.refl _)) | exact .drop (.drop (.drop (Sub.refl _)))) (by first | exact Sub.refl _ | exact .drop (Sub.refl _) | exact .drop (.drop (Sub.refl _)) | exact .drop (.drop (.drop (Sub.refl _))))) | exact .inl rfl) ?_
    refine wpd_p 18 rfl (by kernel_rfl) trivial (q_pure rfl) rfl (by repeat (first | exact hNP | apply nop_then | apply nop_block)) (fun w h => by first | exact .inr h | exact .inr (h.sub (by first | exact Sub.refl _ | exact .drop (Sub.refl _) | exact .drop (.drop (Sub.refl _)) | exact .drop (.drop (.drop (Sub.refl _)))) (by first | exact Sub.refl _ | exact .drop (Sub.refl _) | exact .drop (.drop (Sub.refl _)) | exact .drop (.drop (.drop (Sub.refl _))))) | exact .inl rfl) ?_
    refine wpd_p 19 rfl (by kernel_rfl) ⟨_, rfl, rfl⟩ (q_pure rfl) rfl (by repeat (first | exact hNP | apply nop_then | apply nop_block)) (fun w h => by first | exact .inr h | exact .inr (h.sub (by first | exact Sub.refl _ | exact .drop (Sub.refl _) | exact .drop (.drop (Sub.refl _)) | exact .drop (.drop (.drop (Sub.refl _)))) (by first | exact Sub.refl _ | exact .drop (Sub.refl _) | exact .drop (.drop (Sub.refl _)) | exact .drop (.drop (.drop (Sub.refl _))))) | exact .inl rfl) ?_
    refine wpd_p 20 rfl (by kernel_rfl) ⟨_, rfl, rfl⟩ (q_pure rfl) rfl (by repeat (first | exact hNP | apply nop_then | apply nop_block)) (fun w h => by first | exact .inr h | exact .inr (h.sub (by first | exact Sub.refl _ | exact .drop (Sub.refl _) | exact .drop (.drop (Sub.refl _)) | exact .drop (.drop (.drop (Sub.refl _)))) (by first | exact Sub.refl _ | exact .drop (Sub.refl _) | exact .drop (.drop (Sub.refl _)) | exact .drop (.drop (.drop (Sub.refl _))))) | exact .inl rfl) ?_
    refine wpd_p 21 rfl (by kernel_rfl) ⟨_, rfl, rfl⟩ (qop_eq (q_pure rfl) (v := .bool true) (by simp)) rfl (by repeat (first | exact hNP | apply nop_then | apply nop_block)) (fun w h => by first | exact .inr h | exact .inr (h.sub (by first | exact Sub.refl _ | exact .drop (Sub.refl _) | exact .drop (.drop (Sub.refl _)) | exact .drop (.drop (.drop (Sub.refl _)))) (by first | exact Sub.refl _ | exact .drop (Sub.refl _) | exact .drop (.drop (Sub.refl _)) | exact .drop (.drop (.drop (Sub.refl _))))) | exact .inl rfl) ?_
    refine wpd_p 22 rfl (by kernel_rfl) trivial (q_pure rfl) rfl (by repeat (first | exact hNP | apply nop_then | apply nop_block)) (fun w h => by first | exact .inr h | exact .inr (h.sub (by first | exact Sub.refl _ | exact .drop (Sub.refl _) | exact .drop (.drop (Sub.refl _)) | exact .drop (.drop (.drop (Sub.refl _)))) (by first | exact Sub.refl _ | exact .drop (Sub.refl _) | exact .drop (.drop (Sub.refl _)) | exact .drop (.drop (.drop (Sub.refl _))))) | exact .inl rfl) ?_
    refine wpd_p 23 rfl (by kernel_rfl) trivial (q_pure rfl) rfl (by repeat (first | exact hNP | apply nop_then | apply nop_block)) (fun w h => by first | exact .inr h | exact .inr (h.sub (by first | exact Sub.refl _ | exact .drop (Sub.refl _) | exact .drop (.drop (Sub.refl _)) | exact .drop (.drop (.drop (Sub.refl _)))) (by first | exact Sub.refl _ | exact .drop (Sub.refl _) | exact .drop (.drop (Sub.refl _)) | exact .drop (.drop (.drop (Sub.refl _))))) | exact .inl rfl) ?_
    refine wpd_q 24 rfl (by kernel_rfl) ⟨_, rfl, rfl⟩ (q_loadN Try.underlying30 rfl Try.ti30 rfl (fun w h => h.cells_blk (by repeat (first | exact List.mem_cons_self .. | apply List.mem_cons_of_mem))) (by first | rfl | (simp only [v8s_length, v32s_length, vis_length, v64s_length, List.length_replicate]; first | done | assumption | omega))) rfl (by repeat (first | exact hNP | apply nop_then | apply nop_block)) (fun w h => by first | exact h | exact h.sub (by first | exact Sub.refl _ | exact .drop (Sub.refl _) | exact .drop (.drop (Sub.refl _)) | exact .drop (.drop (.drop (Sub.refl _)))) (by first | exact Sub.refl _ | exact .drop (Sub.refl _) | exact .drop (.drop (Sub.refl _)) | exact .drop (.drop (.drop (Sub.refl _))))) ?_
    refine wpd_q 26 rfl (by kernel_rfl) ⟨_, rfl, rfl⟩ (q_loadN Try.underlying30 rfl Try.ti30 rfl (fun w h => h.cells_blk (by repeat (first | exact List.mem_cons_self .. | apply List.mem_cons_of_mem))) (by first | rfl | (simp only [v8s_length, v32s_length, vis_length, v64s_length, List.length_replicate]; first | done | assumption | omega))) rfl (by repeat (first | exact hNP | apply nop_then | apply nop_block)) (fun w h => by first | exact h | exact h.sub (by first | exact Sub.refl _ | exact .drop (Sub.refl _) | exact .drop (.drop (Sub.refl _)) | exact .drop (.drop (.drop (Sub.refl _)))) (by first | exact Sub.refl _ | exact .drop (Sub.refl _) | exact .drop (.drop (Sub.refl _)) | exact .drop (.drop (.drop (Sub.refl _))))) ?_
    refine wpd_t 25 rfl (by kernel_rfl) ⟨_, rfl, rfl⟩ (t_pur Try.hb21 rfl fun w' h => clock_Check.calls a b (chkW a b) w' (chk_w a b)) rfl (fun x w h => by first | exact .inl rfl | exact .inr h | exact .inr (h.sub (by first | exact Sub.refl _ | exact .drop (Sub.refl _) | exact .drop (.drop (Sub.refl _)) | exact .drop (.drop (.drop (Sub.refl _)))) (by first | exact Sub.refl _ | exact .drop (Sub.refl _) | exact .drop (.drop (Sub.refl _)) | exact .drop (.drop (.drop (Sub.refl _)))))) ?_
    intro b73
    refine wpd_t 27 rfl (by kernel_rfl) ⟨_, rfl, rfl⟩ (t_pur Try.hb22 rfl fun w' h => gatepathref04_Check.calls a b (chkW a b) w' (rchk_w a b)) rfl (fun x w h => by first | exact .inl rfl | exact .inr h | exact .inr (h.sub (by first | exact Sub.refl _ | exact .drop (Sub.refl _) | exact .drop (.drop (Sub.refl _)) | exact .drop (.drop (.drop (Sub.refl _)))) (by first | exact Sub.refl _ | exact .drop (Sub.refl _) | exact .drop (.drop (Sub.refl _)) | exact .drop (.drop (.drop (Sub.refl _)))))) ?_
    intro b75
    refine wpd_p 28 rfl (by kernel_rfl) ⟨_, rfl, rfl⟩ (qop_eq (q_pure rfl) (v := .bool true) (by simp)) rfl (by repeat (first | exact hNP | apply nop_then | apply nop_block)) (fun w h => by first | exact .inr h | exact .inr (h.sub (by first | exact Sub.refl _ | exact .drop (Sub.refl _) | exact .drop (.drop (Sub.refl _)) | exact .drop (.drop (.drop (Sub.refl _)))) (by first | exact Sub.refl _ | exact .drop (Sub.refl _) | exact .drop (.drop (Sub.refl _)) | exact .drop (.drop (.drop (Sub.refl _))))) | exact .inl rfl) ?_
    refine wpd_p 29 rfl (by kernel_rfl) trivial (q_pure rfl) rfl (by repeat (first | exact hNP | apply nop_then | apply nop_block)) (fun w h => by first | exact .inr h | exact .inr (h.sub (by first | exact Sub.refl _ | exact .drop (Sub.refl _) | exact .drop (.drop (Sub.refl _)) | exact .drop (.drop (.drop (Sub.refl _)))) (by first | exact Sub.refl _ | exact .drop (Sub.refl _) | exact .drop (.drop (Sub.refl _)) | exact .drop (.drop (.drop (Sub.refl _))))) | exact .inl rfl) ?_
    refine wpd_p 30 rfl (by kernel_rfl) trivial (q_pure rfl) rfl (by repeat (first | exact hNP | apply nop_then | apply nop_block)) (fun w h => by first | exact .inr h | exact .inr (h.sub (by first | exact Sub.refl _ | exact .drop (Sub.refl _) | exact .drop (.drop (Sub.refl _)) | exact .drop (.drop (.drop (Sub.refl _)))) (by first | exact Sub.refl _ | exact .drop (Sub.refl _) | exact .drop (.drop (Sub.refl _)) | exact .drop (.drop (.drop (Sub.refl _))))) | exact .inl rfl) ?_
    refine wpd_q 31 rfl (by kernel_rfl) ⟨_, rfl, rfl⟩ (q_loadN Try.underlying30 rfl Try.ti30 rfl (fun w h => h.cells_blk (by repeat (first | exact List.mem_cons_self .. | apply List.mem_cons_of_mem))) (by first | rfl | (simp only [v8s_length, v32s_length, vis_length, v64s_length, List.length_replicate]; first | done | assumption | omega))) rfl (by repeat (first | exact hNP | apply nop_then | apply nop_block)) (fun w h => by first | exact h | exact h.sub (by first | exact Sub.refl _ | exact .drop (Sub.refl _) | exact .drop (.drop (Sub.refl _)) | exact .drop (.drop (.drop (Sub.refl _)))) (by first | exact Sub.refl _ | exact .drop (Sub.refl _) | exact .drop (.drop (Sub.refl _)) | exact .drop (.drop (.drop (Sub.refl _))))) ?_
    refine wpd_p 32 rfl (by kernel_rfl) ⟨_, rfl, rfl⟩ (q_pure rfl) rfl (by repeat (first | exact hNP | apply nop_then | apply nop_block)) (fun w h => by first | exact .inr h | exact .inr (h.sub (by first | exact Sub.refl _ | exact .drop (Sub.refl _) | exact .drop (.drop (Sub.refl _)) | exact .drop (.drop (.drop (Sub.refl _)))) (by first | exact Sub.refl _ | exact .drop (Sub.refl _) | exact .drop (.drop (Sub.refl _)) | exact .drop (.drop (.drop (Sub.refl _))))) | exact .inl rfl) ?_
    refine wpd_q 34 rfl (by kernel_rfl) ⟨_, rfl, rfl⟩ (q_loadN Try.underlying30 rfl Try.ti30 rfl (fun w h => h.cells_blk (by repeat (first | exact List.mem_cons_self .. | apply List.mem_cons_of_mem))) (by first | rfl | (simp only [v8s_length, v32s_length, vis_length, v64s_length, List.length_replicate]; first | done | assumption | omega))) rfl (by repeat (first | exact hNP | apply nop_then | apply nop_block)) (fun w h => by first | exact h | exact h.sub (by first | exact Sub.refl _ | exact .drop (Sub.refl _) | exact .drop (.drop (Sub.refl _)) | exact .drop (.drop (.drop (Sub.refl _)))) (by first | exact Sub.refl _ | exact .drop (Sub.refl _) | exact .drop (.drop (Sub.refl _)) | exact .drop (.drop (.drop (Sub.refl _))))) ?_
    refine wpd_p 35 rfl (by kernel_rfl) ⟨_, rfl, rfl⟩ (q_pure rfl) rfl (by repeat (first | exact hNP | apply nop_then | apply nop_block)) (fun w h => by first | exact .inr h | exact .inr (h.sub (by first | exact Sub.refl _ | exact .drop (Sub.refl _) | exact .drop (.drop (Sub.refl _)) | exact .drop (.drop (.drop (Sub.refl _)))) (by first | exact Sub.refl _ | exact .drop (Sub.refl _) | exact .drop (.drop (Sub.refl _)) | exact .drop (.drop (.drop (Sub.refl _))))) | exact .inl rfl) ?_
    refine wpd_t 33 rfl (by kernel_rfl) ⟨_, rfl, rfl⟩ (t_pur Try.hb23 rfl fun w' h => clock_In.calls a b tm (inW a b tm) w' (in_w a b tm)) rfl (fun x w h => by first | exact .inl rfl | exact .inr h | exact .inr (h.sub (by first | exact Sub.refl _ | exact .drop (Sub.refl _) | exact .drop (.drop (Sub.refl _)) | exact .drop (.drop (.drop (Sub.refl _)))) (by first | exact Sub.refl _ | exact .drop (Sub.refl _) | exact .drop (.drop (Sub.refl _)) | exact .drop (.drop (.drop (Sub.refl _)))))) ?_
    intro b81
    refine wpd_t 36 rfl (by kernel_rfl) ⟨_, rfl, rfl⟩ (t_pur Try.hb24 rfl fun w' h => gatepathref04_In.calls a b tm (inW a b tm) w' (rin_w a b tm)) rfl (fun x w h => by first | exact .inl rfl | exact .inr h | exact .inr (h.sub (by first | exact Sub.refl _ | exact .drop (Sub.refl _) | exact .drop (.drop (Sub.refl _)) | exact .drop (.drop (.drop (Sub.refl _)))) (by first | exact Sub.refl _ | exact .drop (Sub.refl _) | exact .drop (.drop (Sub.refl _)) | exact .drop (.drop (.drop (Sub.refl _)))))) ?_
    intro b84
    refine wpd_p 37 rfl (by kernel_rfl) ⟨_, rfl, rfl⟩ (qop_eq (q_beq Try.underlying4 rfl rfl) (v := .bool true) (by simp)) rfl (by repeat (first | exact hNP | apply nop_then | apply nop_block)) (fun w h => by first | exact .inr h | exact .inr (h.sub (by first | exact Sub.refl _ | exact .drop (Sub.refl _) | exact .drop (.drop (Sub.refl _)) | exact .drop (.drop (.drop (Sub.refl _)))) (by first | exact Sub.refl _ | exact .drop (Sub.refl _) | exact .drop (.drop (Sub.refl _)) | exact .drop (.drop (.drop (Sub.refl _))))) | exact .inl rfl) ?_
    refine wpd_p 38 rfl (by kernel_rfl) trivial (q_pure rfl) rfl (by repeat (first | exact hNP | apply nop_then | apply nop_block)) (fun w h => by first | exact .inr h | exact .inr (h.sub (by first | exact Sub.refl _ | exact .drop (Sub.refl _) | exact .drop (.drop (Sub.refl _)) | exact .drop (.drop (.drop (Sub.refl _)))) (by first | exact Sub.refl _ | exact .drop (Sub.refl _) | exact .drop (.drop (Sub.refl _)) | exact .drop (.drop (.drop (Sub.refl _))))) | exact .inl rfl) ?_
    refine wpd_p 39 rfl (by kernel_rfl) trivial (q_pure rfl) rfl (by repeat (first | exact hNP | apply nop_then | apply nop_block)) (fun w h => by first | exact .inr h | exact .inr (h.sub (by first | exact Sub.refl _ | exact .drop (Sub.refl _) | exact .drop (.drop (Sub.refl _)) | exact .drop (.drop (.drop (Sub.refl _)))) (by first | exact Sub.refl _ | exact .drop (Sub.refl _) | exact .drop (.drop (Sub.refl _)) | exact .drop (.drop (.drop (Sub.refl _))))) | exact .inl rfl) ?_
    refine wpd_done (by kernel_rfl) ?_
    refine ex_then ?_
    refine wpc_ret ?_
    refine ret1 (.inl rfl) rfl rfl ?_
    exact fun w h => ⟨rfl, h.below⟩

theorem walkLaw (a0 b0 : Int) (_ : (Lit.int .i64 a0).wf = true) (_ : (Lit.int .i64 b0).wf = true) (a1 b1 : Int) (_ : (Lit.int .i64 a1).wf = true) (_ : (Lit.int .i64 b1).wf = true) (a2 : Int) (_ : (Lit.int .i64 a2).wf = true)
    (a3 : Option Addr) (len3 cap3 : Nat) (z3 : List Int) (w3 : World → (Prop : Type)) (w : World)
    (hw3 : w3 w) (hd : w3 w → (a3 = none ∧ len3 = 0 ∧ cap3 = 0 ∧ z3 = []) ∨ ∃ x, a3 = some x ∧ len3 ≤ cap3 ∧ cap3 ≤ maxLen ∧ z3.length = cap3 ∧ (∀ i, i < z3.length → w.cell? (x.add i) = some (.int .i64 (z3.getD i 0))) ∧ ∀ n ∈ z3, (Lit.int .i64 n).wf = true) :
    Calls Try.prog 5 #[.agg #[.int .i64 a0, .int .i64 b0], .agg #[.int .i64 a1, .int .i64 b1], .int .i64 a2, .slice a3 len3 cap3] w fun e w' => e = .returned (.bool true) ∧ RowKit.Below w.heap.size w w' := by
  obtain ⟨l0, rfl, hr0, hm0, hw0, hc0⟩ := ReadsInt.ofRowC (hd hw3)
  exact windows a0 b0 a1 b1 a2 a3 cap3 l0 w (fun w' hb => Kd.C_of_reads (d := (0 : Int)) (h1 := fun _ => rfl) (hr0.below hb)) hc0
end Go.Proofs.Ytoefmoniafhgfaa.LW