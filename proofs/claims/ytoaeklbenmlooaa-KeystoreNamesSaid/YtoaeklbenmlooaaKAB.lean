/- A step of the reference. -/
import Derived.Test.YtoaeklbenmlooaaKAA
namespace Go.Proofs.Ytoaeklbenmlooaa
set_option linter.unusedSimpArgs false
set_option linter.unusedVariables false
open Go Go.PL Go.RowKit

theorem built_kr1 (e : Int) : Try.prog.built 61 [(1, .int .i64 e)] = some [Value.int .i64 0, .int .i64 e].toArray := by kernel_rfl
theorem built_kr0 (i : Int) : Try.prog.built 61 [(0, .int .i64 i)] = some [Value.int .i64 i, .int .i64 0].toArray := by kernel_rfl

set_option maxRecDepth 100000 in
theorem refStep (s : St) (dv pv kv : Value) (x : Stp) (w : World) (hs : StS w.cell? s dv pv kv)  :
    Calls Try.prog 57 [.agg (s.c dv pv kv).toArray, .agg x.c.toArray].toArray w (GivesP w (fun v : V3 => (stepF s x).2.1.sv v) (fun v => .tuple #[.agg [Value.int .i64 (stepF s x).1, .int .i64 (stepF s x).2.2].toArray, stV (stepF s x).2.1 v]) (fun v => [dRow v.1 (stepF s x).2.1.dk, dRow v.2.1 (stepF s x).2.1.pd, kRow v.2.2 (stepF s x).2.1.ks]) (fun _ => [])) := by
  have sdv := hs.d.sv
  have spv := hs.p.sv
  have skv := hs.k.sv
  have l1hs := hs.ld
  have l2hs := hs.lp
  have l3hs := hs.lk
  haveI : L32 s := ⟨hs.len⟩
  haveI : OneC (s.c dv pv kv) := ⟨St.c_one sdv spv skv⟩
  refine enter (m := 83) (R := Mem w [] [] []) Try.func57 rfl rfl (Nat.le_of_ble_eq_true rfl) (Mem.start w) ?_
  refine wpc_seq ?_
  refine wpc_region ?_
  refine wpl_t (t_box rfl (s.c dv pv kv) rfl) rfl (fun b2 => ?_)
  refine wpl_t (t_box rfl x.c rfl) rfl (fun b3 => ?_)
  refine wpl_t (t_alloc Try.ti61 [.int .i64 0, .int .i64 0] rfl) rfl (fun b4 => ?_)
  refine wpl_t (t_alloc Try.ti27 (St.z.c nl nl nl) rfl) rfl (fun b5 => ?_)
  refine wpl_nil ?_
  refine ex_then ?_
  refine wpc_seq ?_
  refine wpc_draw 3 (by kernel_rfl) (fun _ h => h.drew) ?_
  refine wpd_q 0 rfl (by kernel_rfl) trivial (q_ldN Try.underlying27 rfl Try.ti27 rfl LenC.h) rfl (fun _ h => h) ?_
  refine wpd_t 1 rfl (by kernel_rfl) trivial (t_alloc Try.ti27 (St.z.c nl nl nl) rfl) rfl (fun _ => (fun w h => .inr (h.sub SubC.h SubC.h))) (fun b7 => ?_)
  refine wpd_p 2 rfl (by kernel_rfl) trivial (q_pure rfl) rfl (fun w h => .inr (h.sub SubC.h SubC.h)) ?_
  refine wpd_t0 3 rfl (by kernel_rfl) trivial (t_stA Try.ti27 rfl rfl LenC.h OneC.h LenC.h) (fun _ => skk rfl) (fun _ => ?_)
  refine wpd_p 4 rfl (by kernel_rfl) trivial (q_pure rfl) rfl (skk rfl) ?_
  refine wpd_done (by kernel_rfl) ?_
  refine ex_then ?_
  refine wpc_seq ?_
  refine wpc_seq ?_
  refine wpc_region ?_
  refine wpl_q (q_field Try.underlying58 rfl Try.ti5 rfl rfl _ rfl) rfl ?_
  refine wpl_q (q_ld Try.underlying5 rfl rfl (by first | exact v8s_get (by first | decide | omega | exact Nat.zero_lt_one | (simp; omega) | (simp; done) | (simp only [v8s_length, v32s_length, vis_length, vns_length, v64s_length]; omega)) | rfl)) rfl ?_
  refine wpl_nil ?_
  refine ex_then ?_
  refine wpc_block ?_
  refine wpc_seq ?_
  refine wpc_region ?_
  refine wpl_q (q8_eql (b := (1 : UInt8)) rfl rfl) rfl ?_
  refine wpl_q (q_pure rfl) rfl ?_
  refine wpl_nil ?_
  refine ex_then ?_
  refine wpc_cond rfl (fun hc12 => ?_) (fun hc12 => ?_)
  ·
   have hk : x.kd = 1 := by simpa using hc12
   have hdo := do_1 (s := s) hk
   refine wpc_region ?_
   refine wpl_q (q_ldN Try.underlying27 rfl Try.ti27 rfl LenC.h) rfl ?_
   refine wpl_q (q_field Try.underlying58 rfl Try.ti28 rfl rfl _ rfl) rfl ?_
   refine wpl_q (q_ld Try.underlying28 rfl rfl (by first | exact v32s_get (by first | decide | omega | exact Nat.zero_lt_one | (simp; omega) | (simp; done) | (simp only [v8s_length, v32s_length, vis_length, vns_length, v64s_length]; omega)) | rfl)) rfl ?_
   refine wpl_q (q_field Try.underlying58 rfl Try.ti3 rfl rfl _ rfl) rfl ?_
   refine wpl_q (q_ld Try.underlying3 rfl rfl (by first | exact vns_get (by first | decide | omega | exact Nat.zero_lt_one | (simp; omega) | (simp; done) | (simp only [v8s_length, v32s_length, vis_length, vns_length, v64s_length]; omega)) | rfl)) rfl ?_
   refine wpl_tp (t_callP3 Try.hb22 rfl fun w h => refCreate s dv pv kv x.id x.n w (StS.old h hs)) rfl (fun b20 p20 => ?_)
   haveI := OneC.sv p20
   refine wpl_q (q_pure rfl) rfl ?_
   refine wpl_q (q_pure rfl) rfl ?_
   refine wpl_q (q_pure rfl) rfl ?_
   refine wpl_t0 (t_stA Try.ti27 rfl rfl LenC.h OneC.h LenC.h) (fun _ => ?_)
   refine wpl_q (q_pure rfl) rfl ?_
   refine wpl_nil ?_
   refine ex_block ?_
   refine ex_then ?_
   refine wpc_seq ?_
   refine wpc_seq ?_
   refine wpc_region ?_
   refine wpl_q (q_pure rfl) rfl ?_
   refine wpl_q (q_pure rfl) rfl ?_
   refine wpl_nil ?_
   refine ex_then ?_
   refine wpc_cond rfl (fun hc75 => ?_) (fun hc75 => ?_)
   ·
    simp only [bne_iff_ne, ne_eq] at hc75
    refine wpc_seq ?_
    refine wpc_region ?_
    refine wpl_q (q_pure rfl) rfl ?_
    refine wpl_q (q_build (cs := [Value.int .i64 0, .int .i64 _]) rfl (built_kr1 _)) rfl ?_
    refine wpl_q (q_ldN Try.underlying27 rfl Try.ti27 rfl LenC.h) rfl ?_
    refine wpl_tp (t_callP3 Try.hb10 rfl fun w h => refTwin s dv pv kv w (by first | exact StS.old h hs | exact ⟨hs.len, h.seenV, h.seenV, h.seenV, by omega, by omega, by omega⟩)) rfl (fun b79 p79 => ?_)
    haveI := OneC.sv p79
    refine wpl_t0 (t_stA Try.ti61 rfl rfl LenC.h OneC.h LenC.h) (fun _ => ?_)
    refine wpl_t0 (t_stA Try.ti27 rfl rfl LenC.h OneC.h LenC.h) (fun _ => ?_)
    refine wpl_nil ?_
    refine ex_then ?_
    refine wpc_ret ?_
    refine ex_then_ret ?_
    refine retv2 (.inl rfl) rfl (rv_agg Try.underlying61 rfl Try.ti61 rfl (fun w h => h.atB) rfl) (rv_agg Try.underlying27 rfl Try.ti27 rfl (fun w h => h.atB) LenC.h) ?_
    exact fun w h => ⟨b79, by rw [sp_bad hdo hc75]; exact p79, by rw [sp_bad hdo hc75]; first | done | rfl, h.below, by rw [sp_bad hdo hc75]; exact h.made SubC.h .nil⟩
   ·
    simp only [bne_eq_false_iff_eq] at hc75
    refine wpc_skip ?_
    refine ex_then ?_
    refine wpc_seq ?_
    refine wpc_drawM [.blk b7 27 _] 4 (by kernel_rfl) (by repeat (first | exact Sub.nil | exact Sub.refl _ | with_reducible refine Sub.keep ?_ | refine Sub.drop ?_)) ?_
    refine wpd_p 0 rfl (by kernel_rfl) trivial (q_pure rfl) rfl (fun w h => .inr (h.sub SubC.h SubC.h)) ?_
    refine wpd_p 1 rfl (by kernel_rfl) trivial (q_build (cs := [Value.int .i64 _, .int .i64 0]) rfl (built_kr0 _)) rfl (fun w h => .inr (h.sub SubC.h SubC.h)) ?_
    refine wpd_q 2 rfl (by kernel_rfl) trivial (q_ldN Try.underlying27 rfl Try.ti27 rfl LenC.h) rfl (fun w h => h.sub SubC.h SubC.h) ?_
    refine wpd_t0 3 rfl (by kernel_rfl) trivial (t_stA Try.ti61 rfl rfl LenC.h OneC.h LenC.h) (fun _ => (fun w h => .inr (h.sub SubC.h SubC.h))) (fun _ => ?_)
    refine wpd_t0 4 rfl (by kernel_rfl) trivial (t_stA Try.ti27 rfl rfl LenC.h OneC.h LenC.h) (fun _ => skk rfl) (fun _ => ?_)
    refine wpd_done (by kernel_rfl) ?_
    refine ex_then ?_
    refine wpc_ret ?_
    refine retv2 (.inl rfl) rfl (rv_agg Try.underlying61 rfl Try.ti61 rfl (fun w h => h.atB) rfl) (rv_agg Try.underlying27 rfl Try.ti27 rfl (fun w h => h.atB) LenC.h) ?_
    exact fun w h => ⟨b20, by rw [sp_ok hdo hc75]; exact p20, by rw [sp_ok hdo hc75]; first | done | rfl, h.below, by rw [sp_ok hdo hc75]; exact h.made SubC.h .nil⟩
  ·
   have hn1 : ¬ x.kd = 1 := by simpa using hc12
   refine wpc_seq ?_
   refine wpc_region ?_
   refine wpl_q (q8_eql (b := (2 : UInt8)) rfl rfl) rfl ?_
   refine wpl_q (q_pure rfl) rfl ?_
   refine wpl_nil ?_
   refine ex_then ?_
   refine wpc_cond rfl (fun hc23 => ?_) (fun hc23 => ?_)
   ·
    have hk : x.kd = 2 := by simpa using hc23
    have hdo := do_2 (s := s) hk
    refine wpc_region ?_
    refine wpl_q (q_ldN Try.underlying27 rfl Try.ti27 rfl LenC.h) rfl ?_
    refine wpl_q (q_field Try.underlying58 rfl Try.ti28 rfl rfl _ rfl) rfl ?_
    refine wpl_q (q_ld Try.underlying28 rfl rfl (by first | exact v32s_get (by first | decide | omega | exact Nat.zero_lt_one | (simp; omega) | (simp; done) | (simp only [v8s_length, v32s_length, vis_length, vns_length, v64s_length]; omega)) | rfl)) rfl ?_
    refine wpl_tp (t_callP3 Try.hb24 rfl fun w h => refReserve s dv pv kv x.id w (StS.old h hs)) rfl (fun b29 p29 => ?_)
    haveI := OneC.sv p29
    refine wpl_q (q_pure rfl) rfl ?_
    refine wpl_q (q_pure rfl) rfl ?_
    refine wpl_q (q_pure rfl) rfl ?_
    refine wpl_t0 (t_stA Try.ti27 rfl rfl LenC.h OneC.h LenC.h) (fun _ => ?_)
    refine wpl_q (q_pure rfl) rfl ?_
    refine wpl_nil ?_
    refine ex_block ?_
    refine ex_then ?_
    refine wpc_seq ?_
    refine wpc_seq ?_
    refine wpc_region ?_
    refine wpl_q (q_pure rfl) rfl ?_
    refine wpl_q (q_pure rfl) rfl ?_
    refine wpl_nil ?_
    refine ex_then ?_
    refine wpc_cond rfl (fun hc75 => ?_) (fun hc75 => ?_)
    ·
     simp only [bne_iff_ne, ne_eq] at hc75
     refine wpc_seq ?_
     refine wpc_region ?_
     refine wpl_q (q_pure rfl) rfl ?_
     refine wpl_q (q_build (cs := [Value.int .i64 0, .int .i64 _]) rfl (built_kr1 _)) rfl ?_
     refine wpl_q (q_ldN Try.underlying27 rfl Try.ti27 rfl LenC.h) rfl ?_
     refine wpl_tp (t_callP3 Try.hb10 rfl fun w h => refTwin s dv pv kv w (by first | exact StS.old h hs | exact ⟨hs.len, h.seenV, h.seenV, h.seenV, by omega, by omega, by omega⟩)) rfl (fun b79 p79 => ?_)
     haveI := OneC.sv p79
     refine wpl_t0 (t_stA Try.ti61 rfl rfl LenC.h OneC.h LenC.h) (fun _ => ?_)
     refine wpl_t0 (t_stA Try.ti27 rfl rfl LenC.h OneC.h LenC.h) (fun _ => ?_)
     refine wpl_nil ?_
     refine ex_then ?_
     refine wpc_ret ?_
     refine ex_then_ret ?_
     refine retv2 (.inl rfl) rfl (rv_agg Try.underlying61 rfl Try.ti61 rfl (fun w h => h.atB) rfl) (rv_agg Try.underlying27 rfl Try.ti27 rfl (fun w h => h.atB) LenC.h) ?_
     exact fun w h => ⟨b79, by rw [sp_bad hdo hc75]; exact p79, by rw [sp_bad hdo hc75]; first | done | rfl, h.below, by rw [sp_bad hdo hc75]; exact h.made SubC.h .nil⟩
    ·
     simp only [bne_eq_false_iff_eq] at hc75
     refine wpc_skip ?_
     refine ex_then ?_
     refine wpc_seq ?_
     refine wpc_drawM [.blk b7 27 _] 4 (by kernel_rfl) (by repeat (first | exact Sub.nil | exact Sub.refl _ | with_reducible refine Sub.keep ?_ | refine Sub.drop ?_)) ?_
     refine wpd_p 0 rfl (by kernel_rfl) trivial (q_pure rfl) rfl (fun w h => .inr (h.sub SubC.h SubC.h)) ?_
     refine wpd_p 1 rfl (by kernel_rfl) trivial (q_build (cs := [Value.int .i64 _, .int .i64 0]) rfl (built_kr0 _)) rfl (fun w h => .inr (h.sub SubC.h SubC.h)) ?_
     refine wpd_q 2 rfl (by kernel_rfl) trivial (q_ldN Try.underlying27 rfl Try.ti27 rfl LenC.h) rfl (fun w h => h.sub SubC.h SubC.h) ?_
     refine wpd_t0 3 rfl (by kernel_rfl) trivial (t_stA Try.ti61 rfl rfl LenC.h OneC.h LenC.h) (fun _ => (fun w h => .inr (h.sub SubC.h SubC.h))) (fun _ => ?_)
     refine wpd_t0 4 rfl (by kernel_rfl) trivial (t_stA Try.ti27 rfl rfl LenC.h OneC.h LenC.h) (fun _ => skk rfl) (fun _ => ?_)
     refine wpd_done (by kernel_rfl) ?_
     refine ex_then ?_
     refine wpc_ret ?_
     refine retv2 (.inl rfl) rfl (rv_agg Try.underlying61 rfl Try.ti61 rfl (fun w h => h.atB) rfl) (rv_agg Try.underlying27 rfl Try.ti27 rfl (fun w h => h.atB) LenC.h) ?_
     exact fun w h => ⟨b29, by rw [sp_ok hdo hc75]; exact p29, by rw [sp_ok hdo hc75]; first | done | rfl, h.below, by rw [sp_ok hdo hc75]; exact h.made SubC.h .nil⟩
   ·
    have hn2 : ¬ x.kd = 2 := by simpa using hc23
    refine wpc_seq ?_
    refine wpc_region ?_
    refine wpl_q (q8_eql (b := (3 : UInt8)) rfl rfl) rfl ?_
    refine wpl_q (q_pure rfl) rfl ?_
    refine wpl_nil ?_
    refine ex_then ?_
    refine wpc_cond rfl (fun hc32 => ?_) (fun hc32 => ?_)
    ·
     have hk : x.kd = 3 := by simpa using hc32
     have hdo := do_3 (s := s) hk
     refine wpc_region ?_
     refine wpl_q (q_ldN Try.underlying27 rfl Try.ti27 rfl LenC.h) rfl ?_
     refine wpl_q (q_field Try.underlying58 rfl Try.ti28 rfl rfl _ rfl) rfl ?_
     refine wpl_q (q_ld Try.underlying28 rfl rfl (by first | exact v32s_get (by first | decide | omega | exact Nat.zero_lt_one | (simp; omega) | (simp; done) | (simp only [v8s_length, v32s_length, vis_length, vns_length, v64s_length]; omega)) | rfl)) rfl ?_
     refine wpl_tp (t_callP3 Try.hb26 rfl fun w h => refDrop s dv pv kv x.id w (StS.old h hs)) rfl (fun b38 p38 => ?_)
     haveI := OneC.sv p38
     refine wpl_q (q_pure rfl) rfl ?_
     refine wpl_q (q_pure rfl) rfl ?_
     refine wpl_q (q_pure rfl) rfl ?_
     refine wpl_t0 (t_stA Try.ti27 rfl rfl LenC.h OneC.h LenC.h) (fun _ => ?_)
     refine wpl_q (q_pure rfl) rfl ?_
     refine wpl_nil ?_
     refine ex_block ?_
     refine ex_then ?_
     refine wpc_seq ?_
     refine wpc_seq ?_
     refine wpc_region ?_
     refine wpl_q (q_pure rfl) rfl ?_
     refine wpl_q (q_pure rfl) rfl ?_
     refine wpl_nil ?_
     refine ex_then ?_
     refine wpc_cond rfl (fun hc75 => ?_) (fun hc75 => ?_)
     ·
      simp only [bne_iff_ne, ne_eq] at hc75
      refine wpc_seq ?_
      refine wpc_region ?_
      refine wpl_q (q_pure rfl) rfl ?_
      refine wpl_q (q_build (cs := [Value.int .i64 0, .int .i64 _]) rfl (built_kr1 _)) rfl ?_
      refine wpl_q (q_ldN Try.underlying27 rfl Try.ti27 rfl LenC.h) rfl ?_
      refine wpl_tp (t_callP3 Try.hb10 rfl fun w h => refTwin s dv pv kv w (by first | exact StS.old h hs | exact ⟨hs.len, h.seenV, h.seenV, h.seenV, by omega, by omega, by omega⟩)) rfl (fun b79 p79 => ?_)
      haveI := OneC.sv p79
      refine wpl_t0 (t_stA Try.ti61 rfl rfl LenC.h OneC.h LenC.h) (fun _ => ?_)
      refine wpl_t0 (t_stA Try.ti27 rfl rfl LenC.h OneC.h LenC.h) (fun _ => ?_)
      refine wpl_nil ?_
      refine ex_then ?_
      refine wpc_ret ?_
      refine ex_then_ret ?_
      refine retv2 (.inl rfl) rfl (rv_agg Try.underlying61 rfl Try.ti61 rfl (fun w h => h.atB) rfl) (rv_agg Try.underlying27 rfl Try.ti27 rfl (fun w h => h.atB) LenC.h) ?_
      exact fun w h => ⟨b79, by rw [sp_bad hdo hc75]; exact p79, by rw [sp_bad hdo hc75]; first | done | rfl, h.below, by rw [sp_bad hdo hc75]; exact h.made SubC.h .nil⟩
     ·
      simp only [bne_eq_false_iff_eq] at hc75
      refine wpc_skip ?_
      refine ex_then ?_
      refine wpc_seq ?_
      refine wpc_drawM [.blk b7 27 _] 4 (by kernel_rfl) (by repeat (first | exact Sub.nil | exact Sub.refl _ | with_reducible refine Sub.keep ?_ | refine Sub.drop ?_)) ?_
      refine wpd_p 0 rfl (by kernel_rfl) trivial (q_pure rfl) rfl (fun w h => .inr (h.sub SubC.h SubC.h)) ?_
      refine wpd_p 1 rfl (by kernel_rfl) trivial (q_build (cs := [Value.int .i64 _, .int .i64 0]) rfl (built_kr0 _)) rfl (fun w h => .inr (h.sub SubC.h SubC.h)) ?_
      refine wpd_q 2 rfl (by kernel_rfl) trivial (q_ldN Try.underlying27 rfl Try.ti27 rfl LenC.h) rfl (fun w h => h.sub SubC.h SubC.h) ?_
      refine wpd_t0 3 rfl (by kernel_rfl) trivial (t_stA Try.ti61 rfl rfl LenC.h OneC.h LenC.h) (fun _ => (fun w h => .inr (h.sub SubC.h SubC.h))) (fun _ => ?_)
      refine wpd_t0 4 rfl (by kernel_rfl) trivial (t_stA Try.ti27 rfl rfl LenC.h OneC.h LenC.h) (fun _ => skk rfl) (fun _ => ?_)
      refine wpd_done (by kernel_rfl) ?_
      refine ex_then ?_
      refine wpc_ret ?_
      refine retv2 (.inl rfl) rfl (rv_agg Try.underlying61 rfl Try.ti61 rfl (fun w h => h.atB) rfl) (rv_agg Try.underlying27 rfl Try.ti27 rfl (fun w h => h.atB) LenC.h) ?_
      exact fun w h => ⟨b38, by rw [sp_ok hdo hc75]; exact p38, by rw [sp_ok hdo hc75]; first | done | rfl, h.below, by rw [sp_ok hdo hc75]; exact h.made SubC.h .nil⟩
    ·
     have hn3 : ¬ x.kd = 3 := by simpa using hc32
     refine wpc_seq ?_
     refine wpc_region ?_
     refine wpl_q (q8_eql (b := (4 : UInt8)) rfl rfl) rfl ?_
     refine wpl_q (q_pure rfl) rfl ?_
     refine wpl_nil ?_
     refine ex_then ?_
     refine wpc_cond rfl (fun hc41 => ?_) (fun hc41 => ?_)
     ·
      have hk : x.kd = 4 := by simpa using hc41
      have hdo := do_4 (s := s) hk
      refine wpc_region ?_
      refine wpl_q (q_ldN Try.underlying27 rfl Try.ti27 rfl LenC.h) rfl ?_
      refine wpl_tp (t_callP3 Try.hb12 rfl fun w h => refSync s dv pv kv  w (StS.old h hs)) rfl (fun b45 p45 => ?_)
      haveI := OneC.sv p45
      refine wpl_q (q_pure rfl) rfl ?_
      refine wpl_q (q_pure rfl) rfl ?_
      refine wpl_q (q_pure rfl) rfl ?_
      refine wpl_t0 (t_stA Try.ti27 rfl rfl LenC.h OneC.h LenC.h) (fun _ => ?_)
      refine wpl_q (q_pure rfl) rfl ?_
      refine wpl_nil ?_
      refine ex_block ?_
      refine ex_then ?_
      refine wpc_seq ?_
      refine wpc_seq ?_
      refine wpc_region ?_
      refine wpl_q (q_pure rfl) rfl ?_
      refine wpl_q (q_pure rfl) rfl ?_
      refine wpl_nil ?_
      refine ex_then ?_
      refine wpc_cond rfl (fun hc75 => ?_) (fun hc75 => ?_)
      ·
       simp only [bne_iff_ne, ne_eq] at hc75
       refine wpc_seq ?_
       refine wpc_region ?_
       refine wpl_q (q_pure rfl) rfl ?_
       refine wpl_q (q_build (cs := [Value.int .i64 0, .int .i64 _]) rfl (built_kr1 _)) rfl ?_
       refine wpl_q (q_ldN Try.underlying27 rfl Try.ti27 rfl LenC.h) rfl ?_
       refine wpl_tp (t_callP3 Try.hb10 rfl fun w h => refTwin s dv pv kv w (by first | exact StS.old h hs | exact ⟨hs.len, h.seenV, h.seenV, h.seenV, by omega, by omega, by omega⟩)) rfl (fun b79 p79 => ?_)
       haveI := OneC.sv p79
       refine wpl_t0 (t_stA Try.ti61 rfl rfl LenC.h OneC.h LenC.h) (fun _ => ?_)
       refine wpl_t0 (t_stA Try.ti27 rfl rfl LenC.h OneC.h LenC.h) (fun _ => ?_)
       refine wpl_nil ?_
       refine ex_then ?_
       refine wpc_ret ?_
       refine ex_then_ret ?_
       refine retv2 (.inl rfl) rfl (rv_agg Try.underlying61 rfl Try.ti61 rfl (fun w h => h.atB) rfl) (rv_agg Try.underlying27 rfl Try.ti27 rfl (fun w h => h.atB) LenC.h) ?_
       exact fun w h => ⟨b79, by rw [sp_bad hdo hc75]; exact p79, by rw [sp_bad hdo hc75]; first | done | rfl, h.below, by rw [sp_bad hdo hc75]; exact h.made SubC.h .nil⟩
      ·
       simp only [bne_eq_false_iff_eq] at hc75
       refine wpc_skip ?_
       refine ex_then ?_
       refine wpc_seq ?_
       refine wpc_drawM [.blk b7 27 _] 4 (by kernel_rfl) (by repeat (first | exact Sub.nil | exact Sub.refl _ | with_reducible refine Sub.keep ?_ | refine Sub.drop ?_)) ?_
       refine wpd_p 0 rfl (by kernel_rfl) trivial (q_pure rfl) rfl (fun w h => .inr (h.sub SubC.h SubC.h)) ?_
       refine wpd_p 1 rfl (by kernel_rfl) trivial (q_build (cs := [Value.int .i64 _, .int .i64 0]) rfl (built_kr0 _)) rfl (fun w h => .inr (h.sub SubC.h SubC.h)) ?_
       refine wpd_q 2 rfl (by kernel_rfl) trivial (q_ldN Try.underlying27 rfl Try.ti27 rfl LenC.h) rfl (fun w h => h.sub SubC.h SubC.h) ?_
       refine wpd_t0 3 rfl (by kernel_rfl) trivial (t_stA Try.ti61 rfl rfl LenC.h OneC.h LenC.h) (fun _ => (fun w h => .inr (h.sub SubC.h SubC.h))) (fun _ => ?_)
       refine wpd_t0 4 rfl (by kernel_rfl) trivial (t_stA Try.ti27 rfl rfl LenC.h OneC.h LenC.h) (fun _ => skk rfl) (fun _ => ?_)
       refine wpd_done (by kernel_rfl) ?_
       refine ex_then ?_
       refine wpc_ret ?_
       refine retv2 (.inl rfl) rfl (rv_agg Try.underlying61 rfl Try.ti61 rfl (fun w h => h.atB) rfl) (rv_agg Try.underlying27 rfl Try.ti27 rfl (fun w h => h.atB) LenC.h) ?_
       exact fun w h => ⟨b45, by rw [sp_ok hdo hc75]; exact p45, by rw [sp_ok hdo hc75]; first | done | rfl, h.below, by rw [sp_ok hdo hc75]; exact h.made SubC.h .nil⟩
     ·
      have hn4 : ¬ x.kd = 4 := by simpa using hc41
      refine wpc_seq ?_
      refine wpc_region ?_
      refine wpl_q (q8_eql (b := (5 : UInt8)) rfl rfl) rfl ?_
      refine wpl_q (q_pure rfl) rfl ?_
      refine wpl_nil ?_
      refine ex_then ?_
      refine wpc_cond rfl (fun hc48 => ?_) (fun hc48 => ?_)
      ·
       have hk : x.kd = 5 := by simpa using hc48
       have hdo := do_5 (s := s) hk
       refine wpc_region ?_
       refine wpl_q (q_ldN Try.underlying27 rfl Try.ti27 rfl LenC.h) rfl ?_
       refine wpl_q (q_field Try.underlying58 rfl Try.ti3 rfl rfl _ rfl) rfl ?_
       refine wpl_q (q_ld Try.underlying3 rfl rfl (by first | exact vns_get (by first | decide | omega | exact Nat.zero_lt_one | (simp; omega) | (simp; done) | (simp only [v8s_length, v32s_length, vis_length, vns_length, v64s_length]; omega)) | rfl)) rfl ?_
       refine wpl_tp (t_callP3 Try.hb14 rfl fun w h => refCrash s dv pv kv x.n w (StS.old h hs)) rfl (fun b54 p54 => ?_)
       haveI := OneC.sv p54
       refine wpl_q (q_pure rfl) rfl ?_
       refine wpl_q (q_pure rfl) rfl ?_
       refine wpl_q (q_pure rfl) rfl ?_
       refine wpl_t0 (t_stA Try.ti27 rfl rfl LenC.h OneC.h LenC.h) (fun _ => ?_)
       refine wpl_q (q_pure rfl) rfl ?_
       refine wpl_nil ?_
       refine ex_block ?_
       refine ex_then ?_
       refine wpc_seq ?_
       refine wpc_seq ?_
       refine wpc_region ?_
       refine wpl_q (q_pure rfl) rfl ?_
       refine wpl_q (q_pure rfl) rfl ?_
       refine wpl_nil ?_
       refine ex_then ?_
       refine wpc_cond rfl (fun hc75 => ?_) (fun hc75 => ?_)
       ·
        simp only [bne_iff_ne, ne_eq] at hc75
        refine wpc_seq ?_
        refine wpc_region ?_
        refine wpl_q (q_pure rfl) rfl ?_
        refine wpl_q (q_build (cs := [Value.int .i64 0, .int .i64 _]) rfl (built_kr1 _)) rfl ?_
        refine wpl_q (q_ldN Try.underlying27 rfl Try.ti27 rfl LenC.h) rfl ?_
        refine wpl_tp (t_callP3 Try.hb10 rfl fun w h => refTwin s dv pv kv w (by first | exact StS.old h hs | exact ⟨hs.len, h.seenV, h.seenV, h.seenV, by omega, by omega, by omega⟩)) rfl (fun b79 p79 => ?_)
        haveI := OneC.sv p79
        refine wpl_t0 (t_stA Try.ti61 rfl rfl LenC.h OneC.h LenC.h) (fun _ => ?_)
        refine wpl_t0 (t_stA Try.ti27 rfl rfl LenC.h OneC.h LenC.h) (fun _ => ?_)
        refine wpl_nil ?_
        refine ex_then ?_
        refine wpc_ret ?_
        refine ex_then_ret ?_
        refine retv2 (.inl rfl) rfl (rv_agg Try.underlying61 rfl Try.ti61 rfl (fun w h => h.atB) rfl) (rv_agg Try.underlying27 rfl Try.ti27 rfl (fun w h => h.atB) LenC.h) ?_
        exact fun w h => ⟨b79, by rw [sp_bad hdo hc75]; exact p79, by rw [sp_bad hdo hc75]; first | done | rfl, h.below, by rw [sp_bad hdo hc75]; exact h.made SubC.h .nil⟩
       ·
        simp only [bne_eq_false_iff_eq] at hc75
        refine wpc_skip ?_
        refine ex_then ?_
        refine wpc_seq ?_
        refine wpc_drawM [.blk b7 27 _] 4 (by kernel_rfl) (by repeat (first | exact Sub.nil | exact Sub.refl _ | with_reducible refine Sub.keep ?_ | refine Sub.drop ?_)) ?_
        refine wpd_p 0 rfl (by kernel_rfl) trivial (q_pure rfl) rfl (fun w h => .inr (h.sub SubC.h SubC.h)) ?_
        refine wpd_p 1 rfl (by kernel_rfl) trivial (q_build (cs := [Value.int .i64 _, .int .i64 0]) rfl (built_kr0 _)) rfl (fun w h => .inr (h.sub SubC.h SubC.h)) ?_
        refine wpd_q 2 rfl (by kernel_rfl) trivial (q_ldN Try.underlying27 rfl Try.ti27 rfl LenC.h) rfl (fun w h => h.sub SubC.h SubC.h) ?_
        refine wpd_t0 3 rfl (by kernel_rfl) trivial (t_stA Try.ti61 rfl rfl LenC.h OneC.h LenC.h) (fun _ => (fun w h => .inr (h.sub SubC.h SubC.h))) (fun _ => ?_)
        refine wpd_t0 4 rfl (by kernel_rfl) trivial (t_stA Try.ti27 rfl rfl LenC.h OneC.h LenC.h) (fun _ => skk rfl) (fun _ => ?_)
        refine wpd_done (by kernel_rfl) ?_
        refine ex_then ?_
        refine wpc_ret ?_
        refine retv2 (.inl rfl) rfl (rv_agg Try.underlying61 rfl Try.ti61 rfl (fun w h => h.atB) rfl) (rv_agg Try.underlying27 rfl Try.ti27 rfl (fun w h => h.atB) LenC.h) ?_
        exact fun w h => ⟨b54, by rw [sp_ok hdo hc75]; exact p54, by rw [sp_ok hdo hc75]; first | done | rfl, h.below, by rw [sp_ok hdo hc75]; exact h.made SubC.h .nil⟩
      ·
       have hn5 : ¬ x.kd = 5 := by simpa using hc48
       refine wpc_seq ?_
       refine wpc_region ?_
       refine wpl_q (q8_eql (b := (6 : UInt8)) rfl rfl) rfl ?_
       refine wpl_q (q_pure rfl) rfl ?_
       refine wpl_nil ?_
       refine ex_then ?_
       refine wpc_cond rfl (fun hc57 => ?_) (fun hc57 => ?_)
       ·
        have hk : x.kd = 6 := by simpa using hc57
        have hdo := do_6 (s := s) hk
        refine wpc_region ?_
        refine wpl_q (q_ldN Try.underlying27 rfl Try.ti27 rfl LenC.h) rfl ?_
        refine wpl_tp (t_callP3 Try.hb16 rfl fun w h => refOpen s dv pv kv  w (StS.old h hs)) rfl (fun b61 p61 => ?_)
        haveI := OneC.sv p61
        refine wpl_q (q_pure rfl) rfl ?_
        refine wpl_q (q_pure rfl) rfl ?_
        refine wpl_q (q_pure rfl) rfl ?_
        refine wpl_t0 (t_stA Try.ti27 rfl rfl LenC.h OneC.h LenC.h) (fun _ => ?_)
        refine wpl_q (q_pure rfl) rfl ?_
        refine wpl_nil ?_
        refine ex_block ?_
        refine ex_then ?_
        refine wpc_seq ?_
        refine wpc_seq ?_
        refine wpc_region ?_
        refine wpl_q (q_pure rfl) rfl ?_
        refine wpl_q (q_pure rfl) rfl ?_
        refine wpl_nil ?_
        refine ex_then ?_
        refine wpc_cond rfl (fun hc75 => ?_) (fun hc75 => ?_)
        ·
         simp only [bne_iff_ne, ne_eq] at hc75
         refine wpc_seq ?_
         refine wpc_region ?_
         refine wpl_q (q_pure rfl) rfl ?_
         refine wpl_q (q_build (cs := [Value.int .i64 0, .int .i64 _]) rfl (built_kr1 _)) rfl ?_
         refine wpl_q (q_ldN Try.underlying27 rfl Try.ti27 rfl LenC.h) rfl ?_
         refine wpl_tp (t_callP3 Try.hb10 rfl fun w h => refTwin s dv pv kv w (by first | exact StS.old h hs | exact ⟨hs.len, h.seenV, h.seenV, h.seenV, by omega, by omega, by omega⟩)) rfl (fun b79 p79 => ?_)
         haveI := OneC.sv p79
         refine wpl_t0 (t_stA Try.ti61 rfl rfl LenC.h OneC.h LenC.h) (fun _ => ?_)
         refine wpl_t0 (t_stA Try.ti27 rfl rfl LenC.h OneC.h LenC.h) (fun _ => ?_)
         refine wpl_nil ?_
         refine ex_then ?_
         refine wpc_ret ?_
         refine ex_then_ret ?_
         refine retv2 (.inl rfl) rfl (rv_agg Try.underlying61 rfl Try.ti61 rfl (fun w h => h.atB) rfl) (rv_agg Try.underlying27 rfl Try.ti27 rfl (fun w h => h.atB) LenC.h) ?_
         exact fun w h => ⟨b79, by rw [sp_bad hdo hc75]; exact p79, by rw [sp_bad hdo hc75]; first | done | rfl, h.below, by rw [sp_bad hdo hc75]; exact h.made SubC.h .nil⟩
        ·
         simp only [bne_eq_false_iff_eq] at hc75
         refine wpc_skip ?_
         refine ex_then ?_
         refine wpc_seq ?_
         refine wpc_drawM [.blk b7 27 _] 4 (by kernel_rfl) (by repeat (first | exact Sub.nil | exact Sub.refl _ | with_reducible refine Sub.keep ?_ | refine Sub.drop ?_)) ?_
         refine wpd_p 0 rfl (by kernel_rfl) trivial (q_pure rfl) rfl (fun w h => .inr (h.sub SubC.h SubC.h)) ?_
         refine wpd_p 1 rfl (by kernel_rfl) trivial (q_build (cs := [Value.int .i64 _, .int .i64 0]) rfl (built_kr0 _)) rfl (fun w h => .inr (h.sub SubC.h SubC.h)) ?_
         refine wpd_q 2 rfl (by kernel_rfl) trivial (q_ldN Try.underlying27 rfl Try.ti27 rfl LenC.h) rfl (fun w h => h.sub SubC.h SubC.h) ?_
         refine wpd_t0 3 rfl (by kernel_rfl) trivial (t_stA Try.ti61 rfl rfl LenC.h OneC.h LenC.h) (fun _ => (fun w h => .inr (h.sub SubC.h SubC.h))) (fun _ => ?_)
         refine wpd_t0 4 rfl (by kernel_rfl) trivial (t_stA Try.ti27 rfl rfl LenC.h OneC.h LenC.h) (fun _ => skk rfl) (fun _ => ?_)
         refine wpd_done (by kernel_rfl) ?_
         refine ex_then ?_
         refine wpc_ret ?_
         refine retv2 (.inl rfl) rfl (rv_agg Try.underlying61 rfl Try.ti61 rfl (fun w h => h.atB) rfl) (rv_agg Try.underlying27 rfl Try.ti27 rfl (fun w h => h.atB) LenC.h) ?_
         exact fun w h => ⟨b61, by rw [sp_ok hdo hc75]; exact p61, by rw [sp_ok hdo hc75]; first | done | rfl, h.below, by rw [sp_ok hdo hc75]; exact h.made SubC.h .nil⟩
       ·
        have hn6 : ¬ x.kd = 6 := by simpa using hc57
        refine wpc_seq ?_
        refine wpc_region ?_
        refine wpl_q (q8_eql (b := (7 : UInt8)) rfl rfl) rfl ?_
        refine wpl_q (q_pure rfl) rfl ?_
        refine wpl_nil ?_
        refine ex_then ?_
        refine wpc_cond rfl (fun hc64 => ?_) (fun hc64 => ?_)
        ·
         have hk : x.kd = 7 := by simpa using hc64
         have hdo := do_7 (s := s) hk
         refine wpc_region ?_
         refine wpl_q (q_ldN Try.underlying27 rfl Try.ti27 rfl LenC.h) rfl ?_
         refine wpl_q (q_field Try.underlying58 rfl Try.ti28 rfl rfl _ rfl) rfl ?_
         refine wpl_q (q_ld Try.underlying28 rfl rfl (by first | exact v32s_get (by first | decide | omega | exact Nat.zero_lt_one | (simp; omega) | (simp; done) | (simp only [v8s_length, v32s_length, vis_length, vns_length, v64s_length]; omega)) | rfl)) rfl ?_
         refine wpl_tp (t_callP3 Try.hb18 rfl fun w h => refTake s dv pv kv x.id w (StS.old h hs)) rfl (fun b70 p70 => ?_)
         haveI := OneC.sv p70
         refine wpl_q (q_pure rfl) rfl ?_
         refine wpl_q (q_pure rfl) rfl ?_
         refine wpl_q (q_pure rfl) rfl ?_
         refine wpl_q (q_pure rfl) rfl ?_
         refine wpl_q (q_pure rfl) rfl ?_
         refine wpl_t0 (t_stA Try.ti27 rfl rfl LenC.h OneC.h LenC.h) (fun _ => ?_)
         refine wpl_q (q_pure rfl) rfl ?_
         refine wpl_nil ?_
         refine ex_block ?_
         refine ex_then ?_
         refine wpc_seq ?_
         refine wpc_seq ?_
         refine wpc_region ?_
         refine wpl_q (q_pure rfl) rfl ?_
         refine wpl_q (q_pure rfl) rfl ?_
         refine wpl_nil ?_
         refine ex_then ?_
         refine wpc_cond rfl (fun hc75 => ?_) (fun hc75 => ?_)
         ·
          simp only [bne_iff_ne, ne_eq] at hc75
          refine wpc_seq ?_
          refine wpc_region ?_
          refine wpl_q (q_pure rfl) rfl ?_
          refine wpl_q (q_build (cs := [Value.int .i64 0, .int .i64 _]) rfl (built_kr1 _)) rfl ?_
          refine wpl_q (q_ldN Try.underlying27 rfl Try.ti27 rfl LenC.h) rfl ?_
          refine wpl_tp (t_callP3 Try.hb10 rfl fun w h => refTwin s dv pv kv w (by first | exact StS.old h hs | exact ⟨hs.len, h.seenV, h.seenV, h.seenV, by omega, by omega, by omega⟩)) rfl (fun b79 p79 => ?_)
          haveI := OneC.sv p79
          refine wpl_t0 (t_stA Try.ti61 rfl rfl LenC.h OneC.h LenC.h) (fun _ => ?_)
          refine wpl_t0 (t_stA Try.ti27 rfl rfl LenC.h OneC.h LenC.h) (fun _ => ?_)
          refine wpl_nil ?_
          refine ex_then ?_
          refine wpc_ret ?_
          refine ex_then_ret ?_
          refine retv2 (.inl rfl) rfl (rv_agg Try.underlying61 rfl Try.ti61 rfl (fun w h => h.atB) rfl) (rv_agg Try.underlying27 rfl Try.ti27 rfl (fun w h => h.atB) LenC.h) ?_
          exact fun w h => ⟨b79, by rw [sp_bad hdo hc75]; exact p79, by rw [sp_bad hdo hc75]; first | done | rfl, h.below, by rw [sp_bad hdo hc75]; exact h.made SubC.h .nil⟩
         ·
          simp only [bne_eq_false_iff_eq] at hc75
          refine wpc_skip ?_
          refine ex_then ?_
          refine wpc_seq ?_
          refine wpc_drawM [.blk b7 27 _] 4 (by kernel_rfl) (by repeat (first | exact Sub.nil | exact Sub.refl _ | with_reducible refine Sub.keep ?_ | refine Sub.drop ?_)) ?_
          refine wpd_p 0 rfl (by kernel_rfl) trivial (q_pure rfl) rfl (fun w h => .inr (h.sub SubC.h SubC.h)) ?_
          refine wpd_p 1 rfl (by kernel_rfl) trivial (q_build (cs := [Value.int .i64 _, .int .i64 0]) rfl (built_kr0 _)) rfl (fun w h => .inr (h.sub SubC.h SubC.h)) ?_
          refine wpd_q 2 rfl (by kernel_rfl) trivial (q_ldN Try.underlying27 rfl Try.ti27 rfl LenC.h) rfl (fun w h => h.sub SubC.h SubC.h) ?_
          refine wpd_t0 3 rfl (by kernel_rfl) trivial (t_stA Try.ti61 rfl rfl LenC.h OneC.h LenC.h) (fun _ => (fun w h => .inr (h.sub SubC.h SubC.h))) (fun _ => ?_)
          refine wpd_t0 4 rfl (by kernel_rfl) trivial (t_stA Try.ti27 rfl rfl LenC.h OneC.h LenC.h) (fun _ => skk rfl) (fun _ => ?_)
          refine wpd_done (by kernel_rfl) ?_
          refine ex_then ?_
          refine wpc_ret ?_
          refine retv2 (.inl rfl) rfl (rv_agg Try.underlying61 rfl Try.ti61 rfl (fun w h => h.atB) rfl) (rv_agg Try.underlying27 rfl Try.ti27 rfl (fun w h => h.atB) LenC.h) ?_
          exact fun w h => ⟨b70, by rw [sp_ok hdo hc75]; exact p70, by rw [sp_ok hdo hc75]; first | done | rfl, h.below, by rw [sp_ok hdo hc75]; exact h.made SubC.h .nil⟩
        ·
         have hn7 : ¬ x.kd = 7 := by simpa using hc64
         have hdo := do_0 (s := s) hn1 hn2 hn3 hn4 hn5 hn6 hn7
         refine wpc_skip ?_
         refine ex_block ?_
         refine ex_then ?_
         refine wpc_seq ?_
         refine wpc_seq ?_
         refine wpc_region ?_
         refine wpl_q (q_pure rfl) rfl ?_
         refine wpl_q (q_pure rfl) rfl ?_
         refine wpl_nil ?_
         refine ex_then ?_
         refine wpc_cond rfl (fun hc75 => ?_) (fun hc75 => ?_)
         ·
          simp only [bne_iff_ne, ne_eq] at hc75
          refine wpc_seq ?_
          refine wpc_region ?_
          refine wpl_q (q_pure rfl) rfl ?_
          refine wpl_q (q_build (cs := [Value.int .i64 0, .int .i64 _]) rfl (built_kr1 _)) rfl ?_
          refine wpl_q (q_ldN Try.underlying27 rfl Try.ti27 rfl LenC.h) rfl ?_
          refine wpl_tp (t_callP3 Try.hb10 rfl fun w h => refTwin s dv pv kv w (by first | exact StS.old h hs | exact ⟨hs.len, h.seenV, h.seenV, h.seenV, by omega, by omega, by omega⟩)) rfl (fun b79 p79 => ?_)
          haveI := OneC.sv p79
          refine wpl_t0 (t_stA Try.ti61 rfl rfl LenC.h OneC.h LenC.h) (fun _ => ?_)
          refine wpl_t0 (t_stA Try.ti27 rfl rfl LenC.h OneC.h LenC.h) (fun _ => ?_)
          refine wpl_nil ?_
          refine ex_then ?_
          refine wpc_ret ?_
          refine ex_then_ret ?_
          refine retv2 (.inl rfl) rfl (rv_agg Try.underlying61 rfl Try.ti61 rfl (fun w h => h.atB) rfl) (rv_agg Try.underlying27 rfl Try.ti27 rfl (fun w h => h.atB) LenC.h) ?_
          exact fun w h => ⟨b79, by rw [sp_bad hdo hc75]; exact p79, by rw [sp_bad hdo hc75]; first | done | rfl, h.below, by rw [sp_bad hdo hc75]; exact h.made SubC.h .nil⟩
         ·
          simp only [bne_eq_false_iff_eq] at hc75
          refine wpc_skip ?_
          refine ex_then ?_
          refine wpc_seq ?_
          refine wpc_drawM [.blk b7 27 _] 4 (by kernel_rfl) (by repeat (first | exact Sub.nil | exact Sub.refl _ | with_reducible refine Sub.keep ?_ | refine Sub.drop ?_)) ?_
          refine wpd_p 0 rfl (by kernel_rfl) trivial (q_pure rfl) rfl (fun w h => .inr (h.sub SubC.h SubC.h)) ?_
          refine wpd_p 1 rfl (by kernel_rfl) trivial (q_build (cs := [Value.int .i64 _, .int .i64 0]) rfl (built_kr0 _)) rfl (fun w h => .inr (h.sub SubC.h SubC.h)) ?_
          refine wpd_q 2 rfl (by kernel_rfl) trivial (q_ldN Try.underlying27 rfl Try.ti27 rfl LenC.h) rfl (fun w h => h.sub SubC.h SubC.h) ?_
          refine wpd_t0 3 rfl (by kernel_rfl) trivial (t_stA Try.ti61 rfl rfl LenC.h OneC.h LenC.h) (fun _ => (fun w h => .inr (h.sub SubC.h SubC.h))) (fun _ => ?_)
          refine wpd_t0 4 rfl (by kernel_rfl) trivial (t_stA Try.ti27 rfl rfl LenC.h OneC.h LenC.h) (fun _ => skk rfl) (fun _ => ?_)
          refine wpd_done (by kernel_rfl) ?_
          refine ex_then ?_
          refine wpc_ret ?_
          refine retv2 (.inl rfl) rfl (rv_agg Try.underlying61 rfl Try.ti61 rfl (fun w h => h.atB) rfl) (rv_agg Try.underlying27 rfl Try.ti27 rfl (fun w h => h.atB) LenC.h) ?_
          exact absurd hc75 (by decide)

end Go.Proofs.Ytoaeklbenmlooaa
