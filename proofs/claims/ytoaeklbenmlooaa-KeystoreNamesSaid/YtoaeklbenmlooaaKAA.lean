/- A step of a script. -/
import Derived.Test.YtoaeklbenmlooaaKZ
import Derived.Test.YtoaeklbenmlooaaPLL
namespace Go.Proofs.Ytoaeklbenmlooaa
set_option linter.unusedSimpArgs false
set_option linter.unusedVariables false
open Go Go.PL Go.RowKit

class L32 (s : St) : Prop where
  h : s.ms.length = 32
instance l32_z : L32 St.z := ⟨rfl⟩
instance l32_c {s : St} {id : UInt32} {ht : Int} [h : L32 s] : L32 (createF s id ht).1 := ⟨createF_len h.h⟩
instance l32_r {s : St} {id : UInt32} [h : L32 s] : L32 (reserveF s id).1 := ⟨reserveF_len h.h⟩
instance l32_d {s : St} {id : UInt32} [h : L32 s] : L32 (dropF s id).1 := ⟨dropF_len h.h⟩
instance l32_s {s : St} [h : L32 s] : L32 (syncF s).1 := ⟨syncF_len h.h⟩
instance l32_x {s : St} {k : Int} [h : L32 s] : L32 (crashF s k).1 := ⟨crashF_len h.h⟩
instance l32_o {s : St} [h : L32 s] : L32 (openF s).1 := ⟨openF_len h.h⟩
instance l32_t {s : St} {id : UInt32} [h : L32 s] : L32 (takeF s id).2.1 := ⟨takeF_len h.h⟩
theorem St.c_lenC {s : St} {dv pv kv : Value} [h : L32 s] : (s.c dv pv kv).length = 37 := St.c_length h.h
instance lenC_st {s : St} {dv pv kv : Value} [h : L32 s] : LenC (s.c dv pv kv) 37 := ⟨St.c_length h.h⟩
instance oneC_z {s : St} : OneC (s.c nl nl nl) := ⟨St.c_one SV.nil SV.nil SV.nil⟩
theorem OneC.sv {s : St} {x : V3} (h : s.sv x) : OneC (s.c x.1 x.2.1 x.2.2) := ⟨St.c_one h.1 h.2.1 h.2.2⟩
/-- A step of a script. -/
structure Stp where
  kd : UInt8
  id : UInt32
  n : Int
def Stp.c (x : Stp) : List Value := [.int .u8 (x.kd.toNat : Int), .int .u32 (x.id.toNat : Int), .int .i64 x.n]
/-- What a step does, before its error is looked at. -/
def doF (s : St) (x : Stp) : Int × St × Int :=
  if x.kd = 1 then (0, createF s x.id x.n) else if x.kd = 2 then (0, reserveF s x.id) else if x.kd = 3 then (0, dropF s x.id) else if x.kd = 4 then (0, syncF s)
  else if x.kd = 5 then (0, crashF s x.n) else if x.kd = 6 then (0, openF s) else if x.kd = 7 then takeF s x.id else (0, St.z, 2)
def stepF (s : St) (x : Stp) : Int × St × Int := if ¬ (doF s x).2.2 = 0 then (0, s, (doF s x).2.2) else ((doF s x).1, (doF s x).2.1, 0)
theorem sp_bad {s : St} {x : Stp} {r : Int × St × Int} (h : doF s x = r) (h2 : ¬ r.2.2 = 0) : stepF s x = (0, s, r.2.2) := by unfold stepF; rw [h, if_pos h2]
theorem sp_ok {s : St} {x : Stp} {r : Int × St × Int} (h : doF s x = r) (h2 : r.2.2 = 0) : stepF s x = (r.1, r.2.1, 0) := by unfold stepF; rw [h, if_neg (fun hh => hh h2)]
theorem do_1 {s : St} {x : Stp} (h : x.kd = 1) : doF s x = (0, createF s x.id x.n) := if_pos h
theorem do_2 {s : St} {x : Stp} (h : x.kd = 2) : doF s x = (0, reserveF s x.id) := by unfold doF; rw [h]; rfl
theorem do_3 {s : St} {x : Stp} (h : x.kd = 3) : doF s x = (0, dropF s x.id) := by unfold doF; rw [h]; rfl
theorem do_4 {s : St} {x : Stp} (h : x.kd = 4) : doF s x = (0, syncF s) := by unfold doF; rw [h]; rfl
theorem do_5 {s : St} {x : Stp} (h : x.kd = 5) : doF s x = (0, crashF s x.n) := by unfold doF; rw [h]; rfl
theorem do_6 {s : St} {x : Stp} (h : x.kd = 6) : doF s x = (0, openF s) := by unfold doF; rw [h]; rfl
theorem do_7 {s : St} {x : Stp} (h : x.kd = 7) : doF s x = takeF s x.id := by unfold doF; rw [h]; rfl
theorem do_0 {s : St} {x : Stp} (h1 : ¬ x.kd = 1) (h2 : ¬ x.kd = 2) (h3 : ¬ x.kd = 3) (h4 : ¬ x.kd = 4) (h5 : ¬ x.kd = 5) (h6 : ¬ x.kd = 6) (h7 : ¬ x.kd = 7) : doF s x = (0, St.z, 2) := by
  unfold doF; rw [if_neg h1, if_neg h2, if_neg h3, if_neg h4, if_neg h5, if_neg h6, if_neg h7]
instance lenC_stp {x : Stp} : LenC x.c 3 := ⟨rfl⟩
instance oneC_stp {x : Stp} : OneC x.c := ⟨by intro u hu; simp only [Stp.c, List.mem_cons, List.not_mem_nil, or_false] at hu; rcases hu with rfl | rfl | rfl <;> rfl⟩
theorem op_up {s : St} (h : (openF s).2 = 0) : upF s false = 0 := by
  by_cases hh : upF s false = 0
  · exact hh
  · rw [op1 hh] at h; exact h
theorem mid_swap {w0 w : World} {Ln : List Nat} {a b c : Ent} {S : List Fact} (h : Mem w0 Ln [a, b, c] S w) : Mem w0 Ln [a, c, b] S w := h.perm (List.Perm.cons a (List.Perm.swap c b []))

set_option maxRecDepth 100000 in
theorem step_ (s : St) (dv pv kv : Value) (x : Stp) (w : World) (hb : Mem w (nums [dRow dv s.dk, dRow pv s.pd, kRow kv s.ks]) [dRow dv s.dk, dRow pv s.pd, kRow kv s.ks] [] w) (hlen : s.ms.length = 32) (hsv : s.sv (dv, pv, kv)) (hld : s.dk.length ≤ 1200) (hlp : s.pd.length ≤ 1200) (hlk : s.ks.length ≤ 30)  :
    Calls Try.prog 55 [.agg (s.c dv pv kv).toArray, .agg x.c.toArray].toArray w (GivesA w [dRow dv s.dk, dRow pv s.pd, kRow kv s.ks] (fun v : V3 => (stepF s x).2.1.sv v) (fun v => .tuple #[.int .i64 (stepF s x).1, stV (stepF s x).2.1 v, .int .i64 (stepF s x).2.2]) (fun v => [dRow v.1 (stepF s x).2.1.dk, dRow v.2.1 (stepF s x).2.1.pd, kRow v.2.2 (stepF s x).2.1.ks])) := by
  have sdv : SV dv s.dk.length := hsv.1
  have spv : SV pv s.pd.length := hsv.2.1
  have skv : SV kv s.ks.length := hsv.2.2
  haveI : L32 s := ⟨hlen⟩
  haveI : OneC (s.c dv pv kv) := ⟨St.c_one sdv spv skv⟩
  refine enter (m := 77) (R := Mem w (nums [dRow dv s.dk, dRow pv s.pd, kRow kv s.ks]) [dRow dv s.dk, dRow pv s.pd, kRow kv s.ks] []) Try.func55 rfl rfl (Nat.le_of_ble_eq_true rfl) hb ?_
  refine wpc_seq ?_
  refine wpc_region ?_
  refine wpl_t (t_box rfl (s.c dv pv kv) rfl) rfl (fun b2 => ?_)
  refine wpl_t (t_box rfl x.c rfl) rfl (fun b3 => ?_)
  refine wpl_q (q_pure rfl) rfl ?_
  refine wpl_t (t_alloc Try.ti27 (St.z.c nl nl nl) rfl) rfl (fun b5 => ?_)
  refine wpl_q (q_pure rfl) rfl ?_
  refine wpl_nil ?_
  refine ex_then ?_
  refine wpc_seq ?_
  refine wpc_seq ?_
  refine wpc_region ?_
  refine wpl_q (q_field Try.underlying58 rfl Try.ti5 rfl rfl _ rfl) rfl ?_
  refine wpl_q (q_ld Try.underlying5 rfl rfl (by first | exact v8s_get (by first | decide | omega | exact Nat.zero_lt_one | (simp; omega) | (simp; done) | (simp only [v8s_length, v32s_length, vis_length, vns_length, v64s_length]; omega)) | rfl)) rfl ?_
  refine wpl_nil ?_
  refine ex_then ?_
  refine wpc_block ?_
  refine wpc_seq ?_
  refine wpc_region ?_
  refine wpl_q (q8_eql (b := (1 : UInt8)) rfl rfl) rfl ?_
  refine wpl_q (q_pure rfl) rfl ?_
  refine wpl_nil ?_
  refine ex_then ?_
  refine wpc_cond rfl (fun hc9 => ?_) (fun hc9 => ?_)
  ·
   have hk : x.kd = 1 := by simpa using hc9
   have hdo := do_1 (s := s) hk
   refine wpc_region ?_
   refine wpl_q (q_ldN Try.underlying27 rfl Try.ti27 rfl LenC.h) rfl ?_
   refine wpl_q (q_field Try.underlying58 rfl Try.ti28 rfl rfl _ rfl) rfl ?_
   refine wpl_q (q_ld Try.underlying28 rfl rfl (by first | exact v32s_get (by first | decide | omega | exact Nat.zero_lt_one | (simp; omega) | (simp; done) | (simp only [v8s_length, v32s_length, vis_length, vns_length, v64s_length]; omega)) | rfl)) rfl ?_
   refine wpl_q (q_field Try.underlying58 rfl Try.ti3 rfl rfl _ rfl) rfl ?_
   refine wpl_q (q_ld Try.underlying3 rfl rfl (by first | exact vns_get (by first | decide | omega | exact Nat.zero_lt_one | (simp; omega) | (simp; done) | (simp only [v8s_length, v32s_length, vis_length, vns_length, v64s_length]; omega)) | rfl)) rfl ?_
   refine wpl_tp (t_callP3 Try.hb21 rfl fun w h => create s dv pv kv x.id x.n w ⟨hlen, h.seenV, h.seenV, h.seenV, hld, hlp, hlk⟩) rfl (fun b17 p17 => ?_)
   haveI := OneC.sv p17
   refine wpl_q (q_pure rfl) rfl ?_
   refine wpl_q (q_pure rfl) rfl ?_
   refine wpl_q (q_pure rfl) rfl ?_
   refine wpl_t0 (t_stA Try.ti27 rfl rfl LenC.h OneC.h LenC.h) (fun _ => ?_)
   refine wpl_q (q_pure rfl) rfl ?_
   refine wpl_nil ?_
   refine ex_block ?_
   refine ex_then ?_
   refine wpc_seq ?_
   refine wpc_seq ?_
   refine wpc_region ?_
   refine wpl_q (q_pure rfl) rfl ?_
   refine wpl_q (q_pure rfl) rfl ?_
   refine wpl_nil ?_
   refine ex_then ?_
   refine wpc_cond rfl (fun hc72 => ?_) (fun hc72 => ?_)
   ·
    simp only [bne_iff_ne, ne_eq] at hc72
    refine wpc_seq ?_
    refine wpc_draw 3 (by kernel_rfl) (fun _ h => h.drew) ?_
    refine wpd_q 0 rfl (by kernel_rfl) trivial (q_ldN Try.underlying27 rfl Try.ti27 rfl LenC.h) rfl (fun _ h => h) ?_
    refine wpd_p 1 rfl (by kernel_rfl) trivial (q_pure rfl) rfl sk0 ?_
    refine wpd_p 2 rfl (by kernel_rfl) trivial (q_pure rfl) rfl sk0 ?_
    refine wpd_t0 3 rfl (by kernel_rfl) trivial (t_stA Try.ti27 rfl rfl LenC.h OneC.h LenC.h) (fun _ => skk rfl) (fun _ => ?_)
    refine wpd_p 4 rfl (by kernel_rfl) trivial (q_pure rfl) rfl (skk rfl) ?_
    refine wpd_done (by kernel_rfl) ?_
    refine ex_then ?_
    refine wpc_ret ?_
    refine ex_then_ret ?_
    refine retv3 (.inl rfl) rfl (rv_tmp rfl) (rv_agg Try.underlying27 rfl Try.ti27 rfl (fun w h => h.atB) LenC.h) (rv_tmp rfl) ?_
    exact fun w h => ⟨(dv, pv, kv), by rw [sp_bad hdo hc72]; exact hsv, by rw [sp_bad hdo hc72]; first | done | rfl, by rw [sp_bad hdo hc72]; exact h.sub SubC.h .nil⟩
   ·
    simp only [bne_eq_false_iff_eq] at hc72
    refine wpc_skip ?_
    refine ex_then ?_
    refine wpc_seq ?_
    refine wpc_draw 3 (by kernel_rfl) (fun _ h => h.drew) ?_
    refine wpd_p 0 rfl (by kernel_rfl) trivial (q_pure rfl) rfl sk0 ?_
    refine wpd_q 1 rfl (by kernel_rfl) trivial (q_ldN Try.underlying27 rfl Try.ti27 rfl LenC.h) rfl (fun _ h => h) ?_
    refine wpd_p 2 rfl (by kernel_rfl) trivial (q_pure rfl) rfl sk0 ?_
    refine wpd_t0 3 rfl (by kernel_rfl) trivial (t_stA Try.ti27 rfl rfl LenC.h OneC.h LenC.h) (fun _ => skk rfl) (fun _ => ?_)
    refine wpd_p 4 rfl (by kernel_rfl) trivial (q_pure rfl) rfl (skk rfl) ?_
    refine wpd_done (by kernel_rfl) ?_
    refine ex_then ?_
    refine wpc_ret ?_
    refine retv3 (.inl rfl) rfl (rv_tmp rfl) (rv_agg Try.underlying27 rfl Try.ti27 rfl (fun w h => h.atB) LenC.h) (rv_tmp rfl) ?_
    exact fun w h => ⟨b17, by rw [sp_ok hdo hc72]; exact p17, by rw [sp_ok hdo hc72]; first | done | rfl, by rw [sp_ok hdo hc72]; exact h.sub SubC.h .nil⟩
  ·
   have hn1 : ¬ x.kd = 1 := by simpa using hc9
   refine wpc_seq ?_
   refine wpc_region ?_
   refine wpl_q (q8_eql (b := (2 : UInt8)) rfl rfl) rfl ?_
   refine wpl_q (q_pure rfl) rfl ?_
   refine wpl_nil ?_
   refine ex_then ?_
   refine wpc_cond rfl (fun hc20 => ?_) (fun hc20 => ?_)
   ·
    have hk : x.kd = 2 := by simpa using hc20
    have hdo := do_2 (s := s) hk
    refine wpc_region ?_
    refine wpl_q (q_ldN Try.underlying27 rfl Try.ti27 rfl LenC.h) rfl ?_
    refine wpl_q (q_field Try.underlying58 rfl Try.ti28 rfl rfl _ rfl) rfl ?_
    refine wpl_q (q_ld Try.underlying28 rfl rfl (by first | exact v32s_get (by first | decide | omega | exact Nat.zero_lt_one | (simp; omega) | (simp; done) | (simp only [v8s_length, v32s_length, vis_length, vns_length, v64s_length]; omega)) | rfl)) rfl ?_
    refine wpl_tp (t_callP3 Try.hb23 rfl fun w h => reserve s dv pv kv x.id w ⟨hlen, h.seenV, h.seenV, h.seenV, hld, hlp, hlk⟩) rfl (fun b26 p26 => ?_)
    haveI := OneC.sv p26
    refine wpl_q (q_pure rfl) rfl ?_
    refine wpl_q (q_pure rfl) rfl ?_
    refine wpl_q (q_pure rfl) rfl ?_
    refine wpl_t0 (t_stA Try.ti27 rfl rfl LenC.h OneC.h LenC.h) (fun _ => ?_)
    refine wpl_q (q_pure rfl) rfl ?_
    refine wpl_nil ?_
    refine ex_block ?_
    refine ex_then ?_
    refine wpc_seq ?_
    refine wpc_seq ?_
    refine wpc_region ?_
    refine wpl_q (q_pure rfl) rfl ?_
    refine wpl_q (q_pure rfl) rfl ?_
    refine wpl_nil ?_
    refine ex_then ?_
    refine wpc_cond rfl (fun hc72 => ?_) (fun hc72 => ?_)
    ·
     simp only [bne_iff_ne, ne_eq] at hc72
     refine wpc_seq ?_
     refine wpc_draw 3 (by kernel_rfl) (fun _ h => h.drew) ?_
     refine wpd_q 0 rfl (by kernel_rfl) trivial (q_ldN Try.underlying27 rfl Try.ti27 rfl LenC.h) rfl (fun _ h => h) ?_
     refine wpd_p 1 rfl (by kernel_rfl) trivial (q_pure rfl) rfl sk0 ?_
     refine wpd_p 2 rfl (by kernel_rfl) trivial (q_pure rfl) rfl sk0 ?_
     refine wpd_t0 3 rfl (by kernel_rfl) trivial (t_stA Try.ti27 rfl rfl LenC.h OneC.h LenC.h) (fun _ => skk rfl) (fun _ => ?_)
     refine wpd_p 4 rfl (by kernel_rfl) trivial (q_pure rfl) rfl (skk rfl) ?_
     refine wpd_done (by kernel_rfl) ?_
     refine ex_then ?_
     refine wpc_ret ?_
     refine ex_then_ret ?_
     refine retv3 (.inl rfl) rfl (rv_tmp rfl) (rv_agg Try.underlying27 rfl Try.ti27 rfl (fun w h => h.atB) LenC.h) (rv_tmp rfl) ?_
     exact fun w h => ⟨(dv, pv, kv), by rw [sp_bad hdo hc72]; exact hsv, by rw [sp_bad hdo hc72]; first | done | rfl, by rw [sp_bad hdo hc72]; exact h.sub SubC.h .nil⟩
    ·
     simp only [bne_eq_false_iff_eq] at hc72
     refine wpc_skip ?_
     refine ex_then ?_
     refine wpc_seq ?_
     refine wpc_draw 3 (by kernel_rfl) (fun _ h => h.drew) ?_
     refine wpd_p 0 rfl (by kernel_rfl) trivial (q_pure rfl) rfl sk0 ?_
     refine wpd_q 1 rfl (by kernel_rfl) trivial (q_ldN Try.underlying27 rfl Try.ti27 rfl LenC.h) rfl (fun _ h => h) ?_
     refine wpd_p 2 rfl (by kernel_rfl) trivial (q_pure rfl) rfl sk0 ?_
     refine wpd_t0 3 rfl (by kernel_rfl) trivial (t_stA Try.ti27 rfl rfl LenC.h OneC.h LenC.h) (fun _ => skk rfl) (fun _ => ?_)
     refine wpd_p 4 rfl (by kernel_rfl) trivial (q_pure rfl) rfl (skk rfl) ?_
     refine wpd_done (by kernel_rfl) ?_
     refine ex_then ?_
     refine wpc_ret ?_
     refine retv3 (.inl rfl) rfl (rv_tmp rfl) (rv_agg Try.underlying27 rfl Try.ti27 rfl (fun w h => h.atB) LenC.h) (rv_tmp rfl) ?_
     exact fun w h => ⟨b26, by rw [sp_ok hdo hc72]; exact p26, by rw [sp_ok hdo hc72]; first | done | rfl, by rw [sp_ok hdo hc72]; exact h.sub SubC.h .nil⟩
   ·
    have hn2 : ¬ x.kd = 2 := by simpa using hc20
    refine wpc_seq ?_
    refine wpc_region ?_
    refine wpl_q (q8_eql (b := (3 : UInt8)) rfl rfl) rfl ?_
    refine wpl_q (q_pure rfl) rfl ?_
    refine wpl_nil ?_
    refine ex_then ?_
    refine wpc_cond rfl (fun hc29 => ?_) (fun hc29 => ?_)
    ·
     have hk : x.kd = 3 := by simpa using hc29
     have hdo := do_3 (s := s) hk
     refine wpc_region ?_
     refine wpl_q (q_ldN Try.underlying27 rfl Try.ti27 rfl LenC.h) rfl ?_
     refine wpl_q (q_field Try.underlying58 rfl Try.ti28 rfl rfl _ rfl) rfl ?_
     refine wpl_q (q_ld Try.underlying28 rfl rfl (by first | exact v32s_get (by first | decide | omega | exact Nat.zero_lt_one | (simp; omega) | (simp; done) | (simp only [v8s_length, v32s_length, vis_length, vns_length, v64s_length]; omega)) | rfl)) rfl ?_
     refine wpl_tp (t_callP3 Try.hb25 rfl fun w h => drop_ s dv pv kv x.id w ⟨hlen, h.seenV, h.seenV, h.seenV, hld, hlp, hlk⟩) rfl (fun b35 p35 => ?_)
     haveI := OneC.sv p35
     refine wpl_q (q_pure rfl) rfl ?_
     refine wpl_q (q_pure rfl) rfl ?_
     refine wpl_q (q_pure rfl) rfl ?_
     refine wpl_t0 (t_stA Try.ti27 rfl rfl LenC.h OneC.h LenC.h) (fun _ => ?_)
     refine wpl_q (q_pure rfl) rfl ?_
     refine wpl_nil ?_
     refine ex_block ?_
     refine ex_then ?_
     refine wpc_seq ?_
     refine wpc_seq ?_
     refine wpc_region ?_
     refine wpl_q (q_pure rfl) rfl ?_
     refine wpl_q (q_pure rfl) rfl ?_
     refine wpl_nil ?_
     refine ex_then ?_
     refine wpc_cond rfl (fun hc72 => ?_) (fun hc72 => ?_)
     ·
      simp only [bne_iff_ne, ne_eq] at hc72
      refine wpc_seq ?_
      refine wpc_draw 3 (by kernel_rfl) (fun _ h => h.drew) ?_
      refine wpd_q 0 rfl (by kernel_rfl) trivial (q_ldN Try.underlying27 rfl Try.ti27 rfl LenC.h) rfl (fun _ h => h) ?_
      refine wpd_p 1 rfl (by kernel_rfl) trivial (q_pure rfl) rfl sk0 ?_
      refine wpd_p 2 rfl (by kernel_rfl) trivial (q_pure rfl) rfl sk0 ?_
      refine wpd_t0 3 rfl (by kernel_rfl) trivial (t_stA Try.ti27 rfl rfl LenC.h OneC.h LenC.h) (fun _ => skk rfl) (fun _ => ?_)
      refine wpd_p 4 rfl (by kernel_rfl) trivial (q_pure rfl) rfl (skk rfl) ?_
      refine wpd_done (by kernel_rfl) ?_
      refine ex_then ?_
      refine wpc_ret ?_
      refine ex_then_ret ?_
      refine retv3 (.inl rfl) rfl (rv_tmp rfl) (rv_agg Try.underlying27 rfl Try.ti27 rfl (fun w h => h.atB) LenC.h) (rv_tmp rfl) ?_
      exact fun w h => ⟨(dv, pv, kv), by rw [sp_bad hdo hc72]; exact hsv, by rw [sp_bad hdo hc72]; first | done | rfl, by rw [sp_bad hdo hc72]; exact h.sub SubC.h .nil⟩
     ·
      simp only [bne_eq_false_iff_eq] at hc72
      refine wpc_skip ?_
      refine ex_then ?_
      refine wpc_seq ?_
      refine wpc_draw 3 (by kernel_rfl) (fun _ h => h.drew) ?_
      refine wpd_p 0 rfl (by kernel_rfl) trivial (q_pure rfl) rfl sk0 ?_
      refine wpd_q 1 rfl (by kernel_rfl) trivial (q_ldN Try.underlying27 rfl Try.ti27 rfl LenC.h) rfl (fun _ h => h) ?_
      refine wpd_p 2 rfl (by kernel_rfl) trivial (q_pure rfl) rfl sk0 ?_
      refine wpd_t0 3 rfl (by kernel_rfl) trivial (t_stA Try.ti27 rfl rfl LenC.h OneC.h LenC.h) (fun _ => skk rfl) (fun _ => ?_)
      refine wpd_p 4 rfl (by kernel_rfl) trivial (q_pure rfl) rfl (skk rfl) ?_
      refine wpd_done (by kernel_rfl) ?_
      refine ex_then ?_
      refine wpc_ret ?_
      refine retv3 (.inl rfl) rfl (rv_tmp rfl) (rv_agg Try.underlying27 rfl Try.ti27 rfl (fun w h => h.atB) LenC.h) (rv_tmp rfl) ?_
      exact fun w h => ⟨b35, by rw [sp_ok hdo hc72]; exact p35, by rw [sp_ok hdo hc72]; first | done | rfl, by rw [sp_ok hdo hc72]; exact h.sub SubC.h .nil⟩
    ·
     have hn3 : ¬ x.kd = 3 := by simpa using hc29
     refine wpc_seq ?_
     refine wpc_region ?_
     refine wpl_q (q8_eql (b := (4 : UInt8)) rfl rfl) rfl ?_
     refine wpl_q (q_pure rfl) rfl ?_
     refine wpl_nil ?_
     refine ex_then ?_
     refine wpc_cond rfl (fun hc38 => ?_) (fun hc38 => ?_)
     ·
      have hk : x.kd = 4 := by simpa using hc38
      have hdo := do_4 (s := s) hk
      refine wpc_region ?_
      refine wpl_q (q_ldN Try.underlying27 rfl Try.ti27 rfl LenC.h) rfl ?_
      refine wpl_tp (t_callP3 Try.hb11 rfl fun w h => sync s dv pv kv  w ⟨hlen, h.seenV, h.seenV, h.seenV, hld, hlp, hlk⟩) rfl (fun b42 p42 => ?_)
      haveI := OneC.sv p42
      refine wpl_q (q_pure rfl) rfl ?_
      refine wpl_q (q_pure rfl) rfl ?_
      refine wpl_q (q_pure rfl) rfl ?_
      refine wpl_t0 (t_stA Try.ti27 rfl rfl LenC.h OneC.h LenC.h) (fun _ => ?_)
      refine wpl_q (q_pure rfl) rfl ?_
      refine wpl_nil ?_
      refine ex_block ?_
      refine ex_then ?_
      refine wpc_seq ?_
      refine wpc_seq ?_
      refine wpc_region ?_
      refine wpl_q (q_pure rfl) rfl ?_
      refine wpl_q (q_pure rfl) rfl ?_
      refine wpl_nil ?_
      refine ex_then ?_
      refine wpc_cond rfl (fun hc72 => ?_) (fun hc72 => ?_)
      ·
       simp only [bne_iff_ne, ne_eq] at hc72
       refine wpc_seq ?_
       refine wpc_draw 3 (by kernel_rfl) (fun _ h => h.drew) ?_
       refine wpd_q 0 rfl (by kernel_rfl) trivial (q_ldN Try.underlying27 rfl Try.ti27 rfl LenC.h) rfl (fun _ h => h) ?_
       refine wpd_p 1 rfl (by kernel_rfl) trivial (q_pure rfl) rfl sk0 ?_
       refine wpd_p 2 rfl (by kernel_rfl) trivial (q_pure rfl) rfl sk0 ?_
       refine wpd_t0 3 rfl (by kernel_rfl) trivial (t_stA Try.ti27 rfl rfl LenC.h OneC.h LenC.h) (fun _ => skk rfl) (fun _ => ?_)
       refine wpd_p 4 rfl (by kernel_rfl) trivial (q_pure rfl) rfl (skk rfl) ?_
       refine wpd_done (by kernel_rfl) ?_
       refine ex_then ?_
       refine wpc_ret ?_
       refine ex_then_ret ?_
       refine retv3 (.inl rfl) rfl (rv_tmp rfl) (rv_agg Try.underlying27 rfl Try.ti27 rfl (fun w h => h.atB) LenC.h) (rv_tmp rfl) ?_
       exact fun w h => ⟨(dv, pv, kv), by rw [sp_bad hdo hc72]; exact hsv, by rw [sp_bad hdo hc72]; first | done | rfl, by rw [sp_bad hdo hc72]; exact h.sub SubC.h .nil⟩
      ·
       simp only [bne_eq_false_iff_eq] at hc72
       refine wpc_skip ?_
       refine ex_then ?_
       refine wpc_seq ?_
       refine wpc_draw 3 (by kernel_rfl) (fun _ h => h.drew) ?_
       refine wpd_p 0 rfl (by kernel_rfl) trivial (q_pure rfl) rfl sk0 ?_
       refine wpd_q 1 rfl (by kernel_rfl) trivial (q_ldN Try.underlying27 rfl Try.ti27 rfl LenC.h) rfl (fun _ h => h) ?_
       refine wpd_p 2 rfl (by kernel_rfl) trivial (q_pure rfl) rfl sk0 ?_
       refine wpd_t0 3 rfl (by kernel_rfl) trivial (t_stA Try.ti27 rfl rfl LenC.h OneC.h LenC.h) (fun _ => skk rfl) (fun _ => ?_)
       refine wpd_p 4 rfl (by kernel_rfl) trivial (q_pure rfl) rfl (skk rfl) ?_
       refine wpd_done (by kernel_rfl) ?_
       refine ex_then ?_
       refine wpc_ret ?_
       refine retv3 (.inl rfl) rfl (rv_tmp rfl) (rv_agg Try.underlying27 rfl Try.ti27 rfl (fun w h => h.atB) LenC.h) (rv_tmp rfl) ?_
       exact fun w h => ⟨b42, by rw [sp_ok hdo hc72]; exact p42, by rw [sp_ok hdo hc72]; first | done | rfl, by rw [sp_ok hdo hc72]; exact h.sub SubC.h .nil⟩
     ·
      have hn4 : ¬ x.kd = 4 := by simpa using hc38
      refine wpc_seq ?_
      refine wpc_region ?_
      refine wpl_q (q8_eql (b := (5 : UInt8)) rfl rfl) rfl ?_
      refine wpl_q (q_pure rfl) rfl ?_
      refine wpl_nil ?_
      refine ex_then ?_
      refine wpc_cond rfl (fun hc45 => ?_) (fun hc45 => ?_)
      ·
       have hk : x.kd = 5 := by simpa using hc45
       have hdo := do_5 (s := s) hk
       refine wpc_region ?_
       refine wpl_q (q_ldN Try.underlying27 rfl Try.ti27 rfl LenC.h) rfl ?_
       refine wpl_q (q_field Try.underlying58 rfl Try.ti3 rfl rfl _ rfl) rfl ?_
       refine wpl_q (q_ld Try.underlying3 rfl rfl (by first | exact vns_get (by first | decide | omega | exact Nat.zero_lt_one | (simp; omega) | (simp; done) | (simp only [v8s_length, v32s_length, vis_length, vns_length, v64s_length]; omega)) | rfl)) rfl ?_
       refine wpl_tp (t_callP3 Try.hb13 rfl fun w h => crash s dv pv kv x.n w ⟨hlen, h.seenV, h.seenV, h.seenV, hld, hlp, hlk⟩) rfl (fun b51 p51 => ?_)
       haveI := OneC.sv p51
       refine wpl_q (q_pure rfl) rfl ?_
       refine wpl_q (q_pure rfl) rfl ?_
       refine wpl_q (q_pure rfl) rfl ?_
       refine wpl_t0 (t_stA Try.ti27 rfl rfl LenC.h OneC.h LenC.h) (fun _ => ?_)
       refine wpl_q (q_pure rfl) rfl ?_
       refine wpl_nil ?_
       refine ex_block ?_
       refine ex_then ?_
       refine wpc_seq ?_
       refine wpc_seq ?_
       refine wpc_region ?_
       refine wpl_q (q_pure rfl) rfl ?_
       refine wpl_q (q_pure rfl) rfl ?_
       refine wpl_nil ?_
       refine ex_then ?_
       refine wpc_cond rfl (fun hc72 => ?_) (fun hc72 => ?_)
       ·
        simp only [bne_iff_ne, ne_eq] at hc72
        refine wpc_seq ?_
        refine wpc_draw 3 (by kernel_rfl) (fun _ h => h.drew) ?_
        refine wpd_q 0 rfl (by kernel_rfl) trivial (q_ldN Try.underlying27 rfl Try.ti27 rfl LenC.h) rfl (fun _ h => h) ?_
        refine wpd_p 1 rfl (by kernel_rfl) trivial (q_pure rfl) rfl sk0 ?_
        refine wpd_p 2 rfl (by kernel_rfl) trivial (q_pure rfl) rfl sk0 ?_
        refine wpd_t0 3 rfl (by kernel_rfl) trivial (t_stA Try.ti27 rfl rfl LenC.h OneC.h LenC.h) (fun _ => skk rfl) (fun _ => ?_)
        refine wpd_p 4 rfl (by kernel_rfl) trivial (q_pure rfl) rfl (skk rfl) ?_
        refine wpd_done (by kernel_rfl) ?_
        refine ex_then ?_
        refine wpc_ret ?_
        refine ex_then_ret ?_
        refine retv3 (.inl rfl) rfl (rv_tmp rfl) (rv_agg Try.underlying27 rfl Try.ti27 rfl (fun w h => h.atB) LenC.h) (rv_tmp rfl) ?_
        exact fun w h => ⟨(dv, pv, kv), by rw [sp_bad hdo hc72]; exact hsv, by rw [sp_bad hdo hc72]; first | done | rfl, by rw [sp_bad hdo hc72]; exact h.sub SubC.h .nil⟩
       ·
        simp only [bne_eq_false_iff_eq] at hc72
        refine wpc_skip ?_
        refine ex_then ?_
        refine wpc_seq ?_
        refine wpc_draw 3 (by kernel_rfl) (fun _ h => h.drew) ?_
        refine wpd_p 0 rfl (by kernel_rfl) trivial (q_pure rfl) rfl sk0 ?_
        refine wpd_q 1 rfl (by kernel_rfl) trivial (q_ldN Try.underlying27 rfl Try.ti27 rfl LenC.h) rfl (fun _ h => h) ?_
        refine wpd_p 2 rfl (by kernel_rfl) trivial (q_pure rfl) rfl sk0 ?_
        refine wpd_t0 3 rfl (by kernel_rfl) trivial (t_stA Try.ti27 rfl rfl LenC.h OneC.h LenC.h) (fun _ => skk rfl) (fun _ => ?_)
        refine wpd_p 4 rfl (by kernel_rfl) trivial (q_pure rfl) rfl (skk rfl) ?_
        refine wpd_done (by kernel_rfl) ?_
        refine ex_then ?_
        refine wpc_ret ?_
        refine retv3 (.inl rfl) rfl (rv_tmp rfl) (rv_agg Try.underlying27 rfl Try.ti27 rfl (fun w h => h.atB) LenC.h) (rv_tmp rfl) ?_
        exact fun w h => ⟨b51, by rw [sp_ok hdo hc72]; exact p51, by rw [sp_ok hdo hc72]; first | done | rfl, by rw [sp_ok hdo hc72]; exact h.sub SubC.h .nil⟩
      ·
       have hn5 : ¬ x.kd = 5 := by simpa using hc45
       refine wpc_seq ?_
       refine wpc_region ?_
       refine wpl_q (q8_eql (b := (6 : UInt8)) rfl rfl) rfl ?_
       refine wpl_q (q_pure rfl) rfl ?_
       refine wpl_nil ?_
       refine ex_then ?_
       refine wpc_cond rfl (fun hc54 => ?_) (fun hc54 => ?_)
       ·
        have hk : x.kd = 6 := by simpa using hc54
        have hdo := do_6 (s := s) hk
        
        refine wpc_region ?_
        refine wpl_q (q_ldN Try.underlying27 rfl Try.ti27 rfl LenC.h) rfl ?_
        refine wpl_tp (t_callP2 Try.hb15 rfl fun w h => open_ s dv pv kv w ⟨hlen, h.seenV, h.seenV, h.seenV, hld, hlp, hlk⟩) rfl (fun b58 p58 => ?_)
        haveI : OneC ((openF s).1.c b58.1 (openP s pv) b58.2) := ⟨St.c_one p58.1 (openP_sv spv) p58.2⟩
        refine wpl_q (q_pure rfl) rfl ?_
        refine wpl_q (q_pure rfl) rfl ?_
        refine wpl_q (q_pure rfl) rfl ?_
        refine wpl_t0 (t_stA Try.ti27 rfl rfl LenC.h OneC.h LenC.h) (fun _ => ?_)
        refine wpl_q (q_pure rfl) rfl ?_
        refine wpl_nil ?_
        refine ex_block ?_
        refine ex_then ?_
        refine wpc_seq ?_
        refine wpc_seq ?_
        refine wpc_region ?_
        refine wpl_q (q_pure rfl) rfl ?_
        refine wpl_q (q_pure rfl) rfl ?_
        refine wpl_nil ?_
        refine ex_then ?_
        refine wpc_cond rfl (fun hc72 => ?_) (fun hc72 => ?_)
        ·
         simp only [bne_iff_ne, ne_eq] at hc72
         refine wpc_seq ?_
         refine wpc_draw 3 (by kernel_rfl) (fun _ h => h.drew) ?_
         refine wpd_q 0 rfl (by kernel_rfl) trivial (q_ldN Try.underlying27 rfl Try.ti27 rfl LenC.h) rfl (fun _ h => h) ?_
         refine wpd_p 1 rfl (by kernel_rfl) trivial (q_pure rfl) rfl sk0 ?_
         refine wpd_p 2 rfl (by kernel_rfl) trivial (q_pure rfl) rfl sk0 ?_
         refine wpd_t0 3 rfl (by kernel_rfl) trivial (t_stA Try.ti27 rfl rfl LenC.h OneC.h LenC.h) (fun _ => skk rfl) (fun _ => ?_)
         refine wpd_p 4 rfl (by kernel_rfl) trivial (q_pure rfl) rfl (skk rfl) ?_
         refine wpd_done (by kernel_rfl) ?_
         refine ex_then ?_
         refine wpc_ret ?_
         refine ex_then_ret ?_
         refine retv3 (.inl rfl) rfl (rv_tmp rfl) (rv_agg Try.underlying27 rfl Try.ti27 rfl (fun w h => h.atB) LenC.h) (rv_tmp rfl) ?_
         exact fun w h => ⟨(dv, pv, kv), by rw [sp_bad hdo hc72]; exact hsv, by rw [sp_bad hdo hc72]; first | done | rfl, by rw [sp_bad hdo hc72]; exact h.sub SubC.h .nil⟩
        ·
         simp only [bne_eq_false_iff_eq] at hc72
         refine wpc_skip ?_
         refine ex_then ?_
         refine wpc_seq ?_
         refine wpc_draw 3 (by kernel_rfl) (fun _ h => h.drew) ?_
         refine wpd_p 0 rfl (by kernel_rfl) trivial (q_pure rfl) rfl sk0 ?_
         refine wpd_q 1 rfl (by kernel_rfl) trivial (q_ldN Try.underlying27 rfl Try.ti27 rfl LenC.h) rfl (fun _ h => h) ?_
         refine wpd_p 2 rfl (by kernel_rfl) trivial (q_pure rfl) rfl sk0 ?_
         refine wpd_t0 3 rfl (by kernel_rfl) trivial (t_stA Try.ti27 rfl rfl LenC.h OneC.h LenC.h) (fun _ => skk rfl) (fun _ => ?_)
         refine wpd_p 4 rfl (by kernel_rfl) trivial (q_pure rfl) rfl (skk rfl) ?_
         refine wpd_done (by kernel_rfl) ?_
         refine ex_then ?_
         refine wpc_ret ?_
         refine retv3 (.inl rfl) rfl (rv_tmp rfl) (rv_agg Try.underlying27 rfl Try.ti27 rfl (fun w h => h.atB) LenC.h) (rv_tmp rfl) ?_
         exact fun w h => ⟨(b58.1, pv, b58.2), by rw [sp_ok hdo hc72, op2 (op_up hc72)]; have p := p58; rw [op2 (op_up hc72)] at p; exact ⟨p.1, spv, p.2⟩, by rw [sp_ok hdo hc72]; first | done | rfl | (rw [op2p (op_up hc72)]), by rw [sp_ok hdo hc72, op2 (op_up hc72)]; rw [op2 (op_up hc72)] at h; dsimp only at h; exact mid_swap (show Mem _ _ [dRow b58.1 (s.dk.take (scanR s.dk).2), kRow b58.2 (scanR s.dk).1, dRow pv s.pd] [] _ from h.sub SubC.h .nil)⟩
       ·
        have hn6 : ¬ x.kd = 6 := by simpa using hc54
        refine wpc_seq ?_
        refine wpc_region ?_
        refine wpl_q (q8_eql (b := (7 : UInt8)) rfl rfl) rfl ?_
        refine wpl_q (q_pure rfl) rfl ?_
        refine wpl_nil ?_
        refine ex_then ?_
        refine wpc_cond rfl (fun hc61 => ?_) (fun hc61 => ?_)
        ·
         have hk : x.kd = 7 := by simpa using hc61
         have hdo := do_7 (s := s) hk
         refine wpc_region ?_
         refine wpl_q (q_ldN Try.underlying27 rfl Try.ti27 rfl LenC.h) rfl ?_
         refine wpl_q (q_field Try.underlying58 rfl Try.ti28 rfl rfl _ rfl) rfl ?_
         refine wpl_q (q_ld Try.underlying28 rfl rfl (by first | exact v32s_get (by first | decide | omega | exact Nat.zero_lt_one | (simp; omega) | (simp; done) | (simp only [v8s_length, v32s_length, vis_length, vns_length, v64s_length]; omega)) | rfl)) rfl ?_
         refine wpl_tp (t_callP3 Try.hb17 rfl fun w h => take_ s dv pv kv x.id w ⟨hlen, h.seenV, h.seenV, h.seenV, hld, hlp, hlk⟩) rfl (fun b67 p67 => ?_)
         haveI := OneC.sv p67
         refine wpl_q (q_pure rfl) rfl ?_
         refine wpl_q (q_pure rfl) rfl ?_
         refine wpl_q (q_pure rfl) rfl ?_
         refine wpl_q (q_pure rfl) rfl ?_
         refine wpl_q (q_pure rfl) rfl ?_
         refine wpl_t0 (t_stA Try.ti27 rfl rfl LenC.h OneC.h LenC.h) (fun _ => ?_)
         refine wpl_q (q_pure rfl) rfl ?_
         refine wpl_nil ?_
         refine ex_block ?_
         refine ex_then ?_
         refine wpc_seq ?_
         refine wpc_seq ?_
         refine wpc_region ?_
         refine wpl_q (q_pure rfl) rfl ?_
         refine wpl_q (q_pure rfl) rfl ?_
         refine wpl_nil ?_
         refine ex_then ?_
         refine wpc_cond rfl (fun hc72 => ?_) (fun hc72 => ?_)
         ·
          simp only [bne_iff_ne, ne_eq] at hc72
          refine wpc_seq ?_
          refine wpc_draw 3 (by kernel_rfl) (fun _ h => h.drew) ?_
          refine wpd_q 0 rfl (by kernel_rfl) trivial (q_ldN Try.underlying27 rfl Try.ti27 rfl LenC.h) rfl (fun _ h => h) ?_
          refine wpd_p 1 rfl (by kernel_rfl) trivial (q_pure rfl) rfl sk0 ?_
          refine wpd_p 2 rfl (by kernel_rfl) trivial (q_pure rfl) rfl sk0 ?_
          refine wpd_t0 3 rfl (by kernel_rfl) trivial (t_stA Try.ti27 rfl rfl LenC.h OneC.h LenC.h) (fun _ => skk rfl) (fun _ => ?_)
          refine wpd_p 4 rfl (by kernel_rfl) trivial (q_pure rfl) rfl (skk rfl) ?_
          refine wpd_done (by kernel_rfl) ?_
          refine ex_then ?_
          refine wpc_ret ?_
          refine ex_then_ret ?_
          refine retv3 (.inl rfl) rfl (rv_tmp rfl) (rv_agg Try.underlying27 rfl Try.ti27 rfl (fun w h => h.atB) LenC.h) (rv_tmp rfl) ?_
          exact fun w h => ⟨(dv, pv, kv), by rw [sp_bad hdo hc72]; exact hsv, by rw [sp_bad hdo hc72]; first | done | rfl, by rw [sp_bad hdo hc72]; exact h.sub SubC.h .nil⟩
         ·
          simp only [bne_eq_false_iff_eq] at hc72
          refine wpc_skip ?_
          refine ex_then ?_
          refine wpc_seq ?_
          refine wpc_draw 3 (by kernel_rfl) (fun _ h => h.drew) ?_
          refine wpd_p 0 rfl (by kernel_rfl) trivial (q_pure rfl) rfl sk0 ?_
          refine wpd_q 1 rfl (by kernel_rfl) trivial (q_ldN Try.underlying27 rfl Try.ti27 rfl LenC.h) rfl (fun _ h => h) ?_
          refine wpd_p 2 rfl (by kernel_rfl) trivial (q_pure rfl) rfl sk0 ?_
          refine wpd_t0 3 rfl (by kernel_rfl) trivial (t_stA Try.ti27 rfl rfl LenC.h OneC.h LenC.h) (fun _ => skk rfl) (fun _ => ?_)
          refine wpd_p 4 rfl (by kernel_rfl) trivial (q_pure rfl) rfl (skk rfl) ?_
          refine wpd_done (by kernel_rfl) ?_
          refine ex_then ?_
          refine wpc_ret ?_
          refine retv3 (.inl rfl) rfl (rv_tmp rfl) (rv_agg Try.underlying27 rfl Try.ti27 rfl (fun w h => h.atB) LenC.h) (rv_tmp rfl) ?_
          exact fun w h => ⟨b67, by rw [sp_ok hdo hc72]; exact p67, by rw [sp_ok hdo hc72]; first | done | rfl, by rw [sp_ok hdo hc72]; exact h.sub SubC.h .nil⟩
        ·
         have hn7 : ¬ x.kd = 7 := by simpa using hc61
         have hdo := do_0 (s := s) hn1 hn2 hn3 hn4 hn5 hn6 hn7
         refine wpc_region ?_
         refine wpl_q (q_pure rfl) rfl ?_
         refine wpl_nil ?_
         refine ex_block ?_
         refine ex_then ?_
         refine wpc_seq ?_
         refine wpc_seq ?_
         refine wpc_region ?_
         refine wpl_q (q_pure rfl) rfl ?_
         refine wpl_q (q_pure rfl) rfl ?_
         refine wpl_nil ?_
         refine ex_then ?_
         refine wpc_cond rfl (fun hc72 => ?_) (fun hc72 => ?_)
         ·
          simp only [bne_iff_ne, ne_eq] at hc72
          refine wpc_seq ?_
          refine wpc_draw 3 (by kernel_rfl) (fun _ h => h.drew) ?_
          refine wpd_q 0 rfl (by kernel_rfl) trivial (q_ldN Try.underlying27 rfl Try.ti27 rfl LenC.h) rfl (fun _ h => h) ?_
          refine wpd_p 1 rfl (by kernel_rfl) trivial (q_pure rfl) rfl sk0 ?_
          refine wpd_p 2 rfl (by kernel_rfl) trivial (q_pure rfl) rfl sk0 ?_
          refine wpd_t0 3 rfl (by kernel_rfl) trivial (t_stA Try.ti27 rfl rfl LenC.h OneC.h LenC.h) (fun _ => skk rfl) (fun _ => ?_)
          refine wpd_p 4 rfl (by kernel_rfl) trivial (q_pure rfl) rfl (skk rfl) ?_
          refine wpd_done (by kernel_rfl) ?_
          refine ex_then ?_
          refine wpc_ret ?_
          refine ex_then_ret ?_
          refine retv3 (.inl rfl) rfl (rv_tmp rfl) (rv_agg Try.underlying27 rfl Try.ti27 rfl (fun w h => h.atB) LenC.h) (rv_tmp rfl) ?_
          exact fun w h => ⟨(dv, pv, kv), by rw [sp_bad hdo hc72]; exact hsv, by rw [sp_bad hdo hc72]; first | done | rfl, by rw [sp_bad hdo hc72]; exact h.sub SubC.h .nil⟩
         ·
          simp only [bne_eq_false_iff_eq] at hc72
          refine wpc_skip ?_
          refine ex_then ?_
          refine wpc_seq ?_
          refine wpc_draw 3 (by kernel_rfl) (fun _ h => h.drew) ?_
          refine wpd_p 0 rfl (by kernel_rfl) trivial (q_pure rfl) rfl sk0 ?_
          refine wpd_q 1 rfl (by kernel_rfl) trivial (q_ldN Try.underlying27 rfl Try.ti27 rfl LenC.h) rfl (fun _ h => h) ?_
          refine wpd_p 2 rfl (by kernel_rfl) trivial (q_pure rfl) rfl sk0 ?_
          refine wpd_t0 3 rfl (by kernel_rfl) trivial (t_stA Try.ti27 rfl rfl LenC.h OneC.h LenC.h) (fun _ => skk rfl) (fun _ => ?_)
          refine wpd_p 4 rfl (by kernel_rfl) trivial (q_pure rfl) rfl (skk rfl) ?_
          refine wpd_done (by kernel_rfl) ?_
          refine ex_then ?_
          refine wpc_ret ?_
          refine retv3 (.inl rfl) rfl (rv_tmp rfl) (rv_agg Try.underlying27 rfl Try.ti27 rfl (fun w h => h.atB) LenC.h) (rv_tmp rfl) ?_
          exact absurd hc72 (by decide)

end Go.Proofs.Ytoaeklbenmlooaa
