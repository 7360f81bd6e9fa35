/- What the statement reaches, in order. -/
import Derived.Test.YtoaeklbenmlooaaDoorMXPLN
import Derived.Test.YtoaeklbenmlooaaDoorMXPLL
import Derived.Test.YtoaeklbenmlooaaDoorMXTI
import Derived.Test.YtoaeklbenmlooaaDoorMXPLI
import Derived.Test.YtoaeklbenmlooaaDoorMXPLZ
import Derived.WalkKit
import Derived.ProofKit
import Derived.OpenShut
import Derived.ChangeOld
import Derived.Below
import Derived.Carry
import Derived.LaidMore
import Derived.Deep.DeepHandedRow
import Derived.Deep.DeepWitnessRowRef
import Derived.Lib.LaidTab
import Derived.Stop.Joined
import Derived.Test.YtoaeklbenmlooaaDoorMX2
set_option linter.unusedSimpArgs false
set_option linter.unusedVariables false
set_option maxRecDepth 100000
namespace Go.Proofs.YtoaeklbenmlooaaDoor
open Go Go.PL Go.RowKit
class L32 (s : St) : Prop where
  h : s.ms.length = 32
instance l32_z : L32 St.z := ⟨rfl⟩
instance l32_c {s : St} {id : UInt32} {ht : Int} [h : L32 s] : L32 (createF s id ht).1 := ⟨createF_len h.h⟩
instance l32_r {s : St} {id : UInt32} [h : L32 s] : L32 (reserveF s id).1 := ⟨reserveF_len h.h⟩
instance l32_d {s : St} {id : UInt32} [h : L32 s] : L32 (dropF s id).1 := ⟨dropF_len h.h⟩
instance l32_s {s : St} [h : L32 s] : L32 (syncF s).1 := ⟨syncF_len h.h⟩
instance l32_x {s : St} {k : Int} [h : L32 s] : L32 (crashF s k).1 := ⟨crashF_len h.h⟩
instance l32_o {s : St} [h : L32 s] : L32 (openF s).1 := ⟨openF_len h.h⟩
instance l32_t {s : St} {id : UInt32} [h : L32 s] : L32 (takeF s id).2.1 := ⟨takeF_len h.h⟩
instance lenC_st {s : St} {dv pv kv : Value} [h : L32 s] : LenC (s.c dv pv kv) 37 := ⟨St.c_length h.h⟩
instance oneC_z {s : St} : OneC (s.c nl nl nl) := ⟨St.c_one SV.nil SV.nil SV.nil⟩
theorem OneC.sv {s : St} {x : V3} (h : s.sv x) : OneC (s.c x.1 x.2.1 x.2.2) := ⟨St.c_one h.1 h.2.1 h.2.2⟩
structure Stp where
  kd : UInt8
  id : UInt32
  n : Int
def Stp.c (x : Stp) : List Value := [.int .u8 (x.kd.toNat : Int), .int .u32 (x.id.toNat : Int), .int .i64 x.n]
def doF (s : St) (x : Stp) : Int × St × Int :=
  if x.kd = 1 then (0, createF s x.id x.n) else if x.kd = 2 then (0, reserveF s x.id) else if x.kd = 3 then (0, dropF s x.id) else if x.kd = 4 then (0, syncF s)
  else if x.kd = 5 then (0, crashF s x.n) else if x.kd = 6 then (0, openF s) else if x.kd = 7 then takeF s x.id else (0, St.z, 2)
def stepF (s : St) (x : Stp) : Int × St × Int := if ¬ (doF s x).2.2 = 0 then (0, s, (doF s x).2.2) else ((doF s x).1, (doF s x).2.1, 0)
theorem sp_bad {s : St} {x : Stp} {r : Int × St × Int} (h : doF s x = r) (h2 : ¬ r.2.2 = 0) : stepF s x = (0, s, r.2.2) := by unfold stepF; rw [h, if_pos h2]
theorem sp_ok {s : St} {x : Stp} {r : Int × St × Int} (h : doF s x = r) (h2 : r.2.2 = 0) : stepF s x = (r.1, r.2.1, 0) := by unfold stepF; rw [h, if_neg (fun hh => hh h2)]
theorem do_1 {s : St} {x : Stp} (h : x.kd = 1) : doF s x = (0, createF s x.id x.n) := if_pos h
theorem do_2 {s : St} {x : Stp} (h : x.kd = 2) : doF s x = (0, reserveF s x.id) := by unfold doF; rw [h]; rfl
theorem do_3 {s : St} {x : Stp} (h : x.kd = 3) : doF s x = (0, dropF s x.id) := by unfold doF; rw [h]; rfl
theorem do_4 {s : St} {x : Stp} (h : x.kd = 4) : doF s x = (0, syncF s) := by unfold doF; rw [h]; rfl
theorem do_5 {s : St} {x : Stp} (h : x.kd = 5) : doF s x = (0, crashF s x.n) := by unfold doF; rw [h]; rfl
theorem do_6 {s : St} {x : Stp} (h : x.kd = 6) : doF s x = (0, openF s) := by unfold doF; rw [h]; rfl
theorem do_7 {s : St} {x : Stp} (h : x.kd = 7) : doF s x = takeF s x.id := by unfold doF; rw [h]; rfl
theorem do_0 {s : St} {x : Stp} (h1 : ¬ x.kd = 1) (h2 : ¬ x.kd = 2) (h3 : ¬ x.kd = 3) (h4 : ¬ x.kd = 4) (h5 : ¬ x.kd = 5) (h6 : ¬ x.kd = 6) (h7 : ¬ x.kd = 7) : doF s x = (0, St.z, 2) := by
  unfold doF; rw [if_neg h1, if_neg h2, if_neg h3, if_neg h4, if_neg h5, if_neg h6, if_neg h7]
instance lenC_stp {x : Stp} : LenC x.c 3 := ⟨rfl⟩
instance oneC_stp {x : Stp} : OneC x.c := ⟨by intro u hu; simp only [Stp.c, List.mem_cons, List.not_mem_nil, or_false] at hu; rcases hu with rfl | rfl | rfl <;> rfl⟩
theorem op_up {s : St} (h : (openF s).2 = 0) : upF s false = 0 := by
  by_cases hh : upF s false = 0
  · exact hh
  · rw [op1 hh] at h; exact h
theorem mid_swap {w0 w : World} {Ln : List Nat} {a b c : Ent} {S : List Fact} (h : Mem w0 Ln [a, b, c] S w) : Mem w0 Ln [a, c, b] S w := h.perm (List.Perm.cons a (List.Perm.swap c b []))
theorem step_ (s : St) (dv pv kv : Value) (x : Stp) (w : World) (hb : Mem w (nums [dRow dv s.dk, dRow pv s.pd, kRow kv s.ks]) [dRow dv s.dk, dRow pv s.pd, kRow kv s.ks] [] w) (hlen : s.ms.length = 32) (hsv : s.sv (dv, pv, kv)) (hld : s.dk.length ≤ 1200) (hlp : s.pd.length ≤ 1200) (hlk : s.ks.length ≤ 30)  :
    Calls Tryd.prog 59 [.agg (s.c dv pv kv).toArray, .agg x.c.toArray].toArray w (GivesA w [dRow dv s.dk, dRow pv s.pd, kRow kv s.ks] (fun v : V3 => (stepF s x).2.1.sv v) (fun v => .tuple #[.int .i64 (stepF s x).1, stV (stepF s x).2.1 v, .int .i64 (stepF s x).2.2]) (fun v => [dRow v.1 (stepF s x).2.1.dk, dRow v.2.1 (stepF s x).2.1.pd, kRow v.2.2 (stepF s x).2.1.ks])) := by
  have sdv : SV dv s.dk.length := hsv.1
  have spv : SV pv s.pd.length := hsv.2.1
  have skv : SV kv s.ks.length := hsv.2.2
  haveI : L32 s := ⟨hlen⟩
  haveI : OneC (s.c dv pv kv) := ⟨St.c_one sdv spv skv⟩
  refine enter (m := 77) (R := Mem w (nums [dRow dv s.dk, dRow pv s.pd, kRow kv s.ks]) [dRow dv s.dk, dRow pv s.pd, kRow kv s.ks] []) Tryd.func59 rfl rfl (Nat.le_of_ble_eq_true rfl) hb ?_
  refine wpc_seq <| wpc_region ?_
  refine wpl_t (t_box rfl (s.c dv pv kv) rfl) rfl (fun b2 => ?_)
  refine wpl_t (t_box rfl x.c rfl) rfl (fun b3 => ?_)
  refine wpl_q (q_pure rfl) rfl ?_
  refine wpl_t (t_alloc Tryd.ti35 (St.z.c nl nl nl) rfl) rfl (fun b5 => ?_)
  refine wpl_q (q_pure rfl) rfl <| wpl_nil <| ex_then <| wpc_seq <| wpc_seq <| wpc_region <| wpl_q (q_field Tryd.underlying70 rfl Tryd.ti5 rfl rfl _ rfl) rfl ?_
  refine wpl_q (q_ld Tryd.underlying5 rfl rfl zz34) rfl ?_
  refine wpl_nil <| ex_then <| wpc_block <| wpc_seq <| wpc_region ?_
  refine wpl_q (q8_eql (b := (1 : UInt8)) rfl rfl) rfl ?_
  refine wpl_q (q_pure rfl) rfl <| wpl_nil <| ex_then ?_
  refine wpc_cond rfl (fun hc9 => ?_) (fun hc9 => ?_)
  ·
   have hk : x.kd = 1 := by simpa using hc9
   have hdo := do_1 (s := s) hk
   refine wpc_region <| wpl_q (q_ldN Tryd.underlying35 rfl Tryd.ti35 rfl LenC.h) rfl <| wpl_q (q_field Tryd.underlying70 rfl Tryd.ti25 rfl rfl _ rfl) rfl ?_
   refine wpl_q (q_ld Tryd.underlying25 rfl rfl zz42) rfl ?_
   refine wpl_q (q_field Tryd.underlying70 rfl Tryd.ti3 rfl rfl _ rfl) rfl ?_
   refine wpl_q (q_ld Tryd.underlying3 rfl rfl zz38) rfl ?_
   refine wpl_tp (t_callP3 Tryd.hb74 rfl fun w h => create s dv pv kv x.id x.n w ⟨hlen, h.seenV, h.seenV, h.seenV, hld, hlp, hlk⟩) rfl (fun b17 p17 => ?_)
   haveI := OneC.sv p17
   refine wpl_q (q_pure rfl) rfl <| wpl_q (q_pure rfl) rfl <| wpl_q (q_pure rfl) rfl ?_
   refine wpl_t0 (t_stA Tryd.ti35 rfl rfl LenC.h OneC.h LenC.h) (fun _ => ?_)
   refine wpl_q (q_pure rfl) rfl <| wpl_nil <| ex_block <| ex_then <| wpc_seq <| wpc_seq <| wpc_region <| wpl_q (q_pure rfl) rfl <| wpl_q (q_pure rfl) rfl <| wpl_nil <| ex_then ?_
   refine wpc_cond rfl (fun hc72 => ?_) (fun hc72 => ?_)
   ·
    simp only [bne_iff_ne, ne_eq] at hc72
    refine wpc_seq ?_
    refine wpc_draw 3 zz6 (fun _ h => h.drew) ?_
    refine wpd_q 0 rfl zz6 trivial (q_ldN Tryd.underlying35 rfl Tryd.ti35 rfl LenC.h) rfl (fun _ h => h) ?_
    refine wpd_p 1 rfl zz6 trivial (q_pure rfl) rfl sk0 ?_
    refine wpd_p 2 rfl zz6 trivial (q_pure rfl) rfl sk0 ?_
    refine wpd_t0 3 rfl zz6 trivial (t_stA Tryd.ti35 rfl rfl LenC.h OneC.h LenC.h) (fun _ => skk rfl) (fun _ => ?_)
    refine wpd_p 4 rfl zz6 trivial (q_pure rfl) rfl (skk rfl) ?_
    refine wpd_done zz6 ?_
    refine ex_then <| wpc_ret ?_
    refine ex_then_ret ?_
    refine retv3 (.inl rfl) rfl (rv_tmp rfl) (rv_agg Tryd.underlying35 rfl Tryd.ti35 rfl (fun w h => h.atB) LenC.h) (rv_tmp rfl) ?_
    exact fun w h => ⟨(dv, pv, kv), zz60, zz49, zz46⟩
   ·
    simp only [bne_eq_false_iff_eq] at hc72
    refine wpc_skip <| ex_then <| wpc_seq ?_
    refine wpc_draw 3 zz6 (fun _ h => h.drew) ?_
    refine wpd_p 0 rfl zz6 trivial (q_pure rfl) rfl sk0 ?_
    refine wpd_q 1 rfl zz6 trivial (q_ldN Tryd.underlying35 rfl Tryd.ti35 rfl LenC.h) rfl (fun _ h => h) ?_
    refine wpd_p 2 rfl zz6 trivial (q_pure rfl) rfl sk0 ?_
    refine wpd_t0 3 rfl zz6 trivial (t_stA Tryd.ti35 rfl rfl LenC.h OneC.h LenC.h) (fun _ => skk rfl) (fun _ => ?_)
    refine wpd_p 4 rfl zz6 trivial (q_pure rfl) rfl (skk rfl) ?_
    refine wpd_done zz6 ?_
    refine ex_then <| wpc_ret ?_
    refine retv3 (.inl rfl) rfl (rv_tmp rfl) (rv_agg Tryd.underlying35 rfl Tryd.ti35 rfl (fun w h => h.atB) LenC.h) (rv_tmp rfl) ?_
    exact fun w h => ⟨b17, by rw [sp_ok hdo hc72]; exact p17, by rw [sp_ok hdo hc72]; first | done | rfl, zz58⟩
  ·
   have hn1 : ¬ x.kd = 1 := by simpa using hc9
   refine wpc_seq <| wpc_region ?_
   refine wpl_q (q8_eql (b := (2 : UInt8)) rfl rfl) rfl ?_
   refine wpl_q (q_pure rfl) rfl <| wpl_nil <| ex_then ?_
   refine wpc_cond rfl (fun hc20 => ?_) (fun hc20 => ?_)
   ·
    have hk : x.kd = 2 := by simpa using hc20
    have hdo := do_2 (s := s) hk
    refine wpc_region <| wpl_q (q_ldN Tryd.underlying35 rfl Tryd.ti35 rfl LenC.h) rfl <| wpl_q (q_field Tryd.underlying70 rfl Tryd.ti25 rfl rfl _ rfl) rfl ?_
    refine wpl_q (q_ld Tryd.underlying25 rfl rfl zz42) rfl ?_
    refine wpl_tp (t_callP3 Tryd.hb26 rfl fun w h => reserve s dv pv kv x.id w ⟨hlen, h.seenV, h.seenV, h.seenV, hld, hlp, hlk⟩) rfl (fun b26 p26 => ?_)
    haveI := OneC.sv p26
    refine wpl_q (q_pure rfl) rfl <| wpl_q (q_pure rfl) rfl <| wpl_q (q_pure rfl) rfl ?_
    refine wpl_t0 (t_stA Tryd.ti35 rfl rfl LenC.h OneC.h LenC.h) (fun _ => ?_)
    refine wpl_q (q_pure rfl) rfl <| wpl_nil <| ex_block <| ex_then <| wpc_seq <| wpc_seq <| wpc_region <| wpl_q (q_pure rfl) rfl <| wpl_q (q_pure rfl) rfl <| wpl_nil <| ex_then ?_
    refine wpc_cond rfl (fun hc72 => ?_) (fun hc72 => ?_)
    ·
     simp only [bne_iff_ne, ne_eq] at hc72
     refine wpc_seq ?_
     refine wpc_draw 3 zz6 (fun _ h => h.drew) ?_
     refine wpd_q 0 rfl zz6 trivial (q_ldN Tryd.underlying35 rfl Tryd.ti35 rfl LenC.h) rfl (fun _ h => h) ?_
     refine wpd_p 1 rfl zz6 trivial (q_pure rfl) rfl sk0 ?_
     refine wpd_p 2 rfl zz6 trivial (q_pure rfl) rfl sk0 ?_
     refine wpd_t0 3 rfl zz6 trivial (t_stA Tryd.ti35 rfl rfl LenC.h OneC.h LenC.h) (fun _ => skk rfl) (fun _ => ?_)
     refine wpd_p 4 rfl zz6 trivial (q_pure rfl) rfl (skk rfl) ?_
     refine wpd_done zz6 ?_
     refine ex_then <| wpc_ret ?_
     refine ex_then_ret ?_
     refine retv3 (.inl rfl) rfl (rv_tmp rfl) (rv_agg Tryd.underlying35 rfl Tryd.ti35 rfl (fun w h => h.atB) LenC.h) (rv_tmp rfl) ?_
     exact fun w h => ⟨(dv, pv, kv), zz60, zz49, zz46⟩
    ·
     simp only [bne_eq_false_iff_eq] at hc72
     refine wpc_skip <| ex_then <| wpc_seq ?_
     refine wpc_draw 3 zz6 (fun _ h => h.drew) ?_
     refine wpd_p 0 rfl zz6 trivial (q_pure rfl) rfl sk0 ?_
     refine wpd_q 1 rfl zz6 trivial (q_ldN Tryd.underlying35 rfl Tryd.ti35 rfl LenC.h) rfl (fun _ h => h) ?_
     refine wpd_p 2 rfl zz6 trivial (q_pure rfl) rfl sk0 ?_
     refine wpd_t0 3 rfl zz6 trivial (t_stA Tryd.ti35 rfl rfl LenC.h OneC.h LenC.h) (fun _ => skk rfl) (fun _ => ?_)
     refine wpd_p 4 rfl zz6 trivial (q_pure rfl) rfl (skk rfl) ?_
     refine wpd_done zz6 ?_
     refine ex_then <| wpc_ret ?_
     refine retv3 (.inl rfl) rfl (rv_tmp rfl) (rv_agg Tryd.underlying35 rfl Tryd.ti35 rfl (fun w h => h.atB) LenC.h) (rv_tmp rfl) ?_
     exact fun w h => ⟨b26, by rw [sp_ok hdo hc72]; exact p26, by rw [sp_ok hdo hc72]; first | done | rfl, zz58⟩
   ·
    have hn2 : ¬ x.kd = 2 := by simpa using hc20
    refine wpc_seq <| wpc_region ?_
    refine wpl_q (q8_eql (b := (3 : UInt8)) rfl rfl) rfl ?_
    refine wpl_q (q_pure rfl) rfl <| wpl_nil <| ex_then ?_
    refine wpc_cond rfl (fun hc29 => ?_) (fun hc29 => ?_)
    ·
     have hk : x.kd = 3 := by simpa using hc29
     have hdo := do_3 (s := s) hk
     refine wpc_region <| wpl_q (q_ldN Tryd.underlying35 rfl Tryd.ti35 rfl LenC.h) rfl <| wpl_q (q_field Tryd.underlying70 rfl Tryd.ti25 rfl rfl _ rfl) rfl ?_
     refine wpl_q (q_ld Tryd.underlying25 rfl rfl zz42) rfl ?_
     refine wpl_tp (t_callP3 Tryd.hb75 rfl fun w h => drop_ s dv pv kv x.id w ⟨hlen, h.seenV, h.seenV, h.seenV, hld, hlp, hlk⟩) rfl (fun b35 p35 => ?_)
     haveI := OneC.sv p35
     refine wpl_q (q_pure rfl) rfl <| wpl_q (q_pure rfl) rfl <| wpl_q (q_pure rfl) rfl ?_
     refine wpl_t0 (t_stA Tryd.ti35 rfl rfl LenC.h OneC.h LenC.h) (fun _ => ?_)
     refine wpl_q (q_pure rfl) rfl <| wpl_nil <| ex_block <| ex_then <| wpc_seq <| wpc_seq <| wpc_region <| wpl_q (q_pure rfl) rfl <| wpl_q (q_pure rfl) rfl <| wpl_nil <| ex_then ?_
     refine wpc_cond rfl (fun hc72 => ?_) (fun hc72 => ?_)
     ·
      simp only [bne_iff_ne, ne_eq] at hc72
      refine wpc_seq ?_
      refine wpc_draw 3 zz6 (fun _ h => h.drew) ?_
      refine wpd_q 0 rfl zz6 trivial (q_ldN Tryd.underlying35 rfl Tryd.ti35 rfl LenC.h) rfl (fun _ h => h) ?_
      refine wpd_p 1 rfl zz6 trivial (q_pure rfl) rfl sk0 ?_
      refine wpd_p 2 rfl zz6 trivial (q_pure rfl) rfl sk0 ?_
      refine wpd_t0 3 rfl zz6 trivial (t_stA Tryd.ti35 rfl rfl LenC.h OneC.h LenC.h) (fun _ => skk rfl) (fun _ => ?_)
      refine wpd_p 4 rfl zz6 trivial (q_pure rfl) rfl (skk rfl) ?_
      refine wpd_done zz6 ?_
      refine ex_then <| wpc_ret ?_
      refine ex_then_ret ?_
      refine retv3 (.inl rfl) rfl (rv_tmp rfl) (rv_agg Tryd.underlying35 rfl Tryd.ti35 rfl (fun w h => h.atB) LenC.h) (rv_tmp rfl) ?_
      exact fun w h => ⟨(dv, pv, kv), zz60, zz49, zz46⟩
     ·
      simp only [bne_eq_false_iff_eq] at hc72
      refine wpc_skip <| ex_then <| wpc_seq ?_
      refine wpc_draw 3 zz6 (fun _ h => h.drew) ?_
      refine wpd_p 0 rfl zz6 trivial (q_pure rfl) rfl sk0 ?_
      refine wpd_q 1 rfl zz6 trivial (q_ldN Tryd.underlying35 rfl Tryd.ti35 rfl LenC.h) rfl (fun _ h => h) ?_
      refine wpd_p 2 rfl zz6 trivial (q_pure rfl) rfl sk0 ?_
      refine wpd_t0 3 rfl zz6 trivial (t_stA Tryd.ti35 rfl rfl LenC.h OneC.h LenC.h) (fun _ => skk rfl) (fun _ => ?_)
      refine wpd_p 4 rfl zz6 trivial (q_pure rfl) rfl (skk rfl) ?_
      refine wpd_done zz6 ?_
      refine ex_then <| wpc_ret ?_
      refine retv3 (.inl rfl) rfl (rv_tmp rfl) (rv_agg Tryd.underlying35 rfl Tryd.ti35 rfl (fun w h => h.atB) LenC.h) (rv_tmp rfl) ?_
      exact fun w h => ⟨b35, by rw [sp_ok hdo hc72]; exact p35, by rw [sp_ok hdo hc72]; first | done | rfl, zz58⟩
    ·
     have hn3 : ¬ x.kd = 3 := by simpa using hc29
     refine wpc_seq <| wpc_region ?_
     refine wpl_q (q8_eql (b := (4 : UInt8)) rfl rfl) rfl ?_
     refine wpl_q (q_pure rfl) rfl <| wpl_nil <| ex_then ?_
     refine wpc_cond rfl (fun hc38 => ?_) (fun hc38 => ?_)
     ·
      have hk : x.kd = 4 := by simpa using hc38
      have hdo := do_4 (s := s) hk
      refine wpc_region <| wpl_q (q_ldN Tryd.underlying35 rfl Tryd.ti35 rfl LenC.h) rfl ?_
      refine wpl_tp (t_callP3 Tryd.hb76 rfl fun w h => sync s dv pv kv  w ⟨hlen, h.seenV, h.seenV, h.seenV, hld, hlp, hlk⟩) rfl (fun b42 p42 => ?_)
      haveI := OneC.sv p42
      refine wpl_q (q_pure rfl) rfl <| wpl_q (q_pure rfl) rfl <| wpl_q (q_pure rfl) rfl ?_
      refine wpl_t0 (t_stA Tryd.ti35 rfl rfl LenC.h OneC.h LenC.h) (fun _ => ?_)
      refine wpl_q (q_pure rfl) rfl <| wpl_nil <| ex_block <| ex_then <| wpc_seq <| wpc_seq <| wpc_region <| wpl_q (q_pure rfl) rfl <| wpl_q (q_pure rfl) rfl <| wpl_nil <| ex_then ?_
      refine wpc_cond rfl (fun hc72 => ?_) (fun hc72 => ?_)
      ·
       simp only [bne_iff_ne, ne_eq] at hc72
       refine wpc_seq ?_
       refine wpc_draw 3 zz6 (fun _ h => h.drew) ?_
       refine wpd_q 0 rfl zz6 trivial (q_ldN Tryd.underlying35 rfl Tryd.ti35 rfl LenC.h) rfl (fun _ h => h) ?_
       refine wpd_p 1 rfl zz6 trivial (q_pure rfl) rfl sk0 ?_
       refine wpd_p 2 rfl zz6 trivial (q_pure rfl) rfl sk0 ?_
       refine wpd_t0 3 rfl zz6 trivial (t_stA Tryd.ti35 rfl rfl LenC.h OneC.h LenC.h) (fun _ => skk rfl) (fun _ => ?_)
       refine wpd_p 4 rfl zz6 trivial (q_pure rfl) rfl (skk rfl) ?_
       refine wpd_done zz6 ?_
       refine ex_then <| wpc_ret ?_
       refine ex_then_ret ?_
       refine retv3 (.inl rfl) rfl (rv_tmp rfl) (rv_agg Tryd.underlying35 rfl Tryd.ti35 rfl (fun w h => h.atB) LenC.h) (rv_tmp rfl) ?_
       exact fun w h => ⟨(dv, pv, kv), zz60, zz49, zz46⟩
      ·
       simp only [bne_eq_false_iff_eq] at hc72
       refine wpc_skip <| ex_then <| wpc_seq ?_
       refine wpc_draw 3 zz6 (fun _ h => h.drew) ?_
       refine wpd_p 0 rfl zz6 trivial (q_pure rfl) rfl sk0 ?_
       refine wpd_q 1 rfl zz6 trivial (q_ldN Tryd.underlying35 rfl Tryd.ti35 rfl LenC.h) rfl (fun _ h => h) ?_
       refine wpd_p 2 rfl zz6 trivial (q_pure rfl) rfl sk0 ?_
       refine wpd_t0 3 rfl zz6 trivial (t_stA Tryd.ti35 rfl rfl LenC.h OneC.h LenC.h) (fun _ => skk rfl) (fun _ => ?_)
       refine wpd_p 4 rfl zz6 trivial (q_pure rfl) rfl (skk rfl) ?_
       refine wpd_done zz6 ?_
       refine ex_then <| wpc_ret ?_
       refine retv3 (.inl rfl) rfl (rv_tmp rfl) (rv_agg Tryd.underlying35 rfl Tryd.ti35 rfl (fun w h => h.atB) LenC.h) (rv_tmp rfl) ?_
       exact fun w h => ⟨b42, by rw [sp_ok hdo hc72]; exact p42, by rw [sp_ok hdo hc72]; first | done | rfl, zz58⟩
     ·
      have hn4 : ¬ x.kd = 4 := by simpa using hc38
      refine wpc_seq <| wpc_region ?_
      refine wpl_q (q8_eql (b := (5 : UInt8)) rfl rfl) rfl ?_
      refine wpl_q (q_pure rfl) rfl <| wpl_nil <| ex_then ?_
      refine wpc_cond rfl (fun hc45 => ?_) (fun hc45 => ?_)
      ·
       have hk : x.kd = 5 := by simpa using hc45
       have hdo := do_5 (s := s) hk
       refine wpc_region <| wpl_q (q_ldN Tryd.underlying35 rfl Tryd.ti35 rfl LenC.h) rfl <| wpl_q (q_field Tryd.underlying70 rfl Tryd.ti3 rfl rfl _ rfl) rfl ?_
       refine wpl_q (q_ld Tryd.underlying3 rfl rfl zz38) rfl ?_
       refine wpl_tp (t_callP3 Tryd.hb77 rfl fun w h => crash s dv pv kv x.n w ⟨hlen, h.seenV, h.seenV, h.seenV, hld, hlp, hlk⟩) rfl (fun b51 p51 => ?_)
       haveI := OneC.sv p51
       refine wpl_q (q_pure rfl) rfl <| wpl_q (q_pure rfl) rfl <| wpl_q (q_pure rfl) rfl ?_
       refine wpl_t0 (t_stA Tryd.ti35 rfl rfl LenC.h OneC.h LenC.h) (fun _ => ?_)
       refine wpl_q (q_pure rfl) rfl <| wpl_nil <| ex_block <| ex_then <| wpc_seq <| wpc_seq <| wpc_region <| wpl_q (q_pure rfl) rfl <| wpl_q (q_pure rfl) rfl <| wpl_nil <| ex_then ?_
       refine wpc_cond rfl (fun hc72 => ?_) (fun hc72 => ?_)
       ·
        simp only [bne_iff_ne, ne_eq] at hc72
        refine wpc_seq ?_
        refine wpc_draw 3 zz6 (fun _ h => h.drew) ?_
        refine wpd_q 0 rfl zz6 trivial (q_ldN Tryd.underlying35 rfl Tryd.ti35 rfl LenC.h) rfl (fun _ h => h) ?_
        refine wpd_p 1 rfl zz6 trivial (q_pure rfl) rfl sk0 ?_
        refine wpd_p 2 rfl zz6 trivial (q_pure rfl) rfl sk0 ?_
        refine wpd_t0 3 rfl zz6 trivial (t_stA Tryd.ti35 rfl rfl LenC.h OneC.h LenC.h) (fun _ => skk rfl) (fun _ => ?_)
        refine wpd_p 4 rfl zz6 trivial (q_pure rfl) rfl (skk rfl) ?_
        refine wpd_done zz6 ?_
        refine ex_then <| wpc_ret ?_
        refine ex_then_ret ?_
        refine retv3 (.inl rfl) rfl (rv_tmp rfl) (rv_agg Tryd.underlying35 rfl Tryd.ti35 rfl (fun w h => h.atB) LenC.h) (rv_tmp rfl) ?_
        exact fun w h => ⟨(dv, pv, kv), zz60, zz49, zz46⟩
       ·
        simp only [bne_eq_false_iff_eq] at hc72
        refine wpc_skip <| ex_then <| wpc_seq ?_
        refine wpc_draw 3 zz6 (fun _ h => h.drew) ?_
        refine wpd_p 0 rfl zz6 trivial (q_pure rfl) rfl sk0 ?_
        refine wpd_q 1 rfl zz6 trivial (q_ldN Tryd.underlying35 rfl Tryd.ti35 rfl LenC.h) rfl (fun _ h => h) ?_
        refine wpd_p 2 rfl zz6 trivial (q_pure rfl) rfl sk0 ?_
        refine wpd_t0 3 rfl zz6 trivial (t_stA Tryd.ti35 rfl rfl LenC.h OneC.h LenC.h) (fun _ => skk rfl) (fun _ => ?_)
        refine wpd_p 4 rfl zz6 trivial (q_pure rfl) rfl (skk rfl) ?_
        refine wpd_done zz6 ?_
        refine ex_then <| wpc_ret ?_
        refine retv3 (.inl rfl) rfl (rv_tmp rfl) (rv_agg Tryd.underlying35 rfl Tryd.ti35 rfl (fun w h => h.atB) LenC.h) (rv_tmp rfl) ?_
        exact fun w h => ⟨b51, by rw [sp_ok hdo hc72]; exact p51, by rw [sp_ok hdo hc72]; first | done | rfl, zz58⟩
      ·
       have hn5 : ¬ x.kd = 5 := by simpa using hc45
       refine wpc_seq <| wpc_region ?_
       refine wpl_q (q8_eql (b := (6 : UInt8)) rfl rfl) rfl ?_
       refine wpl_q (q_pure rfl) rfl <| wpl_nil <| ex_then ?_
       refine wpc_cond rfl (fun hc54 => ?_) (fun hc54 => ?_)
       ·
        have hk : x.kd = 6 := by simpa using hc54
        have hdo := do_6 (s := s) hk
        refine wpc_region <| wpl_q (q_ldN Tryd.underlying35 rfl Tryd.ti35 rfl LenC.h) rfl ?_
        refine wpl_tp (t_callP2 Tryd.hb78 rfl fun w h => open_ s dv pv kv w ⟨hlen, h.seenV, h.seenV, h.seenV, hld, hlp, hlk⟩) rfl (fun b58 p58 => ?_)
        haveI : OneC ((openF s).1.c b58.1 (openP s pv) b58.2) := ⟨St.c_one p58.1 (openP_sv spv) p58.2⟩
        refine wpl_q (q_pure rfl) rfl <| wpl_q (q_pure rfl) rfl <| wpl_q (q_pure rfl) rfl ?_
        refine wpl_t0 (t_stA Tryd.ti35 rfl rfl LenC.h OneC.h LenC.h) (fun _ => ?_)
        refine wpl_q (q_pure rfl) rfl <| wpl_nil <| ex_block <| ex_then <| wpc_seq <| wpc_seq <| wpc_region <| wpl_q (q_pure rfl) rfl <| wpl_q (q_pure rfl) rfl <| wpl_nil <| ex_then ?_
        refine wpc_cond rfl (fun hc72 => ?_) (fun hc72 => ?_)
        ·
         simp only [bne_iff_ne, ne_eq] at hc72
         refine wpc_seq ?_
         refine wpc_draw 3 zz6 (fun _ h => h.drew) ?_
         refine wpd_q 0 rfl zz6 trivial (q_ldN Tryd.underlying35 rfl Tryd.ti35 rfl LenC.h) rfl (fun _ h => h) ?_
         refine wpd_p 1 rfl zz6 trivial (q_pure rfl) rfl sk0 ?_
         refine wpd_p 2 rfl zz6 trivial (q_pure rfl) rfl sk0 ?_
         refine wpd_t0 3 rfl zz6 trivial (t_stA Tryd.ti35 rfl rfl LenC.h OneC.h LenC.h) (fun _ => skk rfl) (fun _ => ?_)
         refine wpd_p 4 rfl zz6 trivial (q_pure rfl) rfl (skk rfl) ?_
         refine wpd_done zz6 ?_
         refine ex_then <| wpc_ret ?_
         refine ex_then_ret ?_
         refine retv3 (.inl rfl) rfl (rv_tmp rfl) (rv_agg Tryd.underlying35 rfl Tryd.ti35 rfl (fun w h => h.atB) LenC.h) (rv_tmp rfl) ?_
         exact fun w h => ⟨(dv, pv, kv), zz60, zz49, zz46⟩
        ·
         simp only [bne_eq_false_iff_eq] at hc72
         refine wpc_skip <| ex_then <| wpc_seq ?_
         refine wpc_draw 3 zz6 (fun _ h => h.drew) ?_
         refine wpd_p 0 rfl zz6 trivial (q_pure rfl) rfl sk0 ?_
         refine wpd_q 1 rfl zz6 trivial (q_ldN Tryd.underlying35 rfl Tryd.ti35 rfl LenC.h) rfl (fun _ h => h) ?_
         refine wpd_p 2 rfl zz6 trivial (q_pure rfl) rfl sk0 ?_
         refine wpd_t0 3 rfl zz6 trivial (t_stA Tryd.ti35 rfl rfl LenC.h OneC.h LenC.h) (fun _ => skk rfl) (fun _ => ?_)
         refine wpd_p 4 rfl zz6 trivial (q_pure rfl) rfl (skk rfl) ?_
         refine wpd_done zz6 ?_
         refine ex_then <| wpc_ret ?_
         refine retv3 (.inl rfl) rfl (rv_tmp rfl) (rv_agg Tryd.underlying35 rfl Tryd.ti35 rfl (fun w h => h.atB) LenC.h) (rv_tmp rfl) ?_
         exact fun w h => ⟨(b58.1, pv, b58.2), by rw [sp_ok hdo hc72, op2 (op_up hc72)]; have p := p58; rw [op2 (op_up hc72)] at p; exact ⟨p.1, spv, p.2⟩, by rw [sp_ok hdo hc72]; first | done | rfl | (rw [op2p (op_up hc72)]), by rw [sp_ok hdo hc72, op2 (op_up hc72)]; rw [op2 (op_up hc72)] at h; dsimp only at h; exact mid_swap (show Mem _ _ [dRow b58.1 (s.dk.take (scanR s.dk).2), kRow b58.2 (scanR s.dk).1, dRow pv s.pd] [] _ from h.sub SubC.h .nil)⟩
       ·
        have hn6 : ¬ x.kd = 6 := by simpa using hc54
        refine wpc_seq <| wpc_region ?_
        refine wpl_q (q8_eql (b := (7 : UInt8)) rfl rfl) rfl ?_
        refine wpl_q (q_pure rfl) rfl <| wpl_nil <| ex_then ?_
        refine wpc_cond rfl (fun hc61 => ?_) (fun hc61 => ?_)
        ·
         have hk : x.kd = 7 := by simpa using hc61
         have hdo := do_7 (s := s) hk
         refine wpc_region <| wpl_q (q_ldN Tryd.underlying35 rfl Tryd.ti35 rfl LenC.h) rfl <| wpl_q (q_field Tryd.underlying70 rfl Tryd.ti25 rfl rfl _ rfl) rfl ?_
         refine wpl_q (q_ld Tryd.underlying25 rfl rfl zz42) rfl ?_
         refine wpl_tp (t_callP3 Tryd.hb13 rfl fun w h => take_ s dv pv kv x.id w ⟨hlen, h.seenV, h.seenV, h.seenV, hld, hlp, hlk⟩) rfl (fun b67 p67 => ?_)
         haveI := OneC.sv p67
         refine wpl_q (q_pure rfl) rfl <| wpl_q (q_pure rfl) rfl <| wpl_q (q_pure rfl) rfl <| wpl_q (q_pure rfl) rfl <| wpl_q (q_pure rfl) rfl ?_
         refine wpl_t0 (t_stA Tryd.ti35 rfl rfl LenC.h OneC.h LenC.h) (fun _ => ?_)
         refine wpl_q (q_pure rfl) rfl <| wpl_nil <| ex_block <| ex_then <| wpc_seq <| wpc_seq <| wpc_region <| wpl_q (q_pure rfl) rfl <| wpl_q (q_pure rfl) rfl <| wpl_nil <| ex_then ?_
         refine wpc_cond rfl (fun hc72 => ?_) (fun hc72 => ?_)
         ·
          simp only [bne_iff_ne, ne_eq] at hc72
          refine wpc_seq ?_
          refine wpc_draw 3 zz6 (fun _ h => h.drew) ?_
          refine wpd_q 0 rfl zz6 trivial (q_ldN Tryd.underlying35 rfl Tryd.ti35 rfl LenC.h) rfl (fun _ h => h) ?_
          refine wpd_p 1 rfl zz6 trivial (q_pure rfl) rfl sk0 ?_
          refine wpd_p 2 rfl zz6 trivial (q_pure rfl) rfl sk0 ?_
          refine wpd_t0 3 rfl zz6 trivial (t_stA Tryd.ti35 rfl rfl LenC.h OneC.h LenC.h) (fun _ => skk rfl) (fun _ => ?_)
          refine wpd_p 4 rfl zz6 trivial (q_pure rfl) rfl (skk rfl) ?_
          refine wpd_done zz6 ?_
          refine ex_then <| wpc_ret ?_
          refine ex_then_ret ?_
          refine retv3 (.inl rfl) rfl (rv_tmp rfl) (rv_agg Tryd.underlying35 rfl Tryd.ti35 rfl (fun w h => h.atB) LenC.h) (rv_tmp rfl) ?_
          exact fun w h => ⟨(dv, pv, kv), zz60, zz49, zz46⟩
         ·
          simp only [bne_eq_false_iff_eq] at hc72
          refine wpc_skip <| ex_then <| wpc_seq ?_
          refine wpc_draw 3 zz6 (fun _ h => h.drew) ?_
          refine wpd_p 0 rfl zz6 trivial (q_pure rfl) rfl sk0 ?_
          refine wpd_q 1 rfl zz6 trivial (q_ldN Tryd.underlying35 rfl Tryd.ti35 rfl LenC.h) rfl (fun _ h => h) ?_
          refine wpd_p 2 rfl zz6 trivial (q_pure rfl) rfl sk0 ?_
          refine wpd_t0 3 rfl zz6 trivial (t_stA Tryd.ti35 rfl rfl LenC.h OneC.h LenC.h) (fun _ => skk rfl) (fun _ => ?_)
          refine wpd_p 4 rfl zz6 trivial (q_pure rfl) rfl (skk rfl) ?_
          refine wpd_done zz6 ?_
          refine ex_then <| wpc_ret ?_
          refine retv3 (.inl rfl) rfl (rv_tmp rfl) (rv_agg Tryd.underlying35 rfl Tryd.ti35 rfl (fun w h => h.atB) LenC.h) (rv_tmp rfl) ?_
          exact fun w h => ⟨b67, by rw [sp_ok hdo hc72]; exact p67, by rw [sp_ok hdo hc72]; first | done | rfl, zz58⟩
        ·
         have hn7 : ¬ x.kd = 7 := by simpa using hc61
         have hdo := do_0 (s := s) hn1 hn2 hn3 hn4 hn5 hn6 hn7
         refine wpc_region <| wpl_q (q_pure rfl) rfl <| wpl_nil <| ex_block <| ex_then <| wpc_seq <| wpc_seq <| wpc_region <| wpl_q (q_pure rfl) rfl <| wpl_q (q_pure rfl) rfl <| wpl_nil <| ex_then ?_
         refine wpc_cond rfl (fun hc72 => ?_) (fun hc72 => ?_)
         ·
          simp only [bne_iff_ne, ne_eq] at hc72
          refine wpc_seq ?_
          refine wpc_draw 3 zz6 (fun _ h => h.drew) ?_
          refine wpd_q 0 rfl zz6 trivial (q_ldN Tryd.underlying35 rfl Tryd.ti35 rfl LenC.h) rfl (fun _ h => h) ?_
          refine wpd_p 1 rfl zz6 trivial (q_pure rfl) rfl sk0 ?_
          refine wpd_p 2 rfl zz6 trivial (q_pure rfl) rfl sk0 ?_
          refine wpd_t0 3 rfl zz6 trivial (t_stA Tryd.ti35 rfl rfl LenC.h OneC.h LenC.h) (fun _ => skk rfl) (fun _ => ?_)
          refine wpd_p 4 rfl zz6 trivial (q_pure rfl) rfl (skk rfl) ?_
          refine wpd_done zz6 ?_
          refine ex_then <| wpc_ret ?_
          refine ex_then_ret ?_
          refine retv3 (.inl rfl) rfl (rv_tmp rfl) (rv_agg Tryd.underlying35 rfl Tryd.ti35 rfl (fun w h => h.atB) LenC.h) (rv_tmp rfl) ?_
          exact fun w h => ⟨(dv, pv, kv), zz60, zz49, zz46⟩
         ·
          simp only [bne_eq_false_iff_eq] at hc72
          refine wpc_skip <| ex_then <| wpc_seq ?_
          refine wpc_draw 3 zz6 (fun _ h => h.drew) ?_
          refine wpd_p 0 rfl zz6 trivial (q_pure rfl) rfl sk0 ?_
          refine wpd_q 1 rfl zz6 trivial (q_ldN Tryd.underlying35 rfl Tryd.ti35 rfl LenC.h) rfl (fun _ h => h) ?_
          refine wpd_p 2 rfl zz6 trivial (q_pure rfl) rfl sk0 ?_
          refine wpd_t0 3 rfl zz6 trivial (t_stA Tryd.ti35 rfl rfl LenC.h OneC.h LenC.h) (fun _ => skk rfl) (fun _ => ?_)
          refine wpd_p 4 rfl zz6 trivial (q_pure rfl) rfl (skk rfl) ?_
          refine wpd_done zz6 ?_
          refine ex_then <| wpc_ret ?_
          refine retv3 (.inl rfl) rfl (rv_tmp rfl) (rv_agg Tryd.underlying35 rfl Tryd.ti35 rfl (fun w h => h.atB) LenC.h) (rv_tmp rfl) ?_
          exact absurd hc72 zz27
end Go.Proofs.YtoaeklbenmlooaaDoor
namespace Go.Proofs.YtoaeklbenmlooaaDoor
open Go Go.PL Go.RowKit
def resC (r : Int × Int) : List Value := [.int .i64 r.1, .int .i64 r.2]
abbrev rcs (rs : List (Int × Int)) : List Value := (rs.map resC).flatten
end Go.Proofs.YtoaeklbenmlooaaDoor
namespace Go.Proofs.YtoaeklbenmlooaaDoor
open Go Go.PL Go.RowKit
def Stp.z : Stp := ⟨0, 0, 0⟩
theorem Stp.c_length (x : Stp) : x.c.length = 3 := rfl
theorem Stp.one (x : Stp) : ∀ u ∈ x.c, u.oneCell' = true := by
  intro u hu
  simp only [Stp.c, List.mem_cons, List.not_mem_nil, or_false] at hu
  rcases hu with rfl | rfl | rfl <;> rfl
theorem resC_one (r : Int × Int) : ∀ u ∈ resC r, u.oneCell' = true := by
  intro u hu
  simp only [resC, List.mem_cons, List.not_mem_nil, or_false] at hu
  rcases hu with rfl | rfl <;> rfl
abbrev scs (l : List Stp) : List Value := (l.map Stp.c).flatten
theorem rcs_snoc (rs : List (Int × Int)) (r : Int × Int) : rcs rs ++ resC r = rcs (rs ++ [r]) := cat_snoc resC rs r
abbrev rRow (v : Value) (rs : List (Int × Int)) : Ent := .row v rs.length 93 2 (rcs rs)
theorem rRow_snoc (v : Value) (rs : List (Int × Int)) (r : Int × Int) : rRow v (rs ++ [r]) = .row v (rs.length + 1) 93 2 (rcs (rs ++ [r])) := by rw [rRow, List.length_append]; rfl
def runF : List Stp → St → List (Int × Int) × St
  | [], s => ([], s)
  | x :: l, s => (((stepF s x).1, (stepF s x).2.2) :: (runF l (stepF s x).2.1).1, (runF l (stepF s x).2.1).2)
theorem runF_snoc : ∀ (l : List Stp) (x : Stp) (s : St), runF (l ++ [x]) s = ((runF l s).1 ++ [((stepF (runF l s).2 x).1, (stepF (runF l s).2 x).2.2)], (stepF (runF l s).2 x).2.1)
  | [], x, s => rfl
  | y :: l, x, s => by
    show ((_ :: (runF (l ++ [x]) _).1, (runF (l ++ [x]) _).2) : List (Int × Int) × St) = _
    rw [runF_snoc l x]; rfl
theorem runF_len : ∀ (l : List Stp) (s : St), (runF l s).1.length = l.length
  | [], _ => rfl
  | _ :: l, s => by show ((_ :: (runF l _).1) : List (Int × Int)).length = _; rw [List.length_cons, runF_len l, List.length_cons]
theorem runF_next {l : List Stp} {i : Nat} {s0 s : St} {rs : List (Int × Int)} (h : i < l.length) (hr : (rs, s) = runF (l.take i) s0) : (rs ++ [((stepF s (l.getD i Stp.z)).1, (stepF s (l.getD i Stp.z)).2.2)], (stepF s (l.getD i Stp.z)).2.1) = runF (l.take (i + 1)) s0 := by
  rw [List.take_add_one, List.getElem?_eq_getElem h, Option.toList_some, runF_snoc, ← hr, List.getD_eq_getElem?_getD, List.getElem?_eq_getElem h]; rfl
structure Bs (s : St) : Prop where
  m : s.ms.length = 32
  d : s.dk.length ≤ 1100
  p : s.pd.length ≤ 1100
  k : s.ks.length ≤ 20
theorem zBs : Bs St.z := ⟨rfl, zz27, zz27, zz27⟩
theorem up_ks {s : St} {b : Bool} (h : upF s b = 0) : s.dk.length + s.pd.length ≤ 1000 ∧ s.ks.length ≤ 8 := by
  obtain ⟨h1, h2⟩ := upF_ok h
  refine ⟨h1.2.2.1, ?_⟩
  cases hu : s.up with
  | false => rw [(h1.2.2.2.1 hu).2]; decide
  | true => rw [← (h1.2.2.2.2 hu).2.2.1]; exact (scanR_ok _).1
theorem writeF_bs {s : St} {bs : List UInt8} (h : Bs s) (hb : bs.length = 10) : Bs (writeF s bs).1 := by
  unfold writeF; split
  · exact zBs
  · exact ⟨h.m, h.d, by show (s.pd ++ bs).length ≤ 1100; rw [List.length_append]; omega, h.k⟩
theorem createF_bs {s : St} {id : UInt32} {ht : Int} (h : Bs s) : Bs (createF s id ht).1 := by
  unfold createF
  split
  · exact zBs
  · rename_i hu
    have hk := up_ks (Decidable.not_not.1 hu)
    split
    · exact zBs
    · split
      · exact zBs
      · split
        · exact zBs
        · exact writeF_bs ⟨h.m, h.d, h.p, by show (s.ks ++ [_]).length ≤ 20; rw [List.length_append, List.length_singleton]; omega⟩ (recB_length _)
theorem reserveF_bs {s : St} {id : UInt32} (h : Bs s) : Bs (reserveF s id).1 := by
  unfold reserveF; split
  · exact zBs
  · split
    · exact zBs
    · exact writeF_bs ⟨h.m, h.d, h.p, by show (s.ks.set _ _).length ≤ 20; rw [List.length_set]; exact h.k⟩ (recB_length _)
theorem dropF_bs {s : St} {id : UInt32} (h : Bs s) : Bs (dropF s id).1 := by
  unfold dropF; split
  · exact zBs
  · exact writeF_bs ⟨h.m, h.d, h.p, by show (s.ks.set _ _).length ≤ 20; rw [List.length_set]; exact h.k⟩ (recB_length _)
theorem syncF_bs {s : St} (h : Bs s) : Bs (syncF s).1 := by
  unfold syncF; split
  · exact zBs
  · rename_i hu
    have hk := up_ks (Decidable.not_not.1 hu)
    exact ⟨h.m, by show (s.dk ++ s.pd).length ≤ 1100; rw [List.length_append]; omega, Nat.zero_le _, by show (durT s.ks s.ks.length).length ≤ 20; rw [durT_len]; exact h.k⟩
theorem crashF_bs {s : St} {k : Int} (h : Bs s) : Bs (crashF s k).1 := by
  unfold crashF; split
  · exact zBs
  · rename_i hu
    have hk := up_ks (Decidable.not_not.1 hu)
    split
    · exact zBs
    · exact ⟨h.m, by show (s.dk ++ s.pd.take k.toNat).length ≤ 1100; rw [List.length_append, List.length_take]; omega, Nat.zero_le _, Nat.zero_le _⟩
theorem openF_bs {s : St} (h : Bs s) : Bs (openF s).1 := by
  unfold openF; split
  · exact zBs
  · exact ⟨h.m, by show (s.dk.take _).length ≤ 1100; rw [List.length_take]; have := h.d; omega, h.p, by show (scanR s.dk).1.length ≤ 20; have := (scanR_ok s.dk).1; omega⟩
theorem takeF_bs {s : St} {id : UInt32} (h : Bs s) : Bs (takeF s id).2.1 := by
  unfold takeF; split
  · exact zBs
  · split
    · exact zBs
    · split
      · exact zBs
      · exact ⟨h.m, h.d, h.p, by show (s.ks.set _ _).length ≤ 20; rw [List.length_set]; exact h.k⟩
theorem stepF_bs {s : St} {x : Stp} (h : Bs s) : Bs (stepF s x).2.1 := by
  unfold stepF; split
  · exact h
  · show Bs (doF s x).2.1
    unfold doF
    split
    · exact createF_bs h
    · split
      · exact reserveF_bs h
      · split
        · exact dropF_bs h
        · split
          · exact syncF_bs h
          · split
            · exact crashF_bs h
            · split
              · exact openF_bs h
              · split
                · exact takeF_bs h
                · exact zBs
theorem newF_bs {m : List UInt8} {n : Int} (h : m.length = 32) : Bs (newF m n).1 := by
  obtain ⟨h1, h2, h3⟩ := newF_nil m n
  exact ⟨newF_len h, by rw [h1]; decide, by rw [h2]; decide, by rw [h3]; decide⟩
def playF (m : List UInt8) (n : Int) (l : List Stp) : List (Int × Int) × St × Int :=
  if ¬ (newF m n).2 = 0 then ([], St.z, (newF m n).2) else if 300 < l.length then ([], St.z, 4) else ((runF l (newF m n).1).1, (runF l (newF m n).1).2, 0)
theorem pl1 {m : List UInt8} {n : Int} {l : List Stp} (h : ¬ (newF m n).2 = 0) : playF m n l = ([], St.z, (newF m n).2) := if_pos h
theorem pl2 {m : List UInt8} {n : Int} {l : List Stp} (h : (newF m n).2 = 0) (h2 : 300 < l.length) : playF m n l = ([], St.z, 4) := by unfold playF; rw [if_neg (fun hh => hh h), if_pos h2]
theorem pl3 {m : List UInt8} {n : Int} {l : List Stp} (h : (newF m n).2 = 0) (h2 : ¬ 300 < l.length) : playF m n l = ((runF l (newF m n).1).1, (runF l (newF m n).1).2, 0) := by unfold playF; rw [if_neg (fun hh => hh h), if_neg h2]
theorem zRows4 {w0 w : World} {Ln : List Nat} {M : List Ent} {S : List Fact} (h : Mem w0 Ln M S w) : Mem w0 Ln [rRow nl [], dRow nl St.z.dk, dRow nl St.z.pd, kRow nl St.z.ks] [] w := (zRows h).nilRow 93 2
instance oneC_res {r : Int × Int} : OneC (resC r) := ⟨resC_one r⟩
instance oneC_sc {l : List Stp} : OneC (scs l) := ⟨cat_one Stp.one l⟩
instance l32_n {m : List UInt8} {n : Int} [h : LenL m 32] : L32 (newF m n).1 := ⟨newF_len h.h⟩
instance l32_stp {s : St} {x : Stp} [h : L32 s] : L32 (stepF s x).2.1 := ⟨by
  unfold stepF; split
  · exact h.h
  · show (doF s x).2.1.ms.length = 32
    unfold doF
    split
    · exact createF_len h.h
    · split
      · exact reserveF_len h.h
      · split
        · exact dropF_len h.h
        · split
          · exact syncF_len h.h
          · split
            · exact crashF_len h.h
            · split
              · exact openF_len h.h
              · split
                · exact takeF_len h.h
                · rfl⟩
theorem svl_at {v : Value} {n : Nat} (h : SV v n) {m : Nat} (e : n = m) : SV v m := e ▸ h
theorem play (m : List UInt8) (n : Int) (lv : Value) (l : List Stp) (w : World) (hm : m.length = 32) (hlv : Seen w.cell? lv l.length 3 (scs l))  :
    Calls Tryd.prog 38 [.agg (v8s m).toArray, .int .i64 n, lv].toArray w (GivesP w (fun y : Value × V3 => SV y.1 (playF m n l).1.length ∧ (playF m n l).2.1.sv y.2) (fun y => .tuple #[y.1, stV (playF m n l).2.1 y.2, .int .i64 (playF m n l).2.2]) (fun y => [rRow y.1 (playF m n l).1, dRow y.2.1 (playF m n l).2.1.dk, dRow y.2.2.1 (playF m n l).2.1.pd, kRow y.2.2.2 (playF m n l).2.1.ks]) (fun _ => [])) := by
  have slv := hlv.sv
  have lllv := slv.le
  simp only [maxLen] at lllv
  haveI : LenL m 32 := ⟨hm⟩
  refine enter (m := 50) (R := Mem w [] [] []) Tryd.func38 rfl rfl (Nat.le_of_ble_eq_true rfl) (Mem.start w) ?_
  refine wpc_seq <| wpc_region ?_
  refine wpl_t (t_box rfl (v8s m) rfl) rfl (fun b3 => ?_)
  refine wpl_q (q_pure rfl) rfl ?_
  refine wpl_t (t_alloc Tryd.ti35 (St.z.c nl nl nl) rfl) rfl (fun b7 => ?_)
  refine wpl_q (q_pure rfl) rfl <| wpl_nil <| ex_then <| wpc_seq <| wpc_region <| wpl_q (q_ldN Tryd.underlying24 rfl Tryd.ti24 rfl LenC.h) rfl <| wpl_q (q_pure rfl) rfl ?_
  refine wpl_t (t_pur Tryd.hb58 rfl fun w h => new_ _ _ w zz54) rfl (fun b15 => ?_)
  refine wpl_q (q_pure rfl) rfl <| wpl_q (q_pure rfl) rfl <| wpl_q (q_pure rfl) rfl ?_
  refine wpl_t0 (t_stA Tryd.ti35 rfl rfl LenC.h OneC.h LenC.h) (fun _ => ?_)
  refine wpl_q (q_pure rfl) rfl <| wpl_nil <| ex_then <| wpc_seq <| wpc_block <| wpc_seq <| wpc_region <| wpl_q (q_pure rfl) rfl <| wpl_q (q_pure rfl) rfl <| wpl_q (q_pure rfl) rfl <| wpl_nil <| ex_then ?_
  refine wpc_cond rfl (fun hc18 => ?_) (fun hc18 => ?_)
  ·
   simp only [bne_iff_ne, ne_eq] at hc18
   refine wpc_seq <| wpc_region ?_
   refine wpl_q (q_build (cs := St.z.c nl nl nl) rfl built_st0) rfl ?_
   refine wpl_q (q_pure rfl) rfl <| wpl_q (q_pure rfl) rfl ?_
   refine wpl_t0 (t_stA Tryd.ti35 rfl rfl LenC.h OneC.h LenC.h) (fun _ => ?_)
   refine wpl_q (q_pure rfl) rfl <| wpl_nil <| ex_then <| wpc_ret ?_
   refine ex_block_ret ?_
   refine ex_then_ret ?_
   refine retv3 (.inl rfl) rfl (rv_tmp rfl) (rv_agg Tryd.underlying35 rfl Tryd.ti35 rfl (fun w h => h.atB) LenC.h) (rv_tmp rfl) ?_
   exact fun w h => ⟨(nl, nl, nl, nl), by rw [pl1 hc18]; exact ⟨SV.nil, zSV⟩, by rw [pl1 hc18]; first | done | rfl, h.below, by rw [pl1 hc18]; exact (zRows4 h).made SubC.h .nil⟩
  ·
   simp only [bne_eq_false_iff_eq] at hc18
   have hnw := hc18
   refine wpc_seq <| wpc_region <| wpl_q (q_pure rfl) rfl ?_
   refine wpl_q (q_lenW Tryd.underlying71 rfl zz3) rfl ?_
   refine wpl_q (q_pure rfl) rfl <| wpl_q (q_pure rfl) rfl <| wpl_nil <| ex_then ?_
   refine wpc_cond rfl (fun hc23 => ?_) (fun hc23 => ?_)
   ·
    simp only [decide_eq_true_eq] at hc23
    refine wpc_seq <| wpc_region ?_
    refine wpl_q (q_build (cs := St.z.c nl nl nl) rfl built_st0) rfl ?_
    refine wpl_q (q_pure rfl) rfl ?_
    refine wpl_t0 (t_stA Tryd.ti35 rfl rfl LenC.h OneC.h LenC.h) (fun _ => ?_)
    refine wpl_q (q_pure rfl) rfl <| wpl_nil <| ex_then <| wpc_ret ?_
    refine ex_block_ret ?_
    refine ex_then_ret ?_
    refine retv3 (.inl rfl) rfl (rv_tmp rfl) (rv_agg Tryd.underlying35 rfl Tryd.ti35 rfl (fun w h => h.atB) LenC.h) (rv_tmp rfl) ?_
    exact fun w h => ⟨(nl, nl, nl, nl), by rw [pl2 hnw zz16]; exact ⟨SV.nil, zSV⟩, by rw [pl2 hnw zz16]; first | done | rfl, h.below, by rw [pl2 hnw zz16]; exact (zRows4 h).made SubC.h .nil⟩
   ·
    simp only [decide_eq_false_iff_not] at hc23
    have hsh : ¬ 300 < l.length := by omega
    refine wpc_skip <| ex_block <| ex_then <| wpc_seq <| wpc_seq <| wpc_region <| wpl_q (q_pure rfl) rfl ?_
    refine wpl_q (q_lenW Tryd.underlying71 rfl zz3) rfl ?_
    refine wpl_q (q_pure rfl) rfl <| wpl_nil <| ex_then <| wpc_block ?_
    refine wpc_loopc (ι := { x : Nat × St × V3 × Value × List (Int × Int) // (x.1 ≤ l.length) ∧ ((x.2.2.2.2, x.2.1) = runF (l.take x.1) (newF m n).1) ∧ (SV x.2.2.2.1 x.2.2.2.2.length) ∧ (x.2.1.sv x.2.2.1) ∧ (Bs x.2.1) }) [(7, _), (28, _), (29, _)] (fun x Lc => (30, .int .i64 ((x.1.1 : Nat) : Int)) :: (6, x.1.2.2.2.1) :: Lc) (fun x => Mem w [] [.blk b7 35 (x.1.2.1.c x.1.2.2.1.1 x.1.2.2.1.2.1 x.1.2.2.1.2.2), rRow x.1.2.2.2.1 x.1.2.2.2.2, dRow x.1.2.2.1.1 x.1.2.1.dk, dRow x.1.2.2.1.2.1 x.1.2.1.pd, kRow x.1.2.2.1.2.2 x.1.2.1.ks] []) (fun x => l.length - x.1.1) ⟨(0, (newF m n).1, (nl, nl, nl), nl, []), ⟨Nat.zero_le _, rfl, SV.nil, by obtain ⟨e1, e2, e3⟩ := newF_nil m n; exact ⟨by rw [e1]; exact SV.nil, by rw [e2]; exact SV.nil, by rw [e3]; exact SV.nil⟩, newF_bs hm⟩⟩ zz14 ?_ ?_
    ·
     exact fun w h => by
       obtain ⟨e1, e2, e3⟩ := newF_nil m n
       have h2 : Mem _ _ [.blk b7 35 ((newF m n).1.c nl nl nl)] [] w := h.sub SubC.h .nil
       dsimp only
       rw [e1, e2, e3]
       have h3 : Mem _ _ [rRow nl [], dRow nl [], dRow nl [], kRow nl [], .blk b7 35 ((newF m n).1.c nl nl nl)] [] w := ((((h2.nilRow 40 6).nilRow 5 1).nilRow 5 1).nilRow 93 2)
       exact h3.sel
    ·
     rintro ⟨⟨i, s, y, v, rs⟩, ⟨hi0, hi1, hi2, hi3, hi4⟩⟩; try dsimp only
     have hi0 : i ≤ l.length := hi0; have hi1 : (rs, s) = runF (l.take i) (newF m n).1 := hi1; have hi2 : SV v rs.length := hi2; have hi3 : s.sv y := hi3; have hi4 : Bs s := hi4
     have hrl : rs.length = i := by
       have e := congrArg (fun p : List (Int × Int) × St => p.1.length) hi1
       simp only [runF_len, List.length_take] at e
       omega
     haveI : L32 s := ⟨hi4.m⟩
     haveI := OneC.sv hi3
     refine wpc_seq <| wpc_region <| wpl_q (q_pure rfl) rfl <| wpl_nil <| ex_then <| wpc_seq ?_
     refine wpc_cond rfl (fun hc31 => ?_) (fun hc31 => ?_)
     ·
      simp only [decide_eq_true_eq] at hc31
      have hil : i < l.length := by omega
      refine wpc_skip <| ex_then <| wpc_seq <| wpc_block <| wpc_seq <| wpc_region ?_
      refine wpl_q (q_idxW Tryd.underlying71 Tryd.ti70 rfl rfl zz3 zz1) rfl ?_
      refine wpl_q (q_ldWN Tryd.underlying70 rfl Tryd.ti70 rfl (fun w h => h.seen_old hlv) (l.getD i Stp.z).c (cat_part Stp.c_length Stp.z hil) rfl) rfl ?_
      refine wpl_t (t_alloc Tryd.ti70 Stp.z.c rfl) rfl (fun b10 => ?_)
      refine wpl_t0 (t_stA Tryd.ti70 rfl rfl LenC.h OneC.h LenC.h) (fun _ => ?_)
      refine wpl_nil <| ex_then <| wpc_seq <| wpc_region ?_
      refine wpl_t (t_alloc Tryd.ti93 [.int .i64 0, .int .i64 0] rfl) rfl (fun b11 => ?_)
      refine wpl_nil <| ex_then <| wpc_seq <| wpc_region <| wpl_q (q_ldN Tryd.underlying35 rfl Tryd.ti35 rfl LenC.h) rfl <| wpl_q (q_ldN Tryd.underlying70 rfl Tryd.ti70 rfl LenC.h) rfl ?_
      refine wpl_tp (t_callL [dRow y.1 s.dk, dRow y.2.1 s.pd, kRow y.2.2 s.ks] [.blk b11 93 [.int .i64 0, .int .i64 0], .blk b10 70 (l.getD i Stp.z).c, .blk b7 35 (s.c y.1 y.2.1 y.2.2), rRow v rs] [dRow y.1 s.dk, dRow y.2.1 s.pd, kRow y.2.2 s.ks, .blk b11 93 [.int .i64 0, .int .i64 0], .blk b10 70 (l.getD i Stp.z).c, .blk b7 35 (s.c y.1 y.2.1 y.2.2), rRow v rs] (fun x => [dRow x.1 (stepF s (l.getD i Stp.z)).2.1.dk, dRow x.2.1 (stepF s (l.getD i Stp.z)).2.1.pd, kRow x.2.2 (stepF s (l.getD i Stp.z)).2.1.ks, .blk b11 93 [.int .i64 0, .int .i64 0], .blk b10 70 (l.getD i Stp.z).c, .blk b7 35 (s.c y.1 y.2.1 y.2.2), rRow v rs]) rfl inferInstance (fun _ => rfl) Tryd.hb59 rfl fun w h h2 => step_ s y.1 y.2.1 y.2.2 (l.getD i Stp.z) w h2 hi4.m hi3 (by have := hi4.d; omega) (by have := hi4.p; omega) (by have := hi4.k; omega)) rfl (fun b37 p37 => ?_)
      haveI := OneC.sv p37
      refine wpl_q (q_pure rfl) rfl <| wpl_q (q_pure rfl) rfl <| wpl_q (q_pure rfl) rfl <| wpl_q (q_pure rfl) rfl <| wpl_q (q_field Tryd.underlying93 rfl Tryd.ti3 rfl rfl _ rfl) rfl ?_
      refine wpl_t0 (t_st1 Tryd.ti3 rfl rfl rfl zz5 _ rfl) (fun _ => ?_)
      refine wpl_t0 (t_stA Tryd.ti35 rfl rfl LenC.h OneC.h LenC.h) (fun _ => ?_)
      refine wpl_q (q_field Tryd.underlying93 rfl Tryd.ti41 rfl rfl _ rfl) rfl ?_
      refine wpl_t0 (t_st1 Tryd.ti41 rfl rfl rfl zz5 _ (by first | exact vns_set _ | rfl)) (fun _ => ?_)
      refine wpl_nil <| ex_then <| wpc_region <| wpl_q (q_pure rfl) rfl <| wpl_q (q_ldN Tryd.underlying93 rfl Tryd.ti93 rfl rfl) rfl ?_
      refine wpl_tp (t_bsG [.agg (resC ((stepF s (l.getD i Stp.z)).1, (stepF s (l.getD i Stp.z)).2.2)).toArray] (resC ((stepF s (l.getD i Stp.z)).1, (stepF s (l.getD i Stp.z)).2.2)) Tryd.underlying89 Tryd.ti93 rfl zz27 rfl zz27 zz27 rfl (by intro v hv; rw [List.mem_singleton] at hv; subst hv; rfl) (List.append_nil _)) rfl (fun b45 p45 => ?_)
      refine wpl_tp (t_apW Tryd.underlying89 Tryd.ti93 rfl zz27 rfl rfl (fun w h => zz9) OneC.h zz1 zz1 (rcs (rs ++ [((stepF s (l.getD i Stp.z)).1, (stepF s (l.getD i Stp.z)).2.2)])) (rcs_snoc _ _)) rfl (fun b46 p46 => ?_)
      refine wpl_q (q_pure rfl) rfl <| wpl_nil <| ex_block <| ex_then <| wpc_region ?_
      refine wpl_q (q_addN (b := 1) rfl rfl zz1) rfl ?_
      refine wpl_q (q_pure rfl) rfl <| wpl_nil ?_
      refine ex_again ⟨(i + 1, (stepF s (l.getD i Stp.z)).2.1, b37, b46, rs ++ [((stepF s (l.getD i Stp.z)).1, (stepF s (l.getD i Stp.z)).2.2)]), ⟨zz16, runF_next hil hi1, svl_at p46 (by rw [List.length_append]; rfl), p37, stepF_bs hi4⟩⟩ ?_ ?_ ?_
      ·
       exact zz14
      ·
       exact fun w h => by dsimp only; rw [rRow_snoc]; exact h.sel
      ·
       (show l.length - (i + 1) < l.length - i); omega
     ·
      simp only [decide_eq_false_iff_not] at hc31
      obtain rfl : i = l.length := by omega
      rw [List.take_length] at hi1
      refine wpc_exit ?_
      refine ex_then_exit ?_
      refine ex_then_exit ?_
      refine ex_block_hit ?_
      refine ex_then <| wpc_seq ?_
      refine wpc_draw 3 zz6 (fun _ h => h.drew) ?_
      refine wpd_p 0 rfl zz6 trivial (q_pure rfl) rfl sk0 ?_
      refine wpd_q 1 rfl zz6 trivial (q_ldN Tryd.underlying35 rfl Tryd.ti35 rfl LenC.h) rfl (fun _ h => h) ?_
      refine wpd_p 2 rfl zz6 trivial (q_pure rfl) rfl sk0 ?_
      refine wpd_t0 3 rfl zz6 trivial (t_stA Tryd.ti35 rfl rfl LenC.h OneC.h LenC.h) (fun _ => skk rfl) (fun _ => ?_)
      refine wpd_p 4 rfl zz6 trivial (q_pure rfl) rfl (skk rfl) ?_
      refine wpd_done zz6 ?_
      refine ex_then <| wpc_ret ?_
      refine retv3 (.inl rfl) rfl (rv_tmp rfl) (rv_agg Tryd.underlying35 rfl Tryd.ti35 rfl (fun w h => h.atB) LenC.h) (rv_tmp rfl) ?_
      exact fun w h => ⟨(v, y), by rw [pl3 hnw hsh, ← hi1]; exact ⟨hi2, hi3⟩, by rw [pl3 hnw hsh, ← hi1]; first | done | rfl, h.below, by rw [pl3 hnw hsh, ← hi1]; exact h.sel.made (Sub.refl _) .nil⟩
end Go.Proofs.YtoaeklbenmlooaaDoor
namespace Go.Proofs.YtoaeklbenmlooaaDoor
open Go Go.PL Go.RowKit
def Ext (a b : List KE) : Prop := a.length ≤ b.length ∧ ∀ i, i < a.length → (b.getD i KE.z).id = (a.getD i KE.z).id ∧ (b.getD i KE.z).ht = (a.getD i KE.z).ht ∧ (a.getD i KE.z).ak ≤ (b.getD i KE.z).ak ∧ ((a.getD i KE.z).dr = true → (b.getD i KE.z).dr = true)
theorem Ext.refl (a : List KE) : Ext a a := ⟨Nat.le_refl _, fun i _ => ⟨rfl, rfl, Int.le_refl _, id⟩⟩
theorem Ext.trans {a b c : List KE} (h1 : Ext a b) (h2 : Ext b c) : Ext a c := ⟨Nat.le_trans h1.1 h2.1, fun i hi => by
  obtain ⟨p1, p2, p3, p4⟩ := h1.2 i hi
  obtain ⟨q1, q2, q3, q4⟩ := h2.2 i (Nat.lt_of_lt_of_le hi h1.1)
  exact ⟨q1.trans p1, q2.trans p2, Int.le_trans p3 q3, fun h => q4 (p4 h)⟩⟩
theorem getD_set {ks : List KE} {i j : Nat} {k : KE} (hi : i < ks.length) : (ks.set j k).getD i KE.z = if j = i then k else ks.getD i KE.z := by
  rw [List.getD_eq_getElem?_getD, List.getD_eq_getElem?_getD, List.getElem?_set]
  split
  · rename_i h; subst h; rw [if_pos hi]; rfl
  · rfl
theorem getD_snoc {ks : List KE} {i : Nat} {k : KE} (hi : i < ks.length) : (ks ++ [k]).getD i KE.z = ks.getD i KE.z := by
  rw [List.getD_eq_getElem?_getD, List.getD_eq_getElem?_getD, List.getElem?_append_left hi]
theorem Ext.snoc (a : List KE) (k : KE) : Ext a (a ++ [k]) := ⟨by rw [List.length_append]; omega, fun i hi => by rw [getD_snoc hi]; exact ⟨rfl, rfl, Int.le_refl _, id⟩⟩
theorem Ext.set (a : List KE) (j : Nat) (k : KE) (h1 : k.id = (a.getD j KE.z).id) (h2 : k.ht = (a.getD j KE.z).ht) (h3 : (a.getD j KE.z).ak ≤ k.ak) (h4 : (a.getD j KE.z).dr = true → k.dr = true) : Ext a (a.set j k) := ⟨by rw [List.length_set]; exact Nat.le_refl _, fun i hi => by
  rw [getD_set hi]
  split
  · rename_i h; subst h; exact ⟨h1, h2, h3, h4⟩
  · exact ⟨rfl, rfl, Int.le_refl _, id⟩⟩
def KGood (k : KE) : Prop := k.nx = k.ak ∧ k.du = k.ak ∧ 0 ≤ k.ht ∧ k.ht ≤ 4 ∧ 0 ≤ k.ak ∧ k.ak ≤ ((2 ^ k.ht.toNat : Nat) : Int)
def KGs (ks : List KE) : Prop := ∀ k ∈ ks, KGood k
theorem KGs.get {ks : List KE} (h : KGs ks) {i : Nat} (hi : i < ks.length) : KGood (ks.getD i KE.z) := by
  refine h _ ?_
  rw [List.getD_eq_getElem?_getD, List.getElem?_eq_getElem hi]; exact List.getElem_mem hi
theorem readF_grow {ks k' : List KE} {r : Rec} (hg : KGs ks) (hr : readF ks r = some k') : Ext ks k' ∧ KGs k' := by
  unfold readF at hr
  by_cases h1 : r.k = 1
  · rw [if_pos h1] at hr
    split at hr
    · cases hr
    · rename_i hc
      cases hr
      refine ⟨Ext.snoc _ _, fun k hk => ?_⟩
      rcases List.mem_append.1 hk with hk | hk
      · exact hg k hk
      · rw [List.mem_singleton] at hk; subst hk
        refine ⟨rfl, rfl, ?_, ?_, Int.le_refl _, ?_⟩
        · dsimp only; omega
        · dsimp only; omega
        · exact Int.natCast_nonneg _
  · rw [if_neg h1] at hr
    dsimp only at hr
    split at hr
    · cases hr
    · rename_i hc
      obtain ⟨hl, he⟩ := place_nat (ks := ks) (id := r.id) (by apply Int.not_lt.1; exact fun h => hc (.inl h))
      have hk := hg.get hl
      split at hr
      · split at hr
        · cases hr
        · rename_i hd
          cases hr
          refine ⟨Ext.set _ _ _ rfl rfl (by dsimp only; omega) id, fun k hk' => ?_⟩
          rcases List.mem_or_eq_of_mem_set hk' with hk' | rfl
          · exact hg k hk'
          · obtain ⟨g1, g2, g3, g4, g5, g6⟩ := hk
            have hh : (ks.getD (placeF ks r.id).toNat KE.z).ht = ((r.h.toNat : Nat) : Int) := Decidable.not_not.1 fun h => hc (.inr (.inr h))
            refine ⟨rfl, rfl, g3, g4, Int.natCast_nonneg _, ?_⟩
            show ((r.v.toNat : Nat) : Int) ≤ ((2 ^ (ks.getD (placeF ks r.id).toNat KE.z).ht.toNat : Nat) : Int)
            rw [hh, Int.toNat_natCast]; omega
      · split at hr
        · split at hr
          · cases hr
          · cases hr
            refine ⟨Ext.set _ _ _ rfl rfl (Int.le_refl _) (fun _ => rfl), fun k hk' => ?_⟩
            rcases List.mem_or_eq_of_mem_set hk' with hk' | rfl
            · exact hg k hk'
            · exact hk
        · cases hr
theorem scanF_grow : ∀ (rs : List Rec) {ks : List KE}, KGs ks → Ext ks (scanF ks rs).1 ∧ KGs (scanF ks rs).1
  | [], ks, h => ⟨Ext.refl _, h⟩
  | r :: rs, ks, h => by
    rw [scanF]
    cases hr : readF ks r with
    | none => exact ⟨Ext.refl _, h⟩
    | some k' =>
      obtain ⟨h1, h2⟩ := readF_grow h hr
      obtain ⟨h3, h4⟩ := scanF_grow rs h2
      exact ⟨h1.trans h3, h4⟩
theorem scanR_good (bs : List UInt8) : KGs (scanR bs).1 := (scanF_grow (recs bs) (ks := []) (fun k hk => by cases hk)).2
theorem scanR_ext {dk : List UInt8} (pd : List UInt8) (h : (scanR dk).2 = dk.length) : Ext (scanR dk).1 (scanR (dk ++ pd)).1 := by
  rw [scanR_app pd h]
  exact (scanF_grow _ (scanR_good dk)).1
end Go.Proofs.YtoaeklbenmlooaaDoor
namespace Go.Proofs.YtoaeklbenmlooaaDoor
open Go Go.PL Go.RowKit
theorem idxFrom_ids {id : UInt32} : ∀ (a b : List KE) (i : Nat), ids a = ids b → idxFrom (isId id) a i = idxFrom (isId id) b i
  | [], [], _, _ => rfl
  | [], _ :: _, _, h => by simp [ids] at h
  | _ :: _, [], _, h => by simp [ids] at h
  | x :: a, y :: b, i, h => by
    simp only [ids, List.map_cons, List.cons.injEq] at h
    rw [idxFrom, idxFrom, idxFrom_ids a b (i + 1) h.2]
    simp only [isId, h.1]
theorem place_ids {a b : List KE} (id : UInt32) (h : ids a = ids b) : placeF a id = placeF b id := idxFrom_ids a b 0 h
theorem durF_le {s : St} (hU : ChkU s) {i : Nat} (hi : i < s.ks.length) : durF (scanR s.dk).1 i ≤ ((scanR (s.dk ++ s.pd)).1.getD i KE.z).ak := by
  unfold durF
  split
  · rename_i hd; exact ((scanR_ext s.pd hU.1).2 i hd).2.2.1
  · exact ((scanR_good _).get (by rw [hU.2.2.1]; exact hi)).2.2.2.2.1
end Go.Proofs.YtoaeklbenmlooaaDoor
namespace Go.Proofs.YtoaeklbenmlooaaDoor
open Go Go.PL Go.RowKit
theorem play_eq {m : List UInt8} {n : Int} {l : List Stp} {rs : List (Int × Int)} {s : St} {e : Int} (hp : playF m n l = (rs, s, e)) (lv : Value) (w : World) (hm : m.length = 32) (hlv : Seen w.cell? lv l.length 3 (scs l)) :
    Calls Tryd.prog 38 [.agg (v8s m).toArray, .int .i64 n, lv].toArray w (GivesP w (fun y : Value × V3 => SV y.1 rs.length ∧ s.sv y.2) (fun y => .tuple #[y.1, stV s y.2, .int .i64 e]) (fun y => [rRow y.1 rs, dRow y.2.1 s.dk, dRow y.2.2.1 s.pd, kRow y.2.2.2 s.ks]) (fun _ => [])) := by
  have h := play m n lv l w hm hlv
  rw [hp] at h; exact h
def h1L : List UInt8 := 1 :: List.replicate 31 0
theorem h1L_len : h1L.length = 32 := rfl
def a1 : Stp := ⟨1, 7, 2⟩
def a2 : Stp := ⟨2, 7, 0⟩
def a3 : Stp := ⟨4, 0, 0⟩
def a4 : Stp := ⟨7, 7, 0⟩
def a5 : Stp := ⟨5, 0, 0⟩
def a6 : Stp := ⟨6, 0, 0⟩
def s1L : St := ⟨h1L, 3, true, [], [1, 2, 0, 0, 0, 0, 0, 7, 0, 61], [⟨7, 2, 0, 0, 0, false⟩]⟩
def s7L : St := ⟨h1L, 3, true, [1, 2, 0, 0, 0, 0, 0, 7, 0, 61, 2, 2, 0, 3, 0, 0, 0, 7, 0, 74], [], [⟨7, 2, 3, 3, 3, false⟩]⟩
def s8L : St := ⟨h1L, 3, true, [1, 2, 0, 0, 0, 0, 0, 7, 0, 61, 2, 2, 0, 3, 0, 0, 0, 7, 0, 74], [2, 2, 0, 4, 0, 0, 0, 7, 0, 78], [⟨7, 2, 3, 3, 4, false⟩]⟩
instance l32_1 : L32 s1L := ⟨rfl⟩
instance l32_7 : L32 s7L := ⟨rfl⟩
instance l32_8 : L32 s8L := ⟨rfl⟩
theorem play_1 : playF h1L 3 [a1] = ([(0, 0)], s1L, 0) := by kernel_rfl
theorem play_7 : playF h1L 3 [a1, a2, a3, a4, a4, a5, a6] = ([(0, 0), (0, 0), (0, 0), (0, 0), (1, 0), (0, 0), (0, 0)], s7L, 0) := by kernel_rfl
theorem res_8 : reserveF s7L 7 = (s8L, 0) := by kernel_rfl
theorem getD_res {rs : List (Int × Int)} (h : ∀ r ∈ rs, r.2 = 0) {i : Nat} (hi : i < rs.length) : (rs.getD i (0, 0)).2 = 0 := by
  rw [List.getD_eq_getElem?_getD, List.getElem?_eq_getElem hi]; exact h _ (List.getElem_mem hi)
theorem reserve_8 (y : V3) (w : World) (hs : StS w.cell? s7L y.1 y.2.1 y.2.2) : Calls Tryd.prog 26 [.agg (s7L.c y.1 y.2.1 y.2.2).toArray, .int .u32 7].toArray w (GivesP w (fun x : V3 => s8L.sv x) (fun x => .tuple #[stV s8L x, .int .i64 0]) (fun x => [dRow x.1 s8L.dk, dRow x.2.1 s8L.pd, kRow x.2.2 s8L.ks]) (fun _ => [])) := by
  have h := reserve s7L y.1 y.2.1 y.2.2 7 w hs
  rw [res_8] at h; exact h
theorem made (lv : Value) (l : List Stp) (w : World) (hlv : Seen w.cell? lv l.length 3 (scs l)) (rs : List (Int × Int)) (s : St) (hpl : playF h1L 3 l = (rs, s, 0)) (hrl : rs.length = l.length) (hgd : ∀ r ∈ rs, r.2 = 0) (hsm : s.ms.length = 32) :
    Calls Tryd.prog 25 [lv].toArray w (GivesP w (fun y : V3 => s.sv y) (fun y => .tuple #[stV s y, .bool true]) (fun y => [dRow y.1 s.dk, dRow y.2.1 s.pd, kRow y.2.2 s.ks]) (fun _ => [])) := by
  have slv := hlv.sv
  have lllv := slv.le
  simp only [maxLen] at lllv
  haveI : L32 s := ⟨hsm⟩
  refine enter (m := 39) (R := Mem w [] [] []) Tryd.func25 rfl rfl (Nat.le_of_ble_eq_true rfl) (Mem.start w) ?_
  refine wpc_seq <| wpc_region ?_
  refine wpl_t (t_alloc Tryd.ti35 (St.z.c nl nl nl) rfl) rfl (fun b2 => ?_)
  refine wpl_q (q_pure rfl) rfl <| wpl_nil <| ex_then <| wpc_seq <| wpc_region ?_
  refine wpl_q (q_build (cs := v8s h1L) rfl (built_array Tryd.underlying24 Tryd.ti24 Tryd.ti5 rfl)) rfl ?_
  refine wpl_q (q_pure rfl) rfl ?_
  refine wpl_tp (t_callP4 Tryd.hb38 rfl fun w h => play_eq hpl lv w h1L_len zz15) rfl (fun b11 p11 => ?_)
  obtain ⟨q1, q2⟩ := p11
  haveI := OneC.sv q2
  refine wpl_q (q_pure rfl) rfl <| wpl_q (q_pure rfl) rfl <| wpl_q (q_pure rfl) rfl <| wpl_q (q_pure rfl) rfl ?_
  refine wpl_t (t_alloc Tryd.ti35 (St.z.c nl nl nl) rfl) rfl (fun b5 => ?_)
  refine wpl_q (q_pure rfl) rfl ?_
  refine wpl_t0 (t_stA Tryd.ti35 rfl rfl LenC.h OneC.h LenC.h) (fun _ => ?_)
  refine wpl_q (q_pure rfl) rfl <| wpl_nil <| ex_then <| wpc_seq <| wpc_seq <| wpc_region <| wpl_q (q_pure rfl) rfl <| wpl_q (q_pure rfl) rfl <| wpl_q (q_pure rfl) rfl ?_
  refine wpl_bool2 17 16 rfl rfl (fun hb17 => ?_) (fun hb17 => ?_)
  ·
   simp at hb17
  ·
   refine wpl_on rfl rfl <| wpl_q (q_pure rfl) rfl <| wpl_on rfl rfl ?_
   refine wpl_q (q_lenW Tryd.underlying89 rfl zz3) rfl ?_
   refine wpl_on rfl rfl <| wpl_q (q_pure rfl) rfl <| wpl_on rfl rfl ?_
   refine wpl_q (q_lenW Tryd.underlying71 rfl zz3) rfl ?_
   refine wpl_on rfl rfl <| wpl_q (q_pure rfl) rfl <| wpl_q (q_pure rfl) rfl <| wpl_nil <| ex_then ?_
   refine wpc_cond rfl (fun hc23 => ?_) (fun hc23 => ?_)
   ·
    exact absurd hc23 (by simp [hrl])
   ·
    refine wpc_skip <| ex_then <| wpc_seq <| wpc_seq <| wpc_region <| wpl_q (q_pure rfl) rfl <| wpl_nil <| ex_then <| wpc_block ?_
    refine wpc_loopc (ι := { x : Nat // (x ≤ rs.length) }) [(2, _), (4, _), (5, _)] (fun x Lc => (7, .int .i64 ((x.1 : Nat) : Int)) :: Lc) (fun x => Mem w [] [.blk b5 35 (s.c b11.2.1 b11.2.2.1 b11.2.2.2), .blk b2 35 (St.z.c nl nl nl), rRow b11.1 rs, dRow b11.2.1 s.dk, dRow b11.2.2.1 s.pd, kRow b11.2.2.2 s.ks] []) (fun x => rs.length - x.1) ⟨0, (Nat.zero_le _)⟩ zz14 ?_ ?_
    ·
     exact fun w h => h.sel
    ·
     rintro ⟨i, hi0⟩; try dsimp only
     have hi0 : i ≤ rs.length := hi0
     refine wpc_seq <| wpc_seq <| wpc_region <| wpl_q (q_pure rfl) rfl <| wpl_q (q_pure rfl) rfl ?_
     refine wpl_q (q_lenW Tryd.underlying89 rfl zz3) rfl ?_
     refine wpl_q (q_pure rfl) rfl <| wpl_nil <| ex_then ?_
     refine wpc_cond rfl (fun hc28 => ?_) (fun hc28 => ?_)
     ·
      simp only [decide_eq_true_eq] at hc28
      have hil : i < rs.length := by omega
      refine wpc_skip <| ex_then <| wpc_seq <| wpc_block <| wpc_seq <| wpc_region <| wpl_q (q_pure rfl) rfl <| wpl_q (q_pure rfl) rfl ?_
      refine wpl_q (q_idxW Tryd.underlying89 Tryd.ti93 rfl rfl zz3 zz1) rfl ?_
      refine wpl_q (q_fieldPo 1 Tryd.underlying93 rfl Tryd.ti41 rfl rfl rfl) rfl ?_
      refine wpl_q (q_ldWF Tryd.underlying41 rfl rfl (fun w h => show Seen w.cell? b11.1 rs.length 2 (rcs rs) from h.seenV) (cat_get (c := resC) (k := 2) (fun _ => rfl) (0, 0) hil rfl)) rfl ?_
      refine wpl_q (q_pure rfl) rfl <| wpl_nil <| ex_then ?_
      refine wpc_cond rfl (fun hc36 => ?_) (fun hc36 => ?_)
      ·
       exact absurd hc36 (by rw [getD_res hgd hil]; decide)
      ·
       try simp only [decide_eq_true_eq, decide_eq_false_iff_not, Bool.and_eq_true, Bool.or_eq_true, beq_iff_eq, bne_iff_ne, ne_eq, Bool.not_eq_true', Bool.not_eq_false', Decidable.not_not] at hc36
       refine wpc_skip <| ex_block <| ex_then <| wpc_region <| wpl_q (q_pure rfl) rfl ?_
       refine wpl_q (q_addN (b := 1) rfl rfl zz1) rfl ?_
       refine wpl_q (q_pure rfl) rfl <| wpl_nil ?_
       refine ex_again ⟨i + 1, zz30⟩ ?_ ?_ ?_
       ·
        exact zz14
       ·
        exact fun w h => by first | exact h | exact h.sub SubC.h SubC.h | exact h.sub zz8 zz8
       ·
        (show rs.length - (i + 1) < rs.length - i); omega
     ·
      try simp only [decide_eq_true_eq, decide_eq_false_iff_not, Bool.and_eq_true, Bool.or_eq_true, beq_iff_eq, bne_iff_ne, ne_eq, Bool.not_eq_true', Bool.not_eq_false', Decidable.not_not] at hc28
      refine wpc_exit ?_
      refine ex_then_exit ?_
      refine ex_then_exit ?_
      refine ex_block_hit ?_
      refine ex_then <| wpc_seq <| wpc_region <| wpl_q (q_ldN Tryd.underlying35 rfl Tryd.ti35 rfl LenC.h) rfl ?_
      refine wpl_t0 (t_stA Tryd.ti35 rfl rfl LenC.h OneC.h LenC.h) (fun _ => ?_)
      refine wpl_q (q_pure rfl) rfl <| wpl_nil <| ex_then <| wpc_ret ?_
      refine retv2 (.inl rfl) rfl (rv_agg Tryd.underlying35 rfl Tryd.ti35 rfl (fun w h => h.atB) LenC.h) (rv_tmp rfl) ?_
      exact fun w h => ⟨b11.2, q2, by first | done | rfl, h.below, h.sel.made (Sub.refl _) .nil⟩
theorem alive  (w : World)   :
    Calls Tryd.prog 10 [].toArray w (Pur w (.bool true)) := by
  refine enter (m := 64) (R := Mem w [] [] []) Tryd.func10 rfl rfl (Nat.le_of_ble_eq_true rfl) (Mem.start w) ?_
  refine wpc_seq <| wpc_region <| wpl_q (q_pure rfl) rfl <| wpl_nil <| ex_then <| wpc_seq <| wpc_region ?_
  refine wpl_q (q_build (cs := a1.c) rfl zz6) rfl ?_
  refine wpl_q (q_build (cs := a2.c) rfl zz6) rfl ?_
  refine wpl_q (q_build (cs := a3.c) rfl zz6) rfl ?_
  refine wpl_q (q_build (cs := a4.c) rfl zz6) rfl ?_
  refine wpl_q (q_build (cs := a4.c) rfl zz6) rfl ?_
  refine wpl_tp (t_bsG [.agg a1.c.toArray, .agg a2.c.toArray, .agg a3.c.toArray, .agg a4.c.toArray, .agg a4.c.toArray] (scs [a1, a2, a3, a4, a4]) Tryd.underlying71 Tryd.ti70 rfl zz27 rfl zz27 zz27 rfl (by intro v hv; simp only [List.mem_cons, List.not_mem_nil, or_false] at hv; rcases hv with rfl | rfl | rfl | rfl | rfl <;> rfl) (by rfl)) rfl (fun b13 p13 => ?_)
  refine wpl_q (q_pure rfl) rfl <| wpl_nil <| ex_then <| wpc_seq <| wpc_region <| wpl_q (q_pure rfl) rfl ?_
  refine wpl_q (q_idxW (j := 0) Tryd.underlying71 Tryd.ti70 rfl rfl zz3 zz1) rfl ?_
  refine wpl_q (q_ldWN Tryd.underlying70 rfl Tryd.ti70 rfl (fun w h => zz9) a1.c rfl rfl) rfl ?_
  refine wpl_tp (t_bsG [.agg a1.c.toArray] (scs [a1]) Tryd.underlying71 Tryd.ti70 rfl zz27 rfl zz27 zz27 rfl zz62 (by rfl)) rfl (fun b18 p18 => ?_)
  refine wpl_tp (t_callP3 Tryd.hb25 rfl fun w h => made b18 [a1] w h.seenV [(0, 0)] s1L play_1 rfl zz27 rfl) rfl (fun b19 p19 => ?_)
  haveI := OneC.sv p19
  refine wpl_q (q_pure rfl) rfl <| wpl_q (q_pure rfl) rfl <| wpl_q (q_pure rfl) rfl ?_
  refine wpl_t (t_alloc Tryd.ti35 (St.z.c nl nl nl) rfl) rfl (fun b2 => ?_)
  refine wpl_t0 (t_stA Tryd.ti35 rfl rfl LenC.h OneC.h LenC.h) (fun _ => ?_)
  refine wpl_q (q_pure (v := .bool true) rfl) rfl ?_
  refine wpl_nil <| ex_then <| wpc_seq <| wpc_region <| wpl_q (q_pure rfl) rfl ?_
  refine wpl_q (q_build (cs := a5.c) rfl zz6) rfl ?_
  refine wpl_q (q_build (cs := a6.c) rfl zz6) rfl ?_
  refine wpl_tp (t_bsG [.agg a5.c.toArray, .agg a6.c.toArray] (scs [a5, a6]) Tryd.underlying71 Tryd.ti70 rfl zz27 rfl zz27 zz27 rfl (by intro v hv; simp only [List.mem_cons, List.not_mem_nil, or_false] at hv; rcases hv with rfl | rfl <;> rfl) (by rfl)) rfl (fun b26 p26 => ?_)
  refine wpl_tp (t_apW Tryd.underlying71 Tryd.ti70 rfl zz27 rfl rfl (fun w h => zz9) OneC.h zz1 zz1 (scs [a1, a2, a3, a4, a4, a5, a6]) (show scs [a1, a2, a3, a4, a4] ++ scs [a5, a6] = scs [a1, a2, a3, a4, a4, a5, a6] from rfl)) rfl (fun b27 p27 => ?_)
  refine wpl_tp (t_callP3 Tryd.hb25 rfl fun w h => made b27 [a1, a2, a3, a4, a4, a5, a6] w h.seenV _ s7L play_7 rfl zz27 rfl) rfl (fun b28 p28 => ?_)
  haveI := OneC.sv p28
  refine wpl_q (q_pure rfl) rfl <| wpl_q (q_pure rfl) rfl <| wpl_q (q_pure rfl) rfl ?_
  refine wpl_t (t_alloc Tryd.ti35 (St.z.c nl nl nl) rfl) rfl (fun b4 => ?_)
  refine wpl_t0 (t_stA Tryd.ti35 rfl rfl LenC.h OneC.h LenC.h) (fun _ => ?_)
  refine wpl_q (q_pure (v := .bool true) rfl) rfl ?_
  refine wpl_nil <| ex_then <| wpc_seq <| wpc_region <| wpl_q (q_ldN Tryd.underlying35 rfl Tryd.ti35 rfl LenC.h) rfl ?_
  refine wpl_tp (t_callP3 Tryd.hb26 rfl fun w h => reserve_8 b28 w ⟨rfl, h.seenV, h.seenV, h.seenV, zz27, zz27, zz27⟩) rfl (fun b33 p33 => ?_)
  haveI := OneC.sv p33
  refine wpl_q (q_pure rfl) rfl <| wpl_q (q_pure rfl) rfl <| wpl_q (q_pure rfl) rfl ?_
  refine wpl_t (t_alloc Tryd.ti35 (St.z.c nl nl nl) rfl) rfl (fun b6 => ?_)
  refine wpl_t0 (t_stA Tryd.ti35 rfl rfl LenC.h OneC.h LenC.h) (fun _ => ?_)
  refine wpl_q (q_pure rfl) rfl <| wpl_nil <| ex_then <| wpc_seq <| wpc_region <| wpl_q (q_pure rfl) rfl <| wpl_q (q_pure rfl) rfl <| wpl_on rfl rfl <| wpl_q (q_pure rfl) rfl <| wpl_q (q_pure rfl) rfl <| wpl_q (q_pure rfl) rfl <| wpl_on rfl rfl ?_
  refine wpl_q (q_field Tryd.underlying35 rfl Tryd.ti22 rfl rfl _ rfl) rfl <| wpl_on rfl rfl <| wpl_q (q_ld Tryd.underlying22 rfl rfl rfl) rfl <| wpl_on rfl rfl ?_
  refine wpl_tp (t_bsV (v8s s1L.pd) Tryd.underlying22 Tryd.ti5 rfl rfl zz27 zz27 rfl (v8s_one _)) rfl (fun b43 p43 => ?_)
  refine wpl_on rfl rfl ?_
  refine wpl_t (t_pur (v := .bool true) Tryd.hb20 rfl fun w h => refSameB _ s1L.pd _ s1L.pd w h.seenV h.seenV) rfl (fun b44 => ?_)
  refine wpl_q (q_pure rfl) rfl <| wpl_q (q_pure rfl) rfl <| wpl_on rfl rfl <| wpl_q (q_field Tryd.underlying35 rfl Tryd.ti26 rfl rfl _ rfl) rfl <| wpl_on rfl rfl <| wpl_q (q_ld Tryd.underlying26 rfl rfl rfl) rfl <| wpl_on rfl rfl ?_
  refine wpl_q (q_build (cs := (KE.mk 7 2 3 3 3 false).c) rfl zz6) rfl ?_
  refine wpl_on rfl rfl ?_
  refine wpl_tp (t_bsG [.agg (KE.mk 7 2 3 3 3 false).c.toArray] (kcs s7L.ks) Tryd.underlying26 Tryd.ti40 rfl zz27 rfl zz27 zz27 rfl zz62 (by rfl)) rfl (fun b50 p50 => ?_)
  refine wpl_on rfl rfl ?_
  refine wpl_t (t_pur (v := .bool true) Tryd.hb7 rfl fun w h => sameKeys _ s7L.ks _ s7L.ks w h.seenV h.seenV) rfl (fun b51 => ?_)
  refine wpl_q (q_pure rfl) rfl <| wpl_q (q_pure rfl) rfl <| wpl_on rfl rfl <| wpl_q (q_pure rfl) rfl <| wpl_on rfl rfl <| wpl_q (q_tru (q_eqI rfl rfl) rfl) rfl <| wpl_q (q_pure rfl) rfl <| wpl_q (q_pure rfl) rfl <| wpl_on rfl rfl <| wpl_q (q_field Tryd.underlying35 rfl Tryd.ti26 rfl rfl _ rfl) rfl <| wpl_on rfl rfl <| wpl_q (q_ld Tryd.underlying26 rfl rfl rfl) rfl ?_
  refine wpl_on rfl rfl ?_
  refine wpl_q (q_build (cs := (KE.mk 7 2 3 3 4 false).c) rfl zz6) rfl ?_
  refine wpl_on rfl rfl ?_
  refine wpl_tp (t_bsG [.agg (KE.mk 7 2 3 3 4 false).c.toArray] (kcs s8L.ks) Tryd.underlying26 Tryd.ti40 rfl zz27 rfl zz27 zz27 rfl zz62 (by rfl)) rfl (fun b61 p61 => ?_)
  refine wpl_on rfl rfl ?_
  refine wpl_t (t_pur (v := .bool true) Tryd.hb7 rfl fun w h => sameKeys _ s8L.ks _ s8L.ks w h.seenV h.seenV) rfl (fun b62 => ?_)
  refine wpl_q (q_pure rfl) rfl <| wpl_q (q_pure rfl) rfl <| wpl_nil <| ex_then <| wpc_ret ?_
  refine ret1 (.inl rfl) rfl rfl ?_
  exact fun w h => ⟨by first | rfl | simp, h.below⟩
end Go.Proofs.YtoaeklbenmlooaaDoor
namespace Go.Proofs.YtoaeklbenmlooaaDoor
open Go Go.PL Go.RowKit
def rotlF (x : UInt32) (k : Int) : UInt32 :=
  sl32 x (((of64 k &&& 31).toNat : Nat) : Int).toNat ||| sr32 x (((32 - (of64 k &&& 31)).toNat : Nat) : Int).toNat
theorem rotl (x : UInt32) (k : Int) (w : World) :
    Calls Tryd.prog 83 [.int .u32 x.toNat, .int .i64 k].toArray w (Pur w (.int .u32 (rotlF x k).toNat)) := by
  refine enter (m := 17) (R := Mem w [] [] []) Tryd.func83 rfl rfl (Nat.le_of_ble_eq_true rfl) (Mem.start w) ?_
  refine wpc_seq <| wpc_region <| wpl_q (q_pure rfl) rfl <| wpl_nil <| ex_then <| wpc_seq <| wpc_region <| wpl_q (q_pure rfl) rfl <| wpl_q (q64_conv Tryd.underlying3 Tryd.underlying64 rfl) rfl ?_
  refine wpl_q (q64_and (b := (31 : UInt64)) rfl rfl) rfl ?_
  refine wpl_q (q_pure rfl) rfl <| wpl_nil <| ex_then <| wpc_seq <| wpc_region <| wpl_q (q_pure rfl) rfl <| wpl_q (q_pure rfl) rfl ?_
  refine wpl_q (q32_shl rfl rfl zz32 _ rfl) rfl ?_
  refine wpl_q (q_pure rfl) rfl <| wpl_q (q_pure rfl) rfl ?_
  refine wpl_q (q64_sub (a := (32 : UInt64)) rfl rfl) rfl ?_
  refine wpl_q (q32_shr rfl rfl zz32 _ rfl) rfl ?_
  refine wpl_q (q32_or rfl rfl) rfl <| wpl_q (q_pure rfl) rfl <| wpl_nil <| ex_then <| wpc_ret ?_
  refine ret1 (.inl rfl) rfl rfl ?_
  exact fun w h => ⟨rfl, h.below⟩
theorem turn (x : UInt32) (k : Int) (h0 : -64 ≤ k) (h1 : k ≤ 64) (w : World) :
    Calls Tryd.prog 73 [.int .u32 x.toNat, .int .i64 k].toArray w (Pur w (.int .u32 (rotlF x (-k)).toNat)) := by
  refine enter (m := 9) (R := Mem w [] [] []) Tryd.func73 rfl rfl (Nat.le_of_ble_eq_true rfl) (Mem.start w) ?_
  refine wpc_seq <| wpc_region <| wpl_q (q_pure rfl) rfl <| wpl_nil <| ex_then <| wpc_seq <| wpc_region <| wpl_q (q_pure rfl) rfl <| wpl_q (q_pure rfl) rfl ?_
  first | refine wpl_q (qop_eq (q_pure rfl) (congrArg (Value.int .i64) (wk_i64 zz16 zz16))) rfl ?_ | refine wpl_q (q_pure rfl) rfl ?_
  refine wpl_t (t_pur Tryd.hb83 rfl fun w h => rotl _ _ _) rfl ?_
  intro b8
  refine wpl_q (q_pure rfl) rfl <| wpl_nil <| ex_then <| wpc_ret ?_
  refine ret1 (.inl rfl) rfl rfl ?_
  exact fun w h => ⟨rfl, h.below⟩
end Go.Proofs.YtoaeklbenmlooaaDoor
namespace Go.Proofs.YtoaeklbenmlooaaDoor
open Go Go.PL Go.RowKit
def wordF (bs : List UInt8) (i : Nat) : UInt32 :=
  sl32 (of32 (bs.getD (4 * i) 0).toNat) 24 ||| sl32 (of32 (bs.getD (4 * i + 1) 0).toNat) 16 ||| sl32 (of32 (bs.getD (4 * i + 2) 0).toNat) 8 ||| of32 (bs.getD (4 * i + 3) 0).toNat
def mixF (ws : List UInt32) (i : Nat) : UInt32 :=
  (rotlF (ws.getD (i - 2) 0) (-17) ^^^ rotlF (ws.getD (i - 2) 0) (-19) ^^^ sr32 (ws.getD (i - 2) 0) 10) + ws.getD (i - 7) 0 + (rotlF (ws.getD (i - 15) 0) (-7) ^^^ rotlF (ws.getD (i - 15) 0) (-18) ^^^ sr32 (ws.getD (i - 15) 0) 3) + ws.getD (i - 16) 0
def wsF (bs : List UInt8) : Nat → List UInt32
  | 0 => []
  | i + 1 => wsF bs i ++ [if i < 16 then wordF bs i else mixF (wsF bs i) i]
theorem wsF_length (bs : List UInt8) : ∀ i, (wsF bs i).length = i
  | 0 => rfl
  | i + 1 => by simp [wsF, wsF_length bs i]
def stF (bs : List UInt8) (i : Nat) : List UInt32 := wsF bs i ++ List.replicate (64 - i) 0
theorem stF_length (bs : List UInt8) (i : Nat) (h : i ≤ 64) : (stF bs i).length = 64 := by simp [stF, wsF_length]; omega
theorem stF_get (bs : List UInt8) (i j : Nat) (h : j < i) : (stF bs i).getD j 0 = (wsF bs i).getD j 0 := by
  simp only [stF, List.getD_eq_getElem?_getD]; rw [List.getElem?_append_left (by rw [wsF_length]; exact h)]
theorem stF_set (bs : List UInt8) (i : Nat) (h : i < 64) (x : UInt32) (hx : x = if i < 16 then wordF bs i else mixF (wsF bs i) i) : (stF bs i).set i x = stF bs (i + 1) := by
  subst hx
  have e : List.replicate (64 - i) (0 : UInt32) = 0 :: List.replicate (64 - (i + 1)) 0 := by
    rw [show 64 - i = (64 - (i + 1)) + 1 from zz16, List.replicate_succ]
  simp only [stF, e, wsF]
  rw [List.set_append_right _ _ (by rw [wsF_length]; exact Nat.le_refl _), wsF_length, Nat.sub_self]
  simp
theorem mix_st (bs : List UInt8) (i : Nat) (h : 16 ≤ i) : mixF (stF bs i) i = mixF (wsF bs i) i := by
  unfold mixF
  rw [stF_get _ _ _ zz16, stF_get _ _ _ zz16, stF_get _ _ _ zz16, stF_get _ _ _ zz16]
theorem word (bs : List UInt8) (hl : bs.length = 64) (bb i : Nat) (hi : i < 16) (w : World) (hb : CellsAt w.cell? ⟨bb, 0, none⟩ (v8s bs)) :
    Calls Tryd.prog 82 [.pointer (some ⟨bb, 0, none⟩), .int .i64 i].toArray w (Pur w (.int .u32 (wordF bs i).toNat)) := by
  refine enter (m := 42) (R := Mem w [] [] []) Tryd.func82 rfl rfl (Nat.le_of_ble_eq_true rfl) (Mem.start w) ?_
  refine wpc_seq <| wpc_region <| wpl_q (q_pure rfl) rfl <| wpl_nil <| ex_then <| wpc_seq ?_
  refine wpc_draw 38 zz6 (fun _ h => h.drew) ?_
  refine wpd_p 0 rfl zz6 trivial (q_pure rfl) rfl sk0 ?_
  refine wpd_p 1 rfl zz6 trivial (q_pure rfl) rfl sk0 ?_
  first | refine wpd_p 2 rfl zz6 trivial (qop_eq (q_pure rfl) (congrArg (Value.int .i64) (wk_i64 zz16 zz16))) rfl sk0 ?_ | refine wpd_p 2 rfl zz6 trivial (q_pure rfl) rfl sk0 ?_
  refine wpd_p 3 rfl zz6 trivial (q_pure rfl) rfl sk0 ?_
  refine wpd_p 4 rfl zz6 trivial (q_idxA Tryd.underlying133 Tryd.ti5 rfl rfl zz16 zz16 (4 * i) zz16) rfl sk0 ?_
  refine wpd_q 5 rfl zz6 trivial (q_load1 Tryd.underlying5 rfl rfl (fun w h => h.cell_old (hb.at_ (v8s_get zz16)))) rfl (fun _ h => h) ?_
  refine wpd_p 6 rfl zz6 trivial (q32_conv Tryd.underlying5 Tryd.underlying25 rfl) rfl sk0 ?_
  refine wpd_p 7 rfl zz6 trivial (q32_shl rfl rfl zz32 _ rfl) rfl sk0 ?_
  refine wpd_p 8 rfl zz6 trivial (q_pure rfl) rfl sk0 ?_
  refine wpd_p 9 rfl zz6 trivial (q_pure rfl) rfl sk0 ?_
  first | refine wpd_p 10 rfl zz6 trivial (qop_eq (q_pure rfl) (congrArg (Value.int .i64) (wk_i64 zz16 zz16))) rfl sk0 ?_ | refine wpd_p 10 rfl zz6 trivial (q_pure rfl) rfl sk0 ?_
  first | refine wpd_p 11 rfl zz6 trivial (qop_eq (q_pure rfl) (congrArg (Value.int .i64) (wk_i64 zz16 zz16))) rfl sk0 ?_ | refine wpd_p 11 rfl zz6 trivial (q_pure rfl) rfl sk0 ?_
  refine wpd_p 12 rfl zz6 trivial (q_pure rfl) rfl sk0 ?_
  refine wpd_p 13 rfl zz6 trivial (q_idxA Tryd.underlying133 Tryd.ti5 rfl rfl zz16 zz16 (4 * i + 1) zz16) rfl sk0 ?_
  refine wpd_q 14 rfl zz6 trivial (q_load1 Tryd.underlying5 rfl rfl (fun w h => h.cell_old (hb.at_ (v8s_get zz16)))) rfl (fun _ h => h) ?_
  refine wpd_p 15 rfl zz6 trivial (q32_conv Tryd.underlying5 Tryd.underlying25 rfl) rfl sk0 ?_
  refine wpd_p 16 rfl zz6 trivial (q32_shl rfl rfl zz32 _ rfl) rfl sk0 ?_
  refine wpd_p 17 rfl zz6 trivial (q32_or rfl rfl) rfl sk0 ?_
  refine wpd_p 18 rfl zz6 trivial (q_pure rfl) rfl sk0 ?_
  refine wpd_p 19 rfl zz6 trivial (q_pure rfl) rfl sk0 ?_
  first | refine wpd_p 20 rfl zz6 trivial (qop_eq (q_pure rfl) (congrArg (Value.int .i64) (wk_i64 zz16 zz16))) rfl sk0 ?_ | refine wpd_p 20 rfl zz6 trivial (q_pure rfl) rfl sk0 ?_
  first | refine wpd_p 21 rfl zz6 trivial (qop_eq (q_pure rfl) (congrArg (Value.int .i64) (wk_i64 zz16 zz16))) rfl sk0 ?_ | refine wpd_p 21 rfl zz6 trivial (q_pure rfl) rfl sk0 ?_
  refine wpd_p 22 rfl zz6 trivial (q_pure rfl) rfl sk0 ?_
  refine wpd_p 23 rfl zz6 trivial (q_idxA Tryd.underlying133 Tryd.ti5 rfl rfl zz16 zz16 (4 * i + 2) zz16) rfl sk0 ?_
  refine wpd_q 24 rfl zz6 trivial (q_load1 Tryd.underlying5 rfl rfl (fun w h => h.cell_old (hb.at_ (v8s_get zz16)))) rfl (fun _ h => h) ?_
  refine wpd_p 25 rfl zz6 trivial (q32_conv Tryd.underlying5 Tryd.underlying25 rfl) rfl sk0 ?_
  refine wpd_p 26 rfl zz6 trivial (q32_shl rfl rfl zz32 _ rfl) rfl sk0 ?_
  refine wpd_p 27 rfl zz6 trivial (q32_or rfl rfl) rfl sk0 ?_
  refine wpd_p 28 rfl zz6 trivial (q_pure rfl) rfl sk0 ?_
  refine wpd_p 29 rfl zz6 trivial (q_pure rfl) rfl sk0 ?_
  first | refine wpd_p 30 rfl zz6 trivial (qop_eq (q_pure rfl) (congrArg (Value.int .i64) (wk_i64 zz16 zz16))) rfl sk0 ?_ | refine wpd_p 30 rfl zz6 trivial (q_pure rfl) rfl sk0 ?_
  first | refine wpd_p 31 rfl zz6 trivial (qop_eq (q_pure rfl) (congrArg (Value.int .i64) (wk_i64 zz16 zz16))) rfl sk0 ?_ | refine wpd_p 31 rfl zz6 trivial (q_pure rfl) rfl sk0 ?_
  refine wpd_p 32 rfl zz6 trivial (q_pure rfl) rfl sk0 ?_
  refine wpd_p 33 rfl zz6 trivial (q_idxA Tryd.underlying133 Tryd.ti5 rfl rfl zz16 zz16 (4 * i + 3) zz16) rfl sk0 ?_
  refine wpd_q 34 rfl zz6 trivial (q_load1 Tryd.underlying5 rfl rfl (fun w h => h.cell_old (hb.at_ (v8s_get zz16)))) rfl (fun _ h => h) ?_
  refine wpd_p 35 rfl zz6 trivial (q32_conv Tryd.underlying5 Tryd.underlying25 rfl) rfl sk0 ?_
  refine wpd_p 36 rfl zz6 trivial (q32_or rfl rfl) rfl sk0 ?_
  refine wpd_p 37 rfl zz6 trivial (q_pure rfl) rfl sk0 ?_
  refine wpd_done zz6 ?_
  refine ex_then <| wpc_ret ?_
  refine ret1 (.inl rfl) rfl rfl ?_
  exact fun w h => ⟨rfl, h.below⟩
theorem schedule (bs : List UInt8) (hl : bs.length = 64) (bb : Nat) (w : World) (hb : CellsAt w.cell? ⟨bb, 0, none⟩ (v8s bs)) :
    Calls Tryd.prog 72 [.pointer (some ⟨bb, 0, none⟩)].toArray w (Pur w (.agg (v32s (wsF bs 64)).toArray)) := by
  refine enter (m := 56) (R := Mem w [] [] []) Tryd.func72 rfl rfl (Nat.le_of_ble_eq_true rfl) (Mem.start w) ?_
  refine wpc_seq <| wpc_region ?_
  refine wpl_t (t_alloc Tryd.ti119 (v32s (List.replicate 64 0)) (by rfl)) rfl ?_
  intro b2
  refine wpl_nil <| ex_then <| wpc_seq <| wpc_region ?_
  refine wpl_t (t_alloc Tryd.ti119 (v32s (stF bs 0)) (by rfl)) rfl ?_
  intro b3
  refine wpl_nil <| ex_then <| wpc_seq <| wpc_seq <| wpc_region <| wpl_q (q_pure rfl) rfl <| wpl_nil <| ex_then <| wpc_block ?_
  refine wpc_loop (ι := { i : Nat // i ≤ 64 }) (fun i => [(7, .int .i64 (i.1 : Nat)), (3, .pointer (some ⟨b3, 0, none⟩)), (2, .pointer (some ⟨b2, 0, none⟩)), (0, .pointer (some ⟨bb, 0, none⟩))]) (fun i => Mem w [] [.blk b3 119 (v32s (stF bs i.1)), .blk b2 119 (v32s (List.replicate 64 0))] []) (fun i => 64 - i.1) ⟨0, zz16⟩ ?_ ?_ ?_
  · exact by repeat (first | exact trivial | refine ⟨rfl, ?_⟩)
  · exact fun w h => h
  · rintro ⟨i, hi⟩; dsimp only
    have hsl := stF_length bs i hi
    refine wpc_seq <| wpc_region <| wpl_q (q_pure rfl) rfl <| wpl_nil <| ex_then <| wpc_seq ?_
    refine wpc_cond rfl (fun hc8 => ?_) (fun hc8 => ?_)
    ·
      simp only [decide_eq_true_eq, decide_eq_false_iff_not, Bool.and_eq_true, Bool.or_eq_true, beq_iff_eq, bne_iff_ne, ne_eq] at hc8
      refine wpc_skip <| ex_then <| wpc_seq <| wpc_block <| wpc_seq <| wpc_region <| wpl_q (q_pure rfl) rfl <| wpl_q (q_pure rfl) rfl <| wpl_nil <| ex_then <| wpc_seq <| wpc_seq ?_
      refine wpc_region <| wpl_q (q_pure rfl) rfl <| wpl_q (q_pure rfl) rfl <| wpl_nil <| ex_then ?_
      refine wpc_cond rfl (fun hc11 => ?_) (fun hc11 => ?_)
      ·
        simp only [decide_eq_true_eq, decide_eq_false_iff_not, Bool.and_eq_true, Bool.or_eq_true, beq_iff_eq, bne_iff_ne, ne_eq] at hc11
        refine wpc_seq <| wpc_region <| wpl_q (q_pure rfl) rfl <| wpl_q (q_pure rfl) rfl <| wpl_q (q_pure rfl) rfl ?_
        refine wpl_t (t_pur Tryd.hb82 rfl fun w' h => word bs hl bb i zz16 w' (hb.mono fun _ _ hv => h.cell_old hv)) rfl ?_
        intro b15
        refine wpl_q (q_idxA Tryd.underlying119 Tryd.ti25 rfl rfl zz16 zz16 (i) zz16) rfl ?_
        refine wpl_t0 (t_st1 Tryd.ti25 rfl rfl rfl zz41 _ (by first | exact v32s_set _ | rfl)) ?_
        intro _
        refine wpl_nil <| ex_then ?_
        refine wpc_exit ?_
        refine ex_then_exit ?_
        refine ex_block_hit ?_
        refine ex_then <| wpc_region ?_
        first | refine wpl_q (qop_eq (q_pure rfl) (congrArg (Value.int .i64) (wk_i64 zz16 zz16))) rfl ?_ | refine wpl_q (q_pure rfl) rfl ?_
        refine wpl_q (q_pure rfl) rfl <| wpl_nil ?_
        refine ex_again ⟨i + 1, zz16⟩ ?_ ?_ ?_
        · exact zz14
        · exact fun w h => by
            first
            | exact (stF_set bs i zz16 _ (by rw [if_pos zz16])) ▸ h
            | exact (stF_set bs i zz16 _ ((mix_st bs i zz16).trans (by rw [if_neg zz16]))) ▸ h
        · show 64 - (i + 1) < 64 - i; omega
      ·
        simp only [decide_eq_true_eq, decide_eq_false_iff_not, Bool.and_eq_true, Bool.or_eq_true, beq_iff_eq, bne_iff_ne, ne_eq] at hc11
        refine wpc_skip <| ex_then <| wpc_seq ?_
        refine wpc_draw 10 zz6 (fun _ h => h.drew) ?_
        refine wpd_p 0 rfl zz6 trivial (q_pure rfl) rfl sk0 ?_
        first | refine wpd_p 1 rfl zz6 trivial (qop_eq (q_pure rfl) (congrArg (Value.int .i64) (wk_i64 zz16 zz16))) rfl sk0 ?_ | refine wpd_p 1 rfl zz6 trivial (q_pure rfl) rfl sk0 ?_
        refine wpd_p 2 rfl zz6 trivial (q_idxA Tryd.underlying119 Tryd.ti25 rfl rfl zz16 zz16 (i - 15) zz16) rfl sk0 ?_
        refine wpd_q 3 rfl zz6 trivial (q_ld Tryd.underlying25 rfl rfl zz31) rfl (fun _ h => h) ?_
        refine wpd_p 4 rfl zz6 trivial (q_pure rfl) rfl sk0 ?_
        first | refine wpd_p 5 rfl zz6 trivial (qop_eq (q_pure rfl) (congrArg (Value.int .i64) (wk_i64 zz16 zz16))) rfl sk0 ?_ | refine wpd_p 5 rfl zz6 trivial (q_pure rfl) rfl sk0 ?_
        refine wpd_p 6 rfl zz6 trivial (q_idxA Tryd.underlying119 Tryd.ti25 rfl rfl zz16 zz16 (i - 2) zz16) rfl sk0 ?_
        refine wpd_q 7 rfl zz6 trivial (q_ld Tryd.underlying25 rfl rfl zz31) rfl (fun _ h => h) ?_
        refine wpd_p 8 rfl zz6 trivial (q_pure rfl) rfl sk0 ?_
        refine wpd_p 9 rfl zz6 trivial (q_pure rfl) rfl sk0 ?_
        refine wpd_done zz6 ?_
        refine ex_then ?_
        refine wpc_draw 29 zz6 (fun _ h => h.drew) ?_
        refine wpd_p 0 rfl zz6 trivial (q_pure rfl) rfl sk0 ?_
        refine wpd_p 1 rfl zz6 trivial (q_pure rfl) rfl sk0 ?_
        refine wpd_p 3 rfl zz6 trivial (q_pure rfl) rfl sk0 ?_
        refine wpd_p 6 rfl zz6 trivial (q_pure rfl) rfl sk0 ?_
        refine wpd_p 7 rfl zz6 trivial (q32_shr rfl rfl zz32 _ rfl) rfl sk0 ?_
        refine wpd_p 9 rfl zz6 trivial (q_pure rfl) rfl sk0 ?_
        first | refine wpd_p 10 rfl zz6 trivial (qop_eq (q_pure rfl) (congrArg (Value.int .i64) (wk_i64 zz16 zz16))) rfl sk0 ?_ | refine wpd_p 10 rfl zz6 trivial (q_pure rfl) rfl sk0 ?_
        refine wpd_p 11 rfl zz6 trivial (q_idxA Tryd.underlying119 Tryd.ti25 rfl rfl zz16 zz16 (i - 7) zz16) rfl sk0 ?_
        refine wpd_q 12 rfl zz6 trivial (q_ld Tryd.underlying25 rfl rfl zz31) rfl (fun _ h => h) ?_
        refine wpd_p 14 rfl zz6 trivial (q_pure rfl) rfl sk0 ?_
        refine wpd_p 16 rfl zz6 trivial (q_pure rfl) rfl sk0 ?_
        refine wpd_p 19 rfl zz6 trivial (q_pure rfl) rfl sk0 ?_
        refine wpd_p 20 rfl zz6 trivial (q32_shr rfl rfl zz32 _ rfl) rfl sk0 ?_
        refine wpd_p 23 rfl zz6 trivial (q_pure rfl) rfl sk0 ?_
        first | refine wpd_p 24 rfl zz6 trivial (qop_eq (q_pure rfl) (congrArg (Value.int .i64) (wk_i64 zz16 zz16))) rfl sk0 ?_ | refine wpd_p 24 rfl zz6 trivial (q_pure rfl) rfl sk0 ?_
        refine wpd_p 25 rfl zz6 trivial (q_idxA Tryd.underlying119 Tryd.ti25 rfl rfl zz16 zz16 (i - 16) zz16) rfl sk0 ?_
        refine wpd_q 26 rfl zz6 trivial (q_ld Tryd.underlying25 rfl rfl zz31) rfl (fun _ h => h) ?_
        refine wpd_t 2 rfl zz6 trivial (t_pur Tryd.hb73 rfl fun w h => turn _ _ zz27 zz27 _) rfl (fun _ => sk0) ?_
        intro b27
        refine wpd_t 4 rfl zz6 trivial (t_pur Tryd.hb73 rfl fun w h => turn _ _ zz27 zz27 _) rfl (fun _ => sk0) ?_
        intro b29
        refine wpd_p 5 rfl zz6 trivial (q32_xor rfl rfl) rfl sk0 ?_
        refine wpd_p 8 rfl zz6 trivial (q32_xor rfl rfl) rfl sk0 ?_
        refine wpd_p 13 rfl zz6 trivial (q32_add rfl rfl) rfl sk0 ?_
        refine wpd_t 15 rfl zz6 trivial (t_pur Tryd.hb73 rfl fun w h => turn _ _ zz27 zz27 _) rfl (fun _ => sk0) ?_
        intro b40
        refine wpd_t 17 rfl zz6 trivial (t_pur Tryd.hb73 rfl fun w h => turn _ _ zz27 zz27 _) rfl (fun _ => sk0) ?_
        intro b42
        refine wpd_p 18 rfl zz6 trivial (q32_xor rfl rfl) rfl sk0 ?_
        refine wpd_p 21 rfl zz6 trivial (q32_xor rfl rfl) rfl sk0 ?_
        refine wpd_p 22 rfl zz6 trivial (q32_add rfl rfl) rfl sk0 ?_
        refine wpd_p 27 rfl zz6 trivial (q32_add rfl rfl) rfl sk0 ?_
        refine wpd_p 28 rfl zz6 trivial (q_idxA Tryd.underlying119 Tryd.ti25 rfl rfl zz16 zz16 (i) zz16) rfl sk0 ?_
        refine wpd_t0 29 rfl zz6 trivial (t_st1 Tryd.ti25 rfl rfl rfl zz41 _ (by first | exact v32s_set _ | rfl)) (fun _ => skk rfl) ?_
        intro _
        refine wpd_done zz6 ?_
        refine ex_block <| ex_then <| wpc_region ?_
        first | refine wpl_q (qop_eq (q_pure rfl) (congrArg (Value.int .i64) (wk_i64 zz16 zz16))) rfl ?_ | refine wpl_q (q_pure rfl) rfl ?_
        refine wpl_q (q_pure rfl) rfl <| wpl_nil ?_
        refine ex_again ⟨i + 1, zz16⟩ ?_ ?_ ?_
        · exact zz14
        · exact fun w h => by
            first
            | exact (stF_set bs i zz16 _ (by rw [if_pos zz16])) ▸ h
            | exact (stF_set bs i zz16 _ ((mix_st bs i zz16).trans (by rw [if_neg zz16]))) ▸ h
        · show 64 - (i + 1) < 64 - i; omega
    ·
      simp only [decide_eq_true_eq, decide_eq_false_iff_not, Bool.and_eq_true, Bool.or_eq_true, beq_iff_eq, bne_iff_ne, ne_eq] at hc8
      refine wpc_exit ?_
      refine ex_then_exit ?_
      refine ex_then_exit ?_
      refine ex_block_hit ?_
      refine ex_then <| wpc_seq <| wpc_region ?_
      refine wpl_q (q_ldN Tryd.underlying119 rfl Tryd.ti119 rfl zz28) rfl ?_
      refine wpl_t0 (t_stA Tryd.ti119 rfl rfl zz28 (v32s_one _) zz28) ?_
      intro _
      refine wpl_nil <| ex_then <| wpc_ret ?_
      refine retv1 (.inl rfl) rfl (rv_agg Tryd.underlying119 rfl Tryd.ti119 rfl (fun w h => h.cells_blk zz7) zz28) ?_
      have e : stF bs 64 = wsF bs 64 := by simp [stF]
      obtain rfl : i = 64 := by omega
      exact fun w h => ⟨by rw [e], h.below⟩
end Go.Proofs.YtoaeklbenmlooaaDoor
namespace Go.Proofs.YtoaeklbenmlooaaDoor
open Go Go.PL Go.RowKit
def rootsL : List UInt32 := [1116352408, 1899447441, 3049323471, 3921009573, 961987163, 1508970993, 2453635748, 2870763221, 3624381080, 310598401, 607225278, 1426881987, 1925078388, 2162078206, 2614888103, 3248222580, 3835390401, 4022224774, 264347078, 604807628, 770255983, 1249150122, 1555081692, 1996064986, 2554220882, 2821834349, 2952996808, 3210313671, 3336571891, 3584528711, 113926993, 338241895, 666307205, 773529912, 1294757372, 1396182291, 1695183700, 1986661051, 2177026350, 2456956037, 2730485921, 2820302411, 3259730800, 3345764771, 3516065817, 3600352804, 4094571909, 275423344, 430227734, 506948616, 659060556, 883997877, 958139571, 1322822218, 1537002063, 1747873779, 1955562222, 2024104815, 2227730452, 2361852424, 2428436474, 2756734187, 3204031479, 3329325298]
theorem rootsL_length : rootsL.length = 64 := rfl
def tF (k w : UInt32) (r : List UInt32) : UInt32 :=
  r.getD 7 0 + (rotlF (r.getD 4 0) (-6) ^^^ rotlF (r.getD 4 0) (-11) ^^^ rotlF (r.getD 4 0) (-25)) + ((r.getD 4 0 &&& r.getD 5 0) ^^^ (~~~ r.getD 4 0 &&& r.getD 6 0)) + k + w
def uF (r : List UInt32) : UInt32 :=
  (rotlF (r.getD 0 0) (-2) ^^^ rotlF (r.getD 0 0) (-13) ^^^ rotlF (r.getD 0 0) (-22)) + ((r.getD 0 0 &&& r.getD 1 0) ^^^ (r.getD 0 0 &&& r.getD 2 0) ^^^ (r.getD 1 0 &&& r.getD 2 0))
def roundF (k w : UInt32) (r : List UInt32) : List UInt32 :=
  [tF k w r + uF r, r.getD 0 0, r.getD 1 0, r.getD 2 0, r.getD 3 0 + tF k w r, r.getD 4 0, r.getD 5 0, r.getD 6 0]
def roundsF (ws st : List UInt32) : Nat → List UInt32
  | 0 => st
  | i + 1 => roundF (rootsL.getD i 0) (ws.getD i 0) (roundsF ws st i)
theorem roundsF_length (ws st : List UInt32) (h : st.length = 8) : ∀ i, (roundsF ws st i).length = 8
  | 0 => h
  | i + 1 => rfl
def sumN (st r : List UInt32) : Nat → List UInt32
  | 0 => st
  | i + 1 => (sumN st r i).set i ((sumN st r i).getD i 0 + r.getD i 0)
theorem sumN_length (st r : List UInt32) : ∀ i, (sumN st r i).length = st.length
  | 0 => rfl
  | i + 1 => by simp [sumN, sumN_length st r i]
def addF (st : List UInt32) (bs : List UInt8) : List UInt32 := sumN st (roundsF (wsF bs 64) st 64) 8
theorem addF_length (st : List UInt32) (bs : List UInt8) : (addF st bs).length = st.length := sumN_length _ _ _
theorem add (sb bb : Nat) (st : List UInt32) (bs : List UInt8) (hst : st.length = 8) (hbs : bs.length = 64) (w : World) (hs : w.heap[sb]? = some (.cells (v32s st).toArray 113 (0, 0))) (hb : CellsAt w.cell? ⟨bb, 0, none⟩ (v8s bs)) (hne : bb ≠ sb) (hro : CellsAt w.cell? ⟨0, 0, none⟩ (v32s rootsL)) (h0 : 0 ≠ sb) :
    Calls Tryd.prog 54 [.pointer (some ⟨sb, 0, none⟩), .pointer (some ⟨bb, 0, none⟩)].toArray w (GivesL w [sb] (fun _ : Unit => .tuple #[]) fun _ => [.blk sb 113 (v32s (addF st bs))]) := by
  refine enter (m := 111) (R := Mem w [sb] [.blk sb 113 (v32s st)] []) Tryd.func54 rfl rfl (Nat.le_of_ble_eq_true rfl) (Mem.start1 w hs) ?_
  refine wpc_seq <| wpc_region <| wpl_q (q_pure rfl) rfl <| wpl_q (q_pure rfl) rfl ?_
  refine wpl_q (q_ldN Tryd.underlying113 rfl Tryd.ti113 rfl zz28) rfl ?_
  refine wpl_t (t_alloc Tryd.ti113 _ rfl) rfl ?_
  intro b4
  refine wpl_t0 (t_stA Tryd.ti113 rfl rfl zz28 (v32s_one _) zz28) ?_
  intro _
  refine wpl_nil <| ex_then <| wpc_seq <| wpc_seq <| wpc_region <| wpl_q (q_pure rfl) rfl ?_
  refine wpl_t (t_pur Tryd.hb72 rfl fun w' h => schedule bs hbs bb w' (h.at_oldL hb (by simpa using hne))) rfl ?_
  intro b16
  refine wpl_q (q_pure rfl) rfl <| wpl_nil <| ex_then <| wpc_block ?_
  refine wpc_loop (ι := { i : Nat // i ≤ 64 }) (fun i => [(17, .int .i64 (i.1 : Nat)), (16, .agg (v32s (wsF bs 64)).toArray), (4, .pointer (some ⟨b4, 0, none⟩)), (0, .pointer (some ⟨sb, 0, none⟩))]) (fun i => Mem w [sb] [.blk b4 113 (v32s (roundsF (wsF bs 64) st i.1)), .blk sb 113 (v32s st)] []) (fun i => 64 - i.1) ⟨0, zz16⟩ ?_ ?_ ?_
  · exact by repeat (first | exact trivial | refine ⟨rfl, ?_⟩)
  · exact fun w h => h
  · rintro ⟨i, hi⟩; dsimp only
    have hrl := roundsF_length (wsF bs 64) st hst i
    have hwl := wsF_length bs 64
    refine wpc_seq <| wpc_region <| wpl_q (q_pure rfl) rfl <| wpl_nil <| ex_then <| wpc_seq ?_
    refine wpc_cond rfl (fun hc18 => ?_) (fun hc18 => ?_)
    ·
      simp only [decide_eq_true_eq, decide_eq_false_iff_not, Bool.and_eq_true, Bool.or_eq_true, beq_iff_eq, bne_iff_ne, ne_eq] at hc18
      refine wpc_skip <| ex_then <| wpc_seq <| wpc_block <| wpc_seq <| wpc_region <| wpl_q (q_pure rfl) rfl ?_
      refine wpl_q (q_idxV Tryd.underlying119 Tryd.ti25 Tryd.underlying25 rfl rfl rfl zz16 zz16 (i) zz16 zz31) rfl ?_
      refine wpl_q (q_pure rfl) rfl <| wpl_q (q_pure rfl) rfl <| wpl_nil <| ex_then <| wpc_seq ?_
      refine wpc_draw 6 zz6 (fun _ h => h.drew) ?_
      refine wpd_p 0 rfl zz6 trivial (q_idxA Tryd.underlying113 Tryd.ti25 rfl rfl zz16 zz16 0 rfl) rfl sk0 ?_
      refine wpd_q 1 rfl zz6 trivial (q_ld Tryd.underlying25 rfl rfl zz31) rfl (fun _ h => h) ?_
      refine wpd_p 2 rfl zz6 trivial (q_idxA Tryd.underlying113 Tryd.ti25 rfl rfl zz16 zz16 4 rfl) rfl sk0 ?_
      refine wpd_q 3 rfl zz6 trivial (q_ld Tryd.underlying25 rfl rfl zz31) rfl (fun _ h => h) ?_
      refine wpd_p 4 rfl zz6 trivial (q_pure rfl) rfl sk0 ?_
      refine wpd_p 5 rfl zz6 trivial (q_pure rfl) rfl sk0 ?_
      refine wpd_done zz6 ?_
      refine ex_then <| wpc_seq ?_
      refine wpc_draw 29 zz6 (fun _ h => h.drew) ?_
      refine wpd_p 0 rfl zz6 trivial (q_idxA Tryd.underlying113 Tryd.ti25 rfl rfl zz16 zz16 7 rfl) rfl sk0 ?_
      refine wpd_q 1 rfl zz6 trivial (q_ld Tryd.underlying25 rfl rfl zz31) rfl (fun _ h => h) ?_
      refine wpd_p 2 rfl zz6 trivial (q_pure rfl) rfl sk0 ?_
      refine wpd_p 4 rfl zz6 trivial (q_pure rfl) rfl sk0 ?_
      refine wpd_p 7 rfl zz6 trivial (q_pure rfl) rfl sk0 ?_
      refine wpd_p 11 rfl zz6 trivial (q_pure rfl) rfl sk0 ?_
      refine wpd_p 12 rfl zz6 trivial (q_idxA Tryd.underlying113 Tryd.ti25 rfl rfl zz16 zz16 5 rfl) rfl sk0 ?_
      refine wpd_q 13 rfl zz6 trivial (q_ld Tryd.underlying25 rfl rfl zz31) rfl (fun _ h => h) ?_
      refine wpd_p 14 rfl zz6 trivial (q32_and rfl rfl) rfl sk0 ?_
      refine wpd_p 15 rfl zz6 trivial (q_pure rfl) rfl sk0 ?_
      refine wpd_p 16 rfl zz6 trivial (q32_not rfl) rfl sk0 ?_
      refine wpd_p 17 rfl zz6 trivial (q_idxA Tryd.underlying113 Tryd.ti25 rfl rfl zz16 zz16 6 rfl) rfl sk0 ?_
      refine wpd_q 18 rfl zz6 trivial (q_ld Tryd.underlying25 rfl rfl zz31) rfl (fun _ h => h) ?_
      refine wpd_p 19 rfl zz6 trivial (q32_and rfl rfl) rfl sk0 ?_
      refine wpd_p 20 rfl zz6 trivial (q32_xor rfl rfl) rfl sk0 ?_
      refine wpd_p 22 rfl zz6 trivial (q_pure rfl) rfl sk0 ?_
      refine wpd_p 23 rfl zz6 trivial (q_idxA Tryd.underlying119 Tryd.ti25 rfl rfl zz16 zz16 (i) zz16) rfl sk0 ?_
      refine wpd_q 24 rfl zz6 trivial (q_load1 Tryd.underlying25 rfl rfl (fun w h => h.cell_oldL (hro.at_ (v32s_get (by rw [rootsL_length]; omega))) (by simpa using h0))) rfl (fun _ h => h) ?_
      refine wpd_p 26 rfl zz6 trivial (q_pure rfl) rfl sk0 ?_
      refine wpd_t 3 rfl zz6 trivial (t_pur Tryd.hb73 rfl fun w h => turn _ _ zz27 zz27 _) rfl (fun _ => sk0) ?_
      intro b28
      refine wpd_t 5 rfl zz6 trivial (t_pur Tryd.hb73 rfl fun w h => turn _ _ zz27 zz27 _) rfl (fun _ => sk0) ?_
      intro b30
      refine wpd_p 6 rfl zz6 trivial (q32_xor rfl rfl) rfl sk0 ?_
      refine wpd_t 8 rfl zz6 trivial (t_pur Tryd.hb73 rfl fun w h => turn _ _ zz27 zz27 _) rfl (fun _ => sk0) ?_
      intro b33
      refine wpd_p 9 rfl zz6 trivial (q32_xor rfl rfl) rfl sk0 ?_
      refine wpd_p 10 rfl zz6 trivial (q32_add rfl rfl) rfl sk0 ?_
      refine wpd_p 21 rfl zz6 trivial (q32_add rfl rfl) rfl sk0 ?_
      refine wpd_p 25 rfl zz6 trivial (q32_add rfl rfl) rfl sk0 ?_
      refine wpd_p 27 rfl zz6 trivial (q32_add rfl rfl) rfl sk0 ?_
      refine wpd_p 28 rfl zz6 trivial (q_pure rfl) rfl sk0 ?_
      refine wpd_done zz6 ?_
      refine ex_then <| wpc_seq ?_
      refine wpc_draw 25 zz6 (fun _ h => h.drew) ?_
      refine wpd_p 0 rfl zz6 trivial (q_pure rfl) rfl sk0 ?_
      refine wpd_p 2 rfl zz6 trivial (q_pure rfl) rfl sk0 ?_
      refine wpd_p 5 rfl zz6 trivial (q_pure rfl) rfl sk0 ?_
      refine wpd_p 8 rfl zz6 trivial (q_pure rfl) rfl sk0 ?_
      refine wpd_p 9 rfl zz6 trivial (q_idxA Tryd.underlying113 Tryd.ti25 rfl rfl zz16 zz16 1 rfl) rfl sk0 ?_
      refine wpd_q 10 rfl zz6 trivial (q_ld Tryd.underlying25 rfl rfl zz31) rfl (fun _ h => h) ?_
      refine wpd_p 11 rfl zz6 trivial (q32_and rfl rfl) rfl sk0 ?_
      refine wpd_p 12 rfl zz6 trivial (q_pure rfl) rfl sk0 ?_
      refine wpd_p 13 rfl zz6 trivial (q_idxA Tryd.underlying113 Tryd.ti25 rfl rfl zz16 zz16 2 rfl) rfl sk0 ?_
      refine wpd_q 14 rfl zz6 trivial (q_ld Tryd.underlying25 rfl rfl zz31) rfl (fun _ h => h) ?_
      refine wpd_p 15 rfl zz6 trivial (q32_and rfl rfl) rfl sk0 ?_
      refine wpd_p 16 rfl zz6 trivial (q32_xor rfl rfl) rfl sk0 ?_
      refine wpd_p 17 rfl zz6 trivial (q_idxA Tryd.underlying113 Tryd.ti25 rfl rfl zz16 zz16 1 rfl) rfl sk0 ?_
      refine wpd_q 18 rfl zz6 trivial (q_ld Tryd.underlying25 rfl rfl zz31) rfl (fun _ h => h) ?_
      refine wpd_p 19 rfl zz6 trivial (q_idxA Tryd.underlying113 Tryd.ti25 rfl rfl zz16 zz16 2 rfl) rfl sk0 ?_
      refine wpd_q 20 rfl zz6 trivial (q_ld Tryd.underlying25 rfl rfl zz31) rfl (fun _ h => h) ?_
      refine wpd_p 21 rfl zz6 trivial (q32_and rfl rfl) rfl sk0 ?_
      refine wpd_p 22 rfl zz6 trivial (q32_xor rfl rfl) rfl sk0 ?_
      refine wpd_t 1 rfl zz6 trivial (t_pur Tryd.hb73 rfl fun w h => turn _ _ zz27 zz27 _) rfl (fun _ => sk0) ?_
      intro b54
      refine wpd_t 3 rfl zz6 trivial (t_pur Tryd.hb73 rfl fun w h => turn _ _ zz27 zz27 _) rfl (fun _ => sk0) ?_
      intro b56
      refine wpd_p 4 rfl zz6 trivial (q32_xor rfl rfl) rfl sk0 ?_
      refine wpd_t 6 rfl zz6 trivial (t_pur Tryd.hb73 rfl fun w h => turn _ _ zz27 zz27 _) rfl (fun _ => sk0) ?_
      intro b59
      refine wpd_p 7 rfl zz6 trivial (q32_xor rfl rfl) rfl sk0 ?_
      refine wpd_p 23 rfl zz6 trivial (q32_add rfl rfl) rfl sk0 ?_
      refine wpd_p 24 rfl zz6 trivial (q_pure rfl) rfl sk0 ?_
      refine wpd_done zz6 ?_
      refine ex_then <| wpc_region <| wpl_q (q_pure rfl) rfl <| wpl_q (q_pure rfl) rfl <| wpl_q (q32_add rfl rfl) rfl <| wpl_q (q_pure rfl) rfl ?_
      refine wpl_q (q_idxA Tryd.underlying113 Tryd.ti25 rfl rfl zz16 zz16 1 rfl) rfl ?_
      refine wpl_q (q_ld Tryd.underlying25 rfl rfl zz31) rfl ?_
      refine wpl_q (q_idxA Tryd.underlying113 Tryd.ti25 rfl rfl zz16 zz16 2 rfl) rfl ?_
      refine wpl_q (q_ld Tryd.underlying25 rfl rfl zz31) rfl ?_
      refine wpl_q (q_idxA Tryd.underlying113 Tryd.ti25 rfl rfl zz16 zz16 3 rfl) rfl ?_
      refine wpl_q (q_ld Tryd.underlying25 rfl rfl zz31) rfl ?_
      refine wpl_q (q_pure rfl) rfl <| wpl_q (q32_add rfl rfl) rfl <| wpl_q (q_pure rfl) rfl ?_
      refine wpl_q (q_idxA Tryd.underlying113 Tryd.ti25 rfl rfl zz16 zz16 5 rfl) rfl ?_
      refine wpl_q (q_ld Tryd.underlying25 rfl rfl zz31) rfl ?_
      refine wpl_q (q_idxA Tryd.underlying113 Tryd.ti25 rfl rfl zz16 zz16 6 rfl) rfl ?_
      refine wpl_q (q_ld Tryd.underlying25 rfl rfl zz31) rfl ?_
      refine wpl_q (q_buildFull (v32s (roundF (rootsL.getD i 0) ((wsF bs 64).getD i 0) (roundsF (wsF bs 64) st i))) Tryd.underlying113 Tryd.ti113 Tryd.ti25 rfl rfl (v32s_one _) rfl) rfl ?_
      refine wpl_t0 (t_stA Tryd.ti113 rfl rfl (v32s_length _) (v32s_one _) ((v32s_length _).trans hrl)) ?_
      intro _
      refine wpl_nil <| ex_block <| ex_then <| wpc_region ?_
      first | refine wpl_q (qop_eq (q_pure rfl) (congrArg (Value.int .i64) (wk_i64 zz16 zz16))) rfl ?_ | refine wpl_q (q_pure rfl) rfl ?_
      refine wpl_q (q_pure rfl) rfl <| wpl_nil ?_
      refine ex_again ⟨i + 1, zz16⟩ ?_ ?_ ?_
      · exact zz14
      · exact fun w h => h
      · show 64 - (i + 1) < 64 - i; omega
    ·
      simp only [decide_eq_false_iff_not] at hc18
      obtain rfl : i = 64 := by omega
      have hrl := roundsF_length (wsF bs 64) st hst 64
      refine wpc_exit ?_
      refine ex_then_exit ?_
      refine ex_then_exit ?_
      refine ex_block_hit ?_
      refine ex_then <| wpc_seq <| wpc_region <| wpl_q (q_pure rfl) rfl <| wpl_nil <| ex_then <| wpc_block ?_
      refine wpc_loop (ι := { j : Nat // j ≤ 8 }) (fun i => [(96, .int .i64 (i.1 : Nat)), (4, .pointer (some ⟨b4, 0, none⟩)), (0, .pointer (some ⟨sb, 0, none⟩))]) (fun j => Mem w [sb] [.blk b4 113 (v32s (roundsF (wsF bs 64) st 64)), .blk sb 113 (v32s (sumN st (roundsF (wsF bs 64) st 64) j.1))] []) (fun j => 8 - j.1) ⟨0, zz16⟩ ?_ ?_ ?_
      · exact by repeat (first | exact trivial | refine ⟨rfl, ?_⟩)
      · exact fun w h => h
      · rintro ⟨j, hj⟩; dsimp only
        have hsl := (sumN_length st (roundsF (wsF bs 64) st 64) j).trans hst
        refine wpc_seq <| wpc_region <| wpl_q (q_pure rfl) rfl <| wpl_nil <| ex_then <| wpc_seq ?_
        refine wpc_cond rfl (fun hc97 => ?_) (fun hc97 => ?_)
        ·
          simp only [decide_eq_true_eq, decide_eq_false_iff_not, Bool.and_eq_true, Bool.or_eq_true, beq_iff_eq, bne_iff_ne, ne_eq] at hc97
          refine wpc_skip <| ex_then <| wpc_seq <| wpc_block <| wpc_seq <| wpc_region <| wpl_q (q_pure rfl) rfl <| wpl_q (q_pure rfl) rfl <| wpl_nil <| ex_then ?_
          refine wpc_draw 11 zz6 (fun _ h => h.drew) ?_
          refine wpd_p 0 rfl zz6 trivial (q_pure rfl) rfl sk0 ?_
          refine wpd_p 1 rfl zz6 trivial (q_pure rfl) rfl sk0 ?_
          refine wpd_p 2 rfl zz6 trivial (q_pure rfl) rfl sk0 ?_
          refine wpd_p 3 rfl zz6 trivial (q_idxA Tryd.underlying113 Tryd.ti25 rfl rfl zz16 zz16 (j) zz16) rfl sk0 ?_
          refine wpd_q 4 rfl zz6 trivial (q_ld Tryd.underlying25 rfl rfl zz31) rfl (fun _ h => h) ?_
          refine wpd_p 5 rfl zz6 trivial (q_pure rfl) rfl sk0 ?_
          refine wpd_p 6 rfl zz6 trivial (q_idxA Tryd.underlying113 Tryd.ti25 rfl rfl zz16 zz16 (j) zz16) rfl sk0 ?_
          refine wpd_q 7 rfl zz6 trivial (q_ld Tryd.underlying25 rfl rfl zz31) rfl (fun _ h => h) ?_
          refine wpd_p 8 rfl zz6 trivial (q32_add rfl rfl) rfl sk0 ?_
          refine wpd_p 9 rfl zz6 trivial (q_pure rfl) rfl sk0 ?_
          refine wpd_p 10 rfl zz6 trivial (q_idxA Tryd.underlying113 Tryd.ti25 rfl rfl zz16 zz16 (j) zz16) rfl sk0 ?_
          refine wpd_t0 11 rfl zz6 trivial (t_st1 Tryd.ti25 rfl rfl rfl zz41 _ (by first | exact v32s_set _ | rfl)) (fun _ => skk rfl) ?_
          intro _
          refine wpd_done zz6 ?_
          refine ex_block <| ex_then <| wpc_region ?_
          first | refine wpl_q (qop_eq (q_pure rfl) (congrArg (Value.int .i64) (wk_i64 zz16 zz16))) rfl ?_ | refine wpl_q (q_pure rfl) rfl ?_
          refine wpl_q (q_pure rfl) rfl <| wpl_nil ?_
          refine ex_again ⟨j + 1, zz16⟩ ?_ ?_ ?_
          · exact zz14
          · exact fun w h => h
          · show 8 - (j + 1) < 8 - j; omega
        ·
          simp only [decide_eq_true_eq, decide_eq_false_iff_not, Bool.and_eq_true, Bool.or_eq_true, beq_iff_eq, bne_iff_ne, ne_eq] at hc97
          refine wpc_exit ?_
          refine ex_then_exit ?_
          refine ex_then_exit ?_
          refine ex_block_hit ?_
          refine ret0 (.inr rfl) rfl ?_
          obtain rfl : j = 8 := by omega
          exact fun w h => ⟨(), rfl, h.sub (.drop (Sub.refl _)) .nil⟩
end Go.Proofs.YtoaeklbenmlooaaDoor
namespace Go.Proofs.YtoaeklbenmlooaaDoor
open Go Go.PL Go.RowKit
def chunksF (c : List UInt8) : List (List UInt8) := (List.range (c.length / 64)).map fun i => (c.drop (64 * i)).take 64
def bufF (c : List UInt8) : List UInt8 := c.drop (64 * (c.length / 64)) ++ List.replicate (64 - c.length % 64) 0
theorem bufF_length (c : List UInt8) : (bufF c).length = 64 := by
  simp only [bufF, List.length_append, List.length_drop, List.length_replicate]
  omega
theorem bufF_zero (c : List UInt8) (h : c.length % 64 = 0) : bufF c = List.replicate 64 0 := by
  unfold bufF
  rw [h, List.drop_of_length_le zz16]; rfl
theorem buf_take (c : List UInt8) : (bufF c).take (c.length % 64) = c.drop (64 * (c.length / 64)) := by
  unfold bufF
  rw [List.take_append_of_le_length zz45]
  exact List.take_of_length_le zz45
theorem buf_drop (c : List UInt8) (k : Nat) : (bufF c).drop (c.length % 64 + k) = List.replicate (64 - (c.length % 64 + k)) 0 := by
  unfold bufF
  have e : (c.drop (64 * (c.length / 64))).length = c.length % 64 := by rw [List.length_drop]; omega
  rw [List.drop_append, e, show c.length % 64 + k - c.length % 64 = k from zz16, List.drop_of_length_le zz16, List.nil_append, List.drop_replicate]
  congr 1; omega
theorem put_part (c x : List UInt8) (h : c.length % 64 + x.length < 64) : chunksF (c ++ x) = chunksF c ∧ (bufF c).take (c.length % 64) ++ x ++ (bufF c).drop (c.length % 64 + x.length) = bufF (c ++ x) := by
  have hq : (c ++ x).length / 64 = c.length / 64 := by rw [List.length_append]; omega
  have hm : (c ++ x).length % 64 = c.length % 64 + x.length := by rw [List.length_append]; omega
  constructor
  · unfold chunksF
    rw [hq]
    apply List.map_congr_left
    intro i hi
    have hi' := List.mem_range.1 hi
    rw [List.drop_append_of_le_length zz16, List.take_append_of_le_length zz45]
  · rw [buf_take, buf_drop]
    unfold bufF
    rw [hq, hm, List.drop_append_of_le_length zz16]
theorem put_full (c x : List UInt8) (h : c.length % 64 + x.length = 64) : chunksF (c ++ x) = chunksF c ++ [(bufF c).take (c.length % 64) ++ x ++ (bufF c).drop (c.length % 64 + x.length)] ∧ (c ++ x).length % 64 = 0 := by
  have hq : (c ++ x).length / 64 = c.length / 64 + 1 := by rw [List.length_append]; omega
  have hm : (c ++ x).length % 64 = 0 := by rw [List.length_append]; omega
  refine ⟨?_, hm⟩
  unfold chunksF
  rw [hq, List.range_succ, List.map_append, buf_take, buf_drop]
  congr 1
  · apply List.map_congr_left
    intro i hi
    have hi' := List.mem_range.1 hi
    rw [List.drop_append_of_le_length zz16, List.take_append_of_le_length zz45]
  · simp only [List.map_cons, List.map_nil]
    rw [List.drop_append_of_le_length zz16, List.take_of_length_le (by rw [List.length_append, List.length_drop]; omega), h]
    simp
abbrev Jt := List Nat → List (List UInt8) → World → Prop
structure PutInv (J : Jt) (T : List Nat) (c p : List UInt8) (p0 : Value) (b nb y l : Nat) (wS : World) (j : Nat) (v : Value) (wb : World) : Prop where
  le : j ≤ p.length
  J : J T (chunksF (c ++ p.take j)) wb
  v : ∀ r, Seen r p0 p.length 1 (v8s p) → Seen r v (p.length - j) 1 (v8s (p.drop j))
  seen : Seen wb.cell? p0 p.length 1 (v8s p)
  yv : wb.heap[y]? = some (.cells #[.func (.yield l) #[] #[]] 131 (0, 0))
  keep : ∀ k, k ∈ T → k ≠ b → k ≠ nb → wb.heap[k]? = wS.heap[k]?
  size : wS.heap.size ≤ wb.heap.size
def PutPost (J : Jt) (T : List Nat) (c : List UInt8) (b nb : Nat) (wS : World) (e : Ending) (w : World) : Prop :=
  e = .returned (.tuple #[]) ∧ J T (chunksF c) w ∧ w.heap[b]? = some (.cells (v8s (bufF c)).toArray 133 (0, 0)) ∧ w.heap[nb]? = some (.cells #[.int .i64 ((c.length % 64 : Nat) : Int)] 3 (0, 0)) ∧
    (∀ k, k ∈ T → k ≠ b → k ≠ nb → w.heap[k]? = wS.heap[k]?) ∧ wS.heap.size ≤ w.heap.size
instance nop_put {P : Program} {fn : Func} {J : Jt} {T : List Nat} {c : List UInt8} {b nb : Nat} {wS : World} : NoP (bodyPost P fn (PutPost J T c b nb wS)) := nop_post fun c w' h => by cases h.1
def putM (c : List UInt8) (b nb : Nat) : List Ent := [.blk b 133 (v8s (bufF c)), .blk nb 3 [.int .i64 ((c.length % 64 : Nat) : Int)]]
section
variable (J : Jt) (T : List Nat) (c p : List UInt8) (p0 : Value) (b nb y l : Nat) (wS : World)
theorem slice_v {j q : Nat} {a : Option Addr} {cap : Nat} (hv : ∀ r, Seen r p0 p.length 1 (v8s p) → Seen r (.slice a (p.length - j) cap) (p.length - j) 1 (v8s (p.drop j))) (hj : j + q ≤ p.length) :
    ∀ r, Seen r p0 p.length 1 (v8s p) → Seen r (sliced a q (p.length - j) cap 1) (p.length - (j + q)) 1 (v8s (p.drop (j + q))) := fun r hr => by
  have h1 := (hv r hr).slice q (p.length - j) zz16 (Nat.le_refl _)
  have e1 : (p.length - j - q) = p.length - (j + q) := by omega
  have e2 : ((v8s (p.drop j)).drop (q * 1)).take ((p.length - j - q) * 1) = v8s (p.drop (j + q)) := by
    rw [Nat.mul_one, Nat.mul_one, v8s_drop, v8s_take, List.drop_drop, List.take_of_length_le zz45]
  rw [e2] at h1
  rw [← e1]
  exact h1
theorem PutInv.step {j q : Nat} {a : Option Addr} {cap : Nat} {wb : World} (h : PutInv J T c p p0 b nb y l wS j (.slice a (p.length - j) cap) wb) (hj : j + q ≤ p.length) (hJ : J T (chunksF (c ++ p.take (j + q))) wb) :
    PutInv J T c p p0 b nb y l wS (j + q) (sliced a q (p.length - j) cap 1) wb := ⟨hj, hJ, slice_v p p0 h.v hj, h.seen, h.yv, h.keep, h.size⟩
theorem take_plus (j q : Nat) : p.take (j + q) = p.take j ++ (p.drop j).take q := List.take_add ..
end
theorem cell_of_heap {w : World} {y : Nat} {cs : Array Value} {t : TypeId} (h : w.heap[y]? = some (.cells cs t (0, 0))) {off : Nat} {v : Value} (hv : cs[off]? = some v) : w.cell? ⟨y, off, none⟩ = some v := by simp [World.cell?, h, hv]
theorem chunks_prefix (c x : List UInt8) : chunksF c <+: chunksF (c ++ x) := by
  have hle : c.length / 64 ≤ (c ++ x).length / 64 := Nat.div_le_div_right zz50
  have e : chunksF c = (chunksF (c ++ x)).take (c.length / 64) := by
    unfold chunksF
    rw [← List.map_take, List.take_range, Nat.min_eq_left hle]
    apply List.map_congr_left
    intro i hi
    have hi' := List.mem_range.1 hi
    rw [List.drop_append_of_le_length zz16, List.take_append_of_le_length zz45]
  rw [e]; exact List.take_prefix ..
section
variable (J : Jt) (T : List Nat) (c p : List UInt8) (p0 : Value) (b nb y l : Nat) (wS : World) (ALL : List (List UInt8))
def YieldOk (P : Program) (J : Jt) (T : List Nat) (b l : Nat) (ALL : List (List UInt8)) : Prop :=
  ∀ pre x w1, J T pre w1 → (pre ++ [x]) <+: ALL → w1.heap[b]? = some (.cells (v8s x).toArray 133 (0, 0)) → YieldAt Fence.wide 0 P l #[.pointer (some ⟨b, 0, none⟩)] w1 fun e w' =>
    e = .returned (.bool true) ∧ J T (pre ++ [x]) w' ∧ w1.heap.size ≤ w'.heap.size ∧ ∀ k, k ∈ T → w'.heap[k]? = w1.heap[k]?
theorem put_yield (hst : ∀ pre w1 w2, J T pre w1 → Mem w1 T [] [] w2 → (∀ k, k ∈ T → k < w2.heap.size) → J T pre w2) (hyl : YieldOk Tryd.prog J T b l ALL)
    (hp : ∀ pre (w1 w2 : World), Seen w1.cell? p0 p.length 1 (v8s p) → J T pre w2 → (∀ k, k ∈ T → w2.heap[k]? = w1.heap[k]?) → Seen w2.cell? p0 p.length 1 (v8s p)) (hpre : chunksF (c ++ p) <+: ALL) (hTl : ∀ k, k ∈ T → k < wS.heap.size)
    (hpb : ∀ k, p0.ownBlock = some k → v8s p ≠ [] → k ≠ b ∧ k ≠ nb) (hbT : b ∈ T) (hnT : nb ∈ T) (hyT : y ∈ T) (hbn : b ≠ nb) (hby : b ≠ y) (hny : nb ≠ y)
    {j q : Nat} {a : Option Addr} {cap : Nat} {wb w : World} {full : List UInt8} {n' : Int} (hI : PutInv J T c p p0 b nb y l wS j (.slice a (p.length - j) cap) wb) (hjq : j + q ≤ p.length) (e1 : chunksF (c ++ p.take (j + q)) = chunksF (c ++ p.take j) ++ [full])
    (h : Mem wb [b, nb] [.blk b 133 (v8s full), .blk nb 3 [.int .i64 n']] [] w) :
    YieldAt Fence.wide 0 Tryd.prog l #[.pointer (some ⟨b, 0, none⟩)] w fun e w' => ∃ u : { u : World // PutInv J T c p p0 b nb y l wS (j + q) (sliced a q (p.length - j) cap 1) u }, e = .returned (.bool true) ∧ Mem u.1 [b, nb] [.blk b 133 (v8s full), .blk nb 3 [.int .i64 n']] [] w' := by
  have hb1 : w.heap[b]? = some (.cells (v8s full).toArray 133 (0, 0)) := h.own _ (List.mem_cons_self ..)
  have hb2 : w.heap[nb]? = some (.cells #[.int .i64 n'] 3 (0, 0)) := h.own (.blk nb 3 [.int .i64 n']) zz50
  have hm0 : Mem wb T [] [] w := (h.sub .nil .nil).lend (by intro k hk; simp at hk; rcases hk with rfl | rfl <;> assumption)
  have hJ := hst _ _ _ hI.J hm0 (fun k hk => Nat.lt_of_lt_of_le (hTl k hk) (Nat.le_trans hI.size h.size))
  have hpx : chunksF (c ++ p.take j) ++ [full] <+: ALL := by
    rw [← e1]
    refine List.IsPrefix.trans ?_ hpre
    have := chunks_prefix (c ++ p.take (j + q)) (p.drop (j + q))
    rwa [List.append_assoc, List.take_append_drop] at this
  obtain ⟨fn, tmps, assign, body, hrun, hround⟩ := hyl _ _ _ hJ hpx hb1
  refine ⟨fn, tmps, assign, body, hrun, hround.mono ?_⟩
  rintro e w' ⟨rfl, hJ', hsz, hT⟩
  have hseen := hp _ w w' (h.at2 hI.seen hpb) hJ' hT
  have hyw : w'.heap[y]? = some (.cells #[.func (.yield l) #[] #[]] 131 (0, 0)) := by
    rw [hT y hyT, h.old y (Array.getElem?_eq_some_iff.1 hI.yv).1 (by simp; exact ⟨fun e => hby e.symm, fun e => hny e.symm⟩)]; exact hI.yv
  refine ⟨⟨w', hjq, by rw [e1]; exact hJ', slice_v p p0 hI.v hjq, hseen, hyw, fun k hk h1 h2 => ?_, Nat.le_trans hI.size (Nat.le_trans h.size hsz)⟩, rfl, ?_⟩
  · rw [hT k hk, h.old k (Nat.lt_of_lt_of_le (hTl k hk) hI.size) (by simp; exact ⟨h1, h2⟩)]; exact hI.keep k hk h1 h2
  · exact Mem.startL (Ms := [.blk b 133 (v8s full), .blk nb 3 [.int .i64 n']]) w' (by
      intro e he
      simp at he
      rcases he with rfl | rfl
      · exact (hT b hbT).trans hb1
      · exact (hT nb hnT).trans hb2) (by simp [Ent.num]; exact fun e => hbn e.symm)
theorem put_fin (hst : ∀ pre w1 w2, J T pre w1 → Mem w1 T [] [] w2 → (∀ k, k ∈ T → k < w2.heap.size) → J T pre w2) (hTl : ∀ k, k ∈ T → k < wS.heap.size) (hbT : b ∈ T) (hnT : nb ∈ T) {v : Value} {wb w : World} (hI : PutInv J T c p p0 b nb y l wS p.length v wb)
    (h : Mem wb [b, nb] (putM (c ++ p.take p.length) b nb) [] w) : PutPost J T (c ++ p) b nb wS (.returned (.tuple #[])) w := by
  rw [List.take_length] at h
  have hm0 : Mem wb T [] [] w := (h.sub .nil .nil).lend (by intro k hk; simp at hk; rcases hk with rfl | rfl <;> assumption)
  have hJ := hst _ _ _ hI.J hm0 (fun k hk => Nat.lt_of_lt_of_le (hTl k hk) (Nat.le_trans hI.size h.size))
  rw [List.take_length] at hJ
  refine ⟨rfl, hJ, h.own _ (List.mem_cons_self ..), h.own _ (List.mem_cons_of_mem _ (List.mem_cons_self ..)), fun k hk h1 h2 => ?_, Nat.le_trans hI.size h.size⟩
  rw [h.old k (Nat.lt_of_lt_of_le (hTl k hk) hI.size) (by simp; exact ⟨h1, h2⟩)]; exact hI.keep k hk h1 h2
end
end Go.Proofs.YtoaeklbenmlooaaDoor
namespace Go.Proofs.YtoaeklbenmlooaaDoor
open Go Go.PL Go.RowKit
theorem put (J : Jt) (T : List Nat) (c p : List UInt8) (p0 : Value) (b nb y l : Nat) (wS : World) (ALL : List (List UInt8)) (hst : ∀ pre w1 w2, J T pre w1 → Mem w1 T [] [] w2 → (∀ k, k ∈ T → k < w2.heap.size) → J T pre w2) (hyl : YieldOk Tryd.prog J T b l ALL)
    (hp : ∀ pre (w1 w2 : World), Seen w1.cell? p0 p.length 1 (v8s p) → J T pre w2 → (∀ k, k ∈ T → w2.heap[k]? = w1.heap[k]?) → Seen w2.cell? p0 p.length 1 (v8s p)) (hpre : chunksF (c ++ p) <+: ALL) (hTl : ∀ k, k ∈ T → k < wS.heap.size)
    (hpb : ∀ k, p0.ownBlock = some k → v8s p ≠ [] → k ≠ b ∧ k ≠ nb) (hbT : b ∈ T) (hnT : nb ∈ T) (hyT : y ∈ T) (hbn : b ≠ nb) (hby : b ≠ y) (hny : nb ≠ y)
    (hJ : J T (chunksF c) wS) (hs : Seen wS.cell? p0 p.length 1 (v8s p)) (hb : wS.heap[b]? = some (.cells (v8s (bufF c)).toArray 133 (0, 0))) (hn : wS.heap[nb]? = some (.cells #[.int .i64 ((c.length % 64 : Nat) : Int)] 3 (0, 0))) (hyv : wS.heap[y]? = some (.cells #[.func (.yield l) #[] #[]] 131 (0, 0))) :
    Calls Tryd.prog 71 [p0, .pointer (some ⟨b, 0, none⟩), .pointer (some ⟨nb, 0, none⟩), .pointer (some ⟨y, 0, none⟩)].toArray wS (PutPost J T (c ++ p) b nb wS) := by
  have hI0 : PutInv J T c p p0 b nb y l wS 0 p0 wS := ⟨Nat.zero_le _, by simpa using hJ, fun r h => by simpa using h, hs, hyv, fun _ _ _ _ => rfl, Nat.le_refl _⟩
  have hyb : (⟨y, 0, none⟩ : Addr).block ∉ [b, nb] := by simp; exact ⟨fun e => hby e.symm, fun e => hny e.symm⟩
  refine enter (m := 24) (R := Mem wS [b, nb] (putM c b nb) []) Tryd.func71 rfl rfl (Nat.le_of_ble_eq_true rfl) (Mem.startL (Ms := putM c b nb) wS (by
    intro e he
    simp [putM] at he
    rcases he with rfl | rfl
    · exact hb
    · exact hn) (by simp [putM, Ent.num]; exact fun e => hbn e.symm)) ?_
  refine wpc_block ?_
  refine wpc_loop (ι := { x : Nat × Value × World // PutInv J T c p p0 b nb y l wS x.1 x.2.1 x.2.2 }) (fun x => [(0, x.1.2.1), (1, .pointer (some ⟨b, 0, none⟩)), (2, .pointer (some ⟨nb, 0, none⟩)), (3, .pointer (some ⟨y, 0, none⟩))]) (fun x => Mem x.1.2.2 [b, nb] (putM (c ++ p.take x.1.1) b nb) []) (fun x => p.length - x.1.1) ⟨(0, p0, wS), hI0⟩ ?_ ?_ ?_
  · exact by repeat (first | exact trivial | refine ⟨rfl, ?_⟩)
  · exact fun w h => by have e : c ++ p.take 0 = c := by simp
                        rw [e]; exact h
  · rintro ⟨⟨j, v, wb⟩, hI⟩; dsimp only
    have hI : PutInv J T c p p0 b nb y l wS j v wb := hI
    obtain ⟨a, cap, rfl, hc1, hc2, hc3⟩ := (hI.v _ hI.seen).form
    have hjl := hI.le
    have hbl := bufF_length (c ++ p.take j)
    have hnl : (c ++ p.take j).length % 64 < 64 := Nat.mod_lt _ zz27
    simp only [putM]
    refine wpc_seq <| wpc_seq <| wpc_region <| wpl_q (q_pure rfl) rfl <| wpl_q (q_len Tryd.underlying22 rfl) rfl <| wpl_q (q_pure rfl) rfl <| wpl_nil <| ex_then ?_
    refine wpc_cond rfl (fun hc8 => ?_) (fun hc8 => ?_)
    ·
      simp only [decide_eq_true_eq] at hc8
      obtain ⟨q, hq⟩ : ∃ q, min (p.length - j) (64 - (c ++ p.take j).length % 64) = q := ⟨_, rfl⟩
      have hql : ((p.drop j).take q).length = q := by rw [List.length_take, List.length_drop]; omega
      have eT : c ++ p.take (j + q) = (c ++ p.take j) ++ (p.drop j).take q := by rw [take_plus, List.append_assoc]
      have hfl : ((bufF (c ++ p.take j)).take ((c ++ p.take j).length % 64) ++ (p.drop j).take q ++ (bufF (c ++ p.take j)).drop ((c ++ p.take j).length % 64 + q)).length = 64 := by rw [List.length_append, List.length_append, List.length_take, List.length_drop, hbl, hql]; omega
      refine wpc_skip <| ex_then <| wpc_block <| wpc_seq <| wpc_region <| wpl_q (q_ld Tryd.underlying3 rfl rfl rfl) rfl ?_
      refine wpl_q (qop_eq (q_ar_l Tryd.underlying133 Tryd.ti5 rfl rfl zz16 zz16 ((c ++ p.take j).length % 64) zz16) (slicedAt_lt _ _ _ _ hnl)) rfl ?_
      refine wpl_q (q_pure rfl) rfl ?_
      refine wpl_t (t_copy Tryd.underlying22 Tryd.ti5 rfl rfl (fun w h => hI.v _ (h.at2 hI.seen hpb)) (v8s_one _) (by rw [v8s_length]; omega) q hq (v8s ((bufF (c ++ p.take j)).take ((c ++ p.take j).length % 64) ++ (p.drop j).take q ++ (bufF (c ++ p.take j)).drop ((c ++ p.take j).length % 64 + q))) (by rw [v8s_take, v8s_take, v8s_drop, ← v8s_append, ← v8s_append])) rfl ?_
      intro b12
      refine wpl_q (q_pure rfl) rfl <| wpl_nil <| ex_then <| wpc_seq ?_
      refine wpc_draw 7 zz6 (fun _ h => h.drew) ?_
      refine wpd_p 0 rfl zz6 trivial (q_pure rfl) rfl sk0 ?_
      refine wpd_p 1 rfl zz6 trivial (q_pure rfl) rfl sk0 ?_
      refine wpd_p 2 rfl zz6 trivial (q_sl_l Tryd.underlying22 Tryd.ti5 rfl rfl zz16 zz16 q zz16) rfl sk0 ?_
      refine wpd_q 3 rfl zz6 trivial (q_ld Tryd.underlying3 rfl rfl rfl) rfl (fun _ h => h) ?_
      refine wpd_p 4 rfl zz6 trivial (q_pure rfl) rfl sk0 ?_
      first | refine wpd_p 5 rfl zz6 trivial (qop_eq (q_pure rfl) (congrArg (Value.int .i64) (wk_i64 zz16 zz16))) rfl sk0 ?_ | refine wpd_p 5 rfl zz6 trivial (q_pure rfl) rfl sk0 ?_
      refine wpd_p 6 rfl zz6 trivial (q_pure rfl) rfl sk0 ?_
      refine wpd_t0 7 rfl zz6 trivial (t_st1 Tryd.ti3 rfl rfl rfl Nat.zero_lt_one _ rfl) (fun _ => skk rfl) ?_
      intro _
      refine wpd_done zz6 ?_
      refine ex_then <| wpc_seq <| wpc_region <| wpl_q (q_ld Tryd.underlying3 rfl rfl rfl) rfl <| wpl_q (q_pure rfl) rfl <| wpl_nil <| ex_then ?_
      refine wpc_cond rfl (fun hc20 => ?_) (fun hc20 => ?_)
      ·
        have hjq : j + q ≤ p.length := by omega
        simp only [beq_iff_eq, decide_eq_true_eq] at hc20
        have hfull : (c ++ p.take j).length % 64 + q = 64 := by omega
        obtain ⟨e1, e2⟩ := put_full (c ++ p.take j) ((p.drop j).take q) (by rw [hql]; exact hfull)
        rw [hql] at e1
        rw [← eT] at e1 e2
        refine wpc_seq ?_
        refine wpc_region_y ?_
        refine wpli_q open_wide (q_load1 Tryd.underlying131 rfl rfl (fun w h => h.cell_oldL (cell_of_heap hI.yv rfl) hyb)) rfl ?_
        refine wpli_yield (l := l) (ι := { u : World // PutInv J T c p p0 b nb y l wS (j + q) (sliced a q (p.length - j) cap 1) u }) (V := fun _ => .bool true) (R' := fun u => Mem u.1 [b, nb] [.blk b 133 (v8s ((bufF (c ++ p.take j)).take ((c ++ p.take j).length % 64) ++ (p.drop j).take q ++ (bufF (c ++ p.take j)).drop ((c ++ p.take j).length % 64 + q))), .blk nb 3 [.int .i64 (((c ++ p.take j).length % 64 : Nat) + (q : Nat) : Int)]] []) rfl rfl ?_ rfl fun u => ?_
        · exact fun w h => put_yield J T c p p0 b nb y l wS ALL hst hyl hp hpre hTl hpb hbT hnT hyT hbn hby hny hI hjq e1 h
        refine wpli_nil ?_
        obtain ⟨wb2, HI⟩ := u
        refine ex_then <| wpc_region ?_
        refine wpl_q (q_build (cs := v8s (List.replicate 64 0)) (vs := []) rfl (built_array Tryd.underlying133 Tryd.ti133 Tryd.ti5 rfl)) rfl ?_
        refine wpl_t0 (t_stA Tryd.ti133 rfl rfl rfl (v8s_one _) (by rw [v8s_length]; exact hfl)) ?_
        intro _
        refine wpl_t0 (t_st1 Tryd.ti3 rfl rfl rfl Nat.zero_lt_one _ rfl) ?_
        intro _
        refine wpl_nil <| ex_block ?_
        refine ex_again ⟨(j + q, _, _), HI⟩ ?_ ?_ ?_
        · exact zz14
        · exact fun w h => by
            first
            | (show Mem _ _ (putM (c ++ p.take (j + q)) b nb) _ _
               rw [putM, bufF_zero _ e2, e2]; exact h)
            | (show Mem _ _ (putM (c ++ p.take (j + q)) b nb) _ _
               rw [putM, ← e2, show (((c ++ p.take (j + q)).length % 64 : Nat) : Int) = ((c ++ p.take j).length % 64 : Nat) + (q : Nat) by rw [take_plus, ← List.append_assoc, List.length_append, hql]; omega]; exact h)
        · show p.length - (j + q) < p.length - j; omega
      ·
        simp only [beq_eq_false_iff_ne, decide_eq_false_iff_not, ne_eq] at hc20
        obtain ⟨e1, e2⟩ := put_part (c ++ p.take j) ((p.drop j).take q) (by rw [hql]; omega)
        rw [hql] at e2
        rw [← eT] at e1 e2
        have HI := PutInv.step J T c p p0 b nb y l wS hI (q := q) zz16 (by rw [e1]; exact hI.J)
        refine wpc_skip <| ex_block ?_
        refine ex_again ⟨(j + q, _, _), HI⟩ ?_ ?_ ?_
        · exact zz14
        · exact fun w h => by
            first
            | (show Mem _ _ (putM (c ++ p.take (j + q)) b nb) _ _
               rw [putM, bufF_zero _ e2, e2]; exact h)
            | (show Mem _ _ (putM (c ++ p.take (j + q)) b nb) _ _
               rw [putM, ← e2, show (((c ++ p.take (j + q)).length % 64 : Nat) : Int) = ((c ++ p.take j).length % 64 : Nat) + (q : Nat) by rw [take_plus, ← List.append_assoc, List.length_append, hql]; omega]; exact h)
        · show p.length - (j + q) < p.length - j; omega
    ·
      simp only [decide_eq_false_iff_not] at hc8
      obtain rfl : j = p.length := by omega
      refine wpc_exit ?_
      refine ex_then_exit ?_
      refine ex_then_exit ?_
      refine ex_block_hit ?_
      refine ret0 (.inr rfl) rfl ?_
      exact fun w h => put_fin J T c p p0 b nb y l wS hst hTl hbT hnT hI h
end Go.Proofs.YtoaeklbenmlooaaDoor
namespace Go.Proofs.YtoaeklbenmlooaaDoor
open Go Go.PL Go.RowKit
def setLen (buf : List UInt8) (x : UInt64) : Nat → List UInt8
  | 0 => buf
  | i + 1 => (setLen buf x i).set (56 + i) (of8 (sr64 x (56 - 8 * i)).toNat)
theorem setLen_length (buf : List UInt8) (x : UInt64) : ∀ i, (setLen buf x i).length = buf.length
  | 0 => rfl
  | i + 1 => by simp [setLen, setLen_length buf x i]
def cF (a : List UInt8) : List UInt8 := if (a ++ [128]).length % 64 > 56 then (a ++ [128]) ++ List.replicate (64 - (a ++ [128]).length % 64) 0 else a ++ [128]
def lenN (ps : List (List UInt8)) : Nat → UInt64
  | 0 => 0
  | i + 1 => lenN ps i + of64 (ps.getD i []).length
def blocksF (ps : List (List UInt8)) : List (List UInt8) := chunksF (cF ps.flatten) ++ [setLen (bufF (cF ps.flatten)) (lenN ps ps.length * 8) 8]
def Parts (r : Rd) (v : Value) (ps : List (Value × List UInt8)) : Prop := Seen r v ps.length 1 (ps.map Prod.fst) ∧ ∀ q ∈ ps, Seen r q.1 q.2.length 1 (v8s q.2)
def encB (_ : List UInt8) (b : Nat) : Array Value := #[.pointer (some ⟨b, 0, none⟩)]
def AtB (T : List Nat) (x : List UInt8) (b : Nat) (w : World) : Prop := b ∈ T ∧ w.heap[b]? = some (.cells (v8s x).toArray 133 (0, 0))
def InvB (pb : Nat) (v : Value) (ps : List (Value × List UInt8)) (w : World) : Prop := w.heap[pb]? = some (.cells #[v] 111 (0, 0)) ∧ Parts w.cell? v ps
def blkM (l : Nat) (c : List UInt8) (b nb y : Nat) : List Ent := [.blk nb 3 [.int .i64 ((c.length % 64 : Nat) : Int)], .blk b 133 (v8s (bufF c)), .blk y 131 [.func (.yield l) #[] #[]]]
structure ItInv (J : Jt) (W : World) (c : List UInt8) (b nb y l : Nat) (wb : World) : Prop where
  J : J [nb, b, y] (chunksF c) wb
  b : W.heap.size ≤ b
  nb : W.heap.size ≤ nb
  y : W.heap.size ≤ y
def Stab (J : Jt) : Prop := ∀ T T' pre w1 w2, J T pre w1 → Mem w1 T [] [] w2 → (∀ k, k ∈ T' → (k ∈ T ∨ w1.heap.size ≤ k) ∧ k < w2.heap.size) → J T' pre w2
theorem put_at (J : Jt) (W : World) (l : Nat) (ALL : List (List UInt8)) (pb : Nat) (pv : Value) (ps : List (Value × List UInt8)) (hst : Stab J) (hyl : ∀ T b, b ∈ T → YieldOk Tryd.prog J T b l ALL)
    {c p : List UInt8} {p0 : Value} {b nb y : Nat} {wb w : World} {X : List Ent} (hI : ItInv J W c b nb y l wb) (h : Mem wb [nb, b, y] (X ++ blkM l c b nb y) [] w)
    (hpre : chunksF (c ++ p) <+: ALL) (hs : Seen w.cell? p0 p.length 1 (v8s p)) (hpb : ∀ k, p0.ownBlock = some k → v8s p ≠ [] → k ≠ b ∧ k ≠ nb)
    (hp : ∀ pre (w1 w2 : World), Seen w1.cell? p0 p.length 1 (v8s p) → J (nums X ++ [nb, b, y]) pre w2 → (∀ k, k ∈ nums X ++ [nb, b, y] → w2.heap[k]? = w1.heap[k]?) → Seen w2.cell? p0 p.length 1 (v8s p)) :
    Calls Tryd.prog 71 #[p0, .pointer (some ⟨b, 0, none⟩), .pointer (some ⟨nb, 0, none⟩), .pointer (some ⟨y, 0, none⟩)] w fun e w' =>
      ∃ u : { u : World // ItInv J W (c ++ p) b nb y l u }, e = .returned (.tuple #[]) ∧ Mem u.1 [nb, b, y] (blkM l (c ++ p) b nb y) [] w' := by
  have hn : w.heap[nb]? = some (.cells #[.int .i64 ((c.length % 64 : Nat) : Int)] 3 (0, 0)) := h.own (.blk nb 3 [.int .i64 ((c.length % 64 : Nat) : Int)]) (by simp [blkM])
  have hb : w.heap[b]? = some (.cells (v8s (bufF c)).toArray 133 (0, 0)) := h.own (.blk b 133 (v8s (bufF c))) (by simp [blkM])
  have hy : w.heap[y]? = some (.cells #[.func (.yield l) #[] #[]] 131 (0, 0)) := h.own (.blk y 131 [.func (.yield l) #[] #[]]) (by simp [blkM])
  have hap := (List.pairwise_append.1 h.apart).2.1
  simp only [blkM, List.pairwise_cons, List.mem_cons, List.mem_nil_iff, or_false, Ent.num, Option.some.injEq, forall_eq_or_imp, forall_eq] at hap
  have hnb : nb ≠ b := fun e => (hap.1.1 nb rfl) (congrArg some e.symm)
  have hny : nb ≠ y := fun e => (hap.1.2 nb rfl) (congrArg some e.symm)
  have hby : b ≠ y := fun e => (hap.2.1 b rfl) (congrArg some e.symm)
  have hTl : ∀ k, k ∈ nums X ++ [nb, b, y] → k < w.heap.size := by
    intro k hk
    rcases List.mem_append.1 hk with hk | hk
    · obtain ⟨e, he, hne⟩ := mem_nums.1 hk
      exact Ent.lt (h.own e (List.mem_append_left _ he)) hne
    · simp at hk
      rcases hk with rfl | rfl | rfl
      · exact (Array.getElem?_eq_some_iff.1 hn).1
      · exact (Array.getElem?_eq_some_iff.1 hb).1
      · exact (Array.getElem?_eq_some_iff.1 hy).1
  have hX : ∀ k, k ∈ nums X → wb.heap.size ≤ k := fun k hk => by
    obtain ⟨e, he, hne⟩ := mem_nums.1 hk
    rcases h.new e (List.mem_append_left _ he) k hne with h1 | h1
    · exact h1
    · have hxx := (List.pairwise_append.1 h.apart).2.2 e he
      simp at h1
      rcases h1 with rfl | rfl | rfl
      · exact absurd rfl (hxx (.blk k 3 [.int .i64 ((c.length % 64 : Nat) : Int)]) (by simp [blkM]) k hne)
      · exact absurd rfl (hxx (.blk k 133 (v8s (bufF c))) (by simp [blkM]) k hne)
      · exact absurd rfl (hxx (.blk k 131 [.func (.yield l) #[] #[]]) (by simp [blkM]) k hne)
  have hJ : J (nums X ++ [nb, b, y]) (chunksF c) w := hst _ _ _ _ _ hI.J (h.sub .nil .nil) fun k hk => ⟨(List.mem_append.1 hk).symm.imp id (hX k), hTl k hk⟩
  refine (put J (nums X ++ [nb, b, y]) c p p0 b nb y l w ALL (fun pre w1 w2 h1 h2 h3 => hst _ _ _ _ _ h1 h2 fun k hk => ⟨.inl hk, h3 k hk⟩) (hyl _ _ zz50) hp hpre hTl hpb zz50 zz50 zz50 hnb.symm hby hny hJ hs hb hn hy).mono ?_
  rintro e w' ⟨rfl, j1, j2, j3, j4, j5⟩
  have hy' : w'.heap[y]? = some (.cells #[.func (.yield l) #[] #[]] 131 (0, 0)) := (j4 y zz50 hby.symm hny.symm).trans hy
  refine ⟨⟨w', hst _ _ _ _ _ j1 ((Mem.start w').lend zz50) (fun k hk => ⟨.inl (List.mem_append_right _ hk), ?_⟩), hI.b, hI.nb, hI.y⟩, rfl, ?_⟩
  · exact Nat.lt_of_lt_of_le (hTl k (List.mem_append_right _ hk)) j5
  · exact Mem.startL (Ms := blkM l (c ++ p) b nb y) w' (by
      intro e he
      simp only [blkM, List.mem_cons, List.mem_nil_iff, or_false] at he
      rcases he with rfl | rfl | rfl
      · exact j3
      · exact j2
      · exact hy') (by simp [blkM, Ent.num]; exact ⟨⟨hnb.symm, hny.symm⟩, hby.symm⟩)
theorem addr_block (a : Addr) (i : Nat) : (a.add i).block = a.block := by unfold Addr.add; split <;> rfl
theorem cF_pre (a : List UInt8) : ∃ x, a ++ [128] ++ x = cF a := by
  unfold cF
  split
  · exact ⟨_, rfl⟩
  · exact ⟨[], zz50⟩
theorem pre_all (ps : List (List UInt8)) (c : List UInt8) (h : ∃ x, c ++ x = cF ps.flatten) : chunksF c <+: blocksF ps := by
  obtain ⟨x, hx⟩ := h
  unfold blocksF
  rw [← hx]
  exact (chunks_prefix c x).trans (List.prefix_append _ _)
theorem pre_take (ps : List (List UInt8)) (i : Nat) : ∃ x, (ps.take i).flatten ++ x = cF ps.flatten := by
  obtain ⟨x, hx⟩ := cF_pre ps.flatten
  refine ⟨(ps.drop i).flatten ++ ([128] ++ x), ?_⟩
  rw [← hx, ← List.append_assoc, ← List.flatten_append, List.take_append_drop, List.append_assoc]
theorem take_succ_flat (ps : List (List UInt8)) (i : Nat) (h : i < ps.length) : (ps.take (i + 1)).flatten = (ps.take i).flatten ++ ps.getD i [] := by
  have e : ps.take (i + 1) = ps.take i ++ [ps.getD i []] := by rw [List.take_add_one]; simp [h]
  rw [e]; simp
theorem cF_full (a : List UInt8) (h : (a ++ [128]).length % 64 > 56) : cF a = (a ++ [128]) ++ List.replicate (64 - (a ++ [128]).length % 64) 0 := if_pos h
theorem cF_room (a : List UInt8) (h : ¬ (a ++ [128]).length % 64 > 56) : cF a = a ++ [128] := if_neg h
end Go.Proofs.YtoaeklbenmlooaaDoor
namespace Go.Proofs.YtoaeklbenmlooaaDoor
open Go Go.PL Go.RowKit
theorem mem_c {u w : World} {T : List Nat} {l b nb y : Nat} {c c' : List UInt8} (e : c = c') (h : Mem u T (blkM l c' b nb y) [] w) : Mem u T (blkM l c b nb y) [] w := e ▸ h
theorem zeros_flat (k : Nat) : (List.replicate k (Value.int .u8 0).cells.toList).flatten = v8s (List.replicate k 0) := by
  induction k with
  | zero => rfl
  | succ k ih => rw [List.replicate_succ, List.flatten_cons, ih, List.replicate_succ]; rfl
theorem put_row (J : Jt) (W : World) (l : Nat) (ALL : List (List UInt8)) (pb : Nat) (pv : Value) (ps : List (Value × List UInt8)) (hst : Stab J) (hyl : ∀ T b, b ∈ T → YieldOk Tryd.prog J T b l ALL)
    {c p : List UInt8} {r m cap : Nat} {b nb y : Nat} {wb w : World} (hI : ItInv J W c b nb y l wb) (h : Mem wb [nb, b, y] (.row (.slice (some ⟨r, 0, none⟩) m cap) m 5 1 (v8s p) :: blkM l c b nb y) [] w) (hpre : chunksF (c ++ p) <+: ALL) :
    Calls Tryd.prog 71 #[.slice (some ⟨r, 0, none⟩) m cap, .pointer (some ⟨b, 0, none⟩), .pointer (some ⟨nb, 0, none⟩), .pointer (some ⟨y, 0, none⟩)] w fun e w' =>
      ∃ u : { u : World // ItInv J W (c ++ p) b nb y l u }, e = .returned (.tuple #[]) ∧ Mem u.1 [nb, b, y] (blkM l (c ++ p) b nb y) [] w' := by
  have hlen : m = p.length := by have := h.row_len (List.mem_cons_self ..); simpa using this.symm
  subst hlen
  have hap := (List.pairwise_cons.1 h.apart).1
  have hrb : r ≠ b := fun e => hap (.blk b 133 (v8s (bufF c))) (by simp [blkM]) r rfl (by rw [e]; rfl)
  have hrn : r ≠ nb := fun e => hap (.blk nb 3 [.int .i64 ((c.length % 64 : Nat) : Int)]) (by simp [blkM]) r rfl (by rw [e]; rfl)
  refine put_at J W l ALL pb pv ps hst hyl (X := [.row (.slice (some ⟨r, 0, none⟩) p.length cap) p.length 5 1 (v8s p)]) hI h hpre (h.seen_row (List.mem_cons_self ..)) (fun k hk _ => by
    simp [Value.ownBlock] at hk; subst hk; exact ⟨hrb, hrn⟩) (fun pre w1 w2 h1 _ hT => ?_)
  have hrT := hT r (by simp [nums, Ent.num, Value.ownBlock])
  obtain ⟨q1, a, cp, q2, q3, q4, q5⟩ := h1
  simp at q2
  obtain ⟨rfl, rfl⟩ := q2
  refine ⟨q1, _, _, rfl, q3, q4, ?_⟩
  rcases q5 with q5 | ⟨ad, q5, q6⟩
  · cases q5.1
  · cases q5
    refine .inr ⟨_, rfl, fun j u hj => ?_⟩
    have := q6 j u hj
    rw [add_lit] at this ⊢
    exact (World.cell?_of_block hrT).trans this
theorem last_yield (J : Jt) (W : World) (l : Nat) (ALL : List (List UInt8)) (ps : List (Value × List UInt8)) (hst : Stab J) (hyl : ∀ T b, b ∈ T → YieldOk Tryd.prog J T b l ALL) (hALL : blocksF (ps.map Prod.snd) = ALL)
    {b nb y : Nat} {n' : Int} {wb w : World} (hI : ItInv J W (cF (ps.map Prod.snd).flatten) b nb y l wb)
    (h : Mem wb [nb, b, y] [.blk nb 3 [.int .i64 n'], .blk b 133 (v8s (setLen (bufF (cF (ps.map Prod.snd).flatten)) (lenN (ps.map Prod.snd) ps.length * 8) 8)), .blk y 131 [.func (.yield l) #[] #[]]] [] w) :
    YieldAt Fence.wide 0 Tryd.prog l #[.pointer (some ⟨b, 0, none⟩)] w fun e w' => ∃ u : { u : World // ∃ T, J T ALL u }, e = .returned (.bool true) ∧ w' = u.1 := by
  have hlt : ∀ k, k ∈ [nb, b, y] → k < w.heap.size := fun k hk => by
    have hk' : k ∈ nums [.blk nb 3 [.int .i64 n'], .blk b 133 (v8s (setLen (bufF (cF (ps.map Prod.snd).flatten)) (lenN (ps.map Prod.snd) ps.length * 8) 8)), .blk y 131 [.func (.yield l) #[] #[]]] := hk
    obtain ⟨e, he, hn⟩ := mem_nums.1 hk'
    exact Ent.lt (h.own e he) hn
  have hJ := hst _ [nb, b, y] _ _ _ hI.J (h.sub .nil .nil) (fun k hk => ⟨.inl hk, hlt k hk⟩)
  have hb : w.heap[b]? = some (.cells (v8s (setLen (bufF (cF (ps.map Prod.snd).flatten)) (lenN (ps.map Prod.snd) ps.length * 8) 8)).toArray 133 (0, 0)) := h.own (.blk b 133 (v8s (setLen (bufF (cF (ps.map Prod.snd).flatten)) (lenN (ps.map Prod.snd) ps.length * 8) 8))) zz50
  have hall : chunksF (cF (ps.map Prod.snd).flatten) ++ [setLen (bufF (cF (ps.map Prod.snd).flatten)) (lenN (ps.map Prod.snd) ps.length * 8) 8] = ALL := by rw [← hALL]; unfold blocksF; rw [List.length_map]
  obtain ⟨fn, tmps, assign, body, hrun, hround⟩ := hyl [nb, b, y] b zz50 _ _ w hJ (by rw [hall]; exact List.prefix_refl _) hb
  refine ⟨fn, tmps, assign, body, hrun, hround.mono ?_⟩
  rintro e w' ⟨rfl, hJ', _⟩
  rw [hall] at hJ'
  exact ⟨⟨w', _, hJ'⟩, rfl, rfl⟩
def ItPost (J : Jt) (ALL : List (List UInt8)) (e : Ending) (w : World) : Prop := (∃ v, e = .returned v) ∧ ∃ T, J T ALL w
theorem iter (J : Jt) (W : World) (l : Nat) (ALL : List (List UInt8)) (pb : Nat) (pv : Value) (ps : List (Value × List UInt8)) (hst : Stab J) (hyl : ∀ T b, b ∈ T → YieldOk Tryd.prog J T b l ALL) (hALL : blocksF (ps.map Prod.snd) = ALL)
    (hinv : ∀ T pre w1, J T pre w1 → InvB pb pv ps w1) (hJ0 : J [] [] W) :
    Calls Tryd.prog 70 [.func (.yield l) #[] #[], .pointer (some ⟨pb, 0, none⟩)].toArray W (ItPost J ALL) := by
  obtain ⟨a, cap, rfl, hlc, hcm, hz⟩ := (hinv _ _ _ hJ0).2.1.form
  have hpbW : pb < W.heap.size := (Array.getElem?_eq_some_iff.1 (hinv _ _ _ hJ0).1).1
  have hmL : cap ≤ 9223372036854775807 := by simp only [maxLen] at hcm; omega
  refine enter (m := 53) (R := Mem W [] [] []) Tryd.func70 rfl rfl (Nat.le_of_ble_eq_true rfl) (Mem.start W) ?_
  refine wpc_seq <| wpc_region ?_
  refine wpl_t (t_box rfl _ rfl) rfl ?_
  intro b2
  refine wpl_nil <| ex_then <| wpc_seq <| wpc_region ?_
  refine wpl_t (t_alloc Tryd.ti133 (v8s (bufF [])) (by rfl)) rfl ?_
  intro b3
  refine wpl_nil <| ex_then <| wpc_seq <| wpc_region ?_
  refine wpl_t (t_alloc Tryd.ti3 _ rfl) rfl ?_
  intro b4
  refine wpl_t0 (t_st1 Tryd.ti3 rfl rfl rfl Nat.zero_lt_one _ rfl) ?_
  intro _
  refine wpl_q (q_pure rfl) rfl <| wpl_nil <| ex_then <| wpc_seq <| wpc_region ?_
  refine wpl_q (q_fn (us := []) (vs := [.pointer (some ⟨b3, 0, none⟩), .pointer (some ⟨b4, 0, none⟩), .pointer (some ⟨b2, 0, none⟩)]) rfl rfl) rfl ?_
  refine wpl_q (q_pure rfl) rfl <| wpl_nil <| ex_then <| wpc_seq <| wpc_seq ?_
  refine wpc_ex (p := ItInv J W [] b3 b4 b2 l) (R' := fun wb => Mem wb [b4, b3, b2] (blkM l [] b3 b4 b2) []) (fun w h => ?_) (fun wb0 hI0 => ?_)
  · have h2 : Mem W [] (blkM l [] b3 b4 b2) [] w := h
    have hlt : ∀ k, k ∈ [b4, b3, b2] → W.heap.size ≤ k ∧ k < w.heap.size := fun k hk => by
      have hk' : k ∈ nums (blkM l [] b3 b4 b2) := hk
      obtain ⟨e, he, hn⟩ := mem_nums.1 hk'
      exact ⟨(h2.new e he k hn).resolve_right zz50, Ent.lt (h2.own e he) hn⟩
    exact ⟨w, ⟨hst [] _ _ _ _ hJ0 (h2.sub .nil .nil) (fun k hk => ⟨.inr (hlt k hk).1, (hlt k hk).2⟩), (hlt b3 zz50).1, (hlt b4 zz50).1, (hlt b2 zz50).1⟩, h2.base⟩
  refine wpc_region ?_
  refine wpl_q (q_load1 Tryd.underlying111 rfl rfl (fun w h => h.cell_oldL (cell_of_heap (hinv _ _ _ hI0.J).1 rfl) (by have := hI0.b; have := hI0.nb; have := hI0.y; simp; omega))) rfl ?_
  refine wpl_q (q_len Tryd.underlying111 rfl) rfl <| wpl_q (q_pure rfl) rfl <| wpl_nil <| ex_then <| wpc_block ?_
  refine wpc_loop (ι := { x : Nat × World // x.1 ≤ ps.length ∧ ItInv J W ((ps.map Prod.snd).take x.1).flatten b3 b4 b2 l x.2 }) (fun x => [(13, .int .i64 (x.1.1 : Nat)), (12, .int .i64 (ps.length : Nat)), (11, .slice a ps.length cap), (6, .func (.func 71) #[] #[.pointer (some ⟨b3, 0, none⟩), .pointer (some ⟨b4, 0, none⟩), .pointer (some ⟨b2, 0, none⟩)]), (5, .int .u64 (lenN (ps.map Prod.snd) x.1.1).toNat), (2, .pointer (some ⟨b2, 0, none⟩)), (3, .pointer (some ⟨b3, 0, none⟩)), (4, .pointer (some ⟨b4, 0, none⟩))]) (fun x => Mem x.1.2 [b4, b3, b2] (blkM l ((ps.map Prod.snd).take x.1.1).flatten b3 b4 b2) []) (fun x => ps.length - x.1.1) ⟨(0, wb0), Nat.zero_le _, hI0⟩ ?_ ?_ ?_
  · exact by repeat (first | exact trivial | refine ⟨rfl, ?_⟩)
  · exact fun w h => h
  · rintro ⟨⟨i, wb⟩, hi, hI⟩; dsimp only
    have hi : i ≤ ps.length := hi
    have hI : ItInv J W ((ps.map Prod.snd).take i).flatten b3 b4 b2 l wb := hI
    have hP := hinv _ _ _ hI.J
    refine wpc_seq <| wpc_region <| wpl_q (q_pure rfl) rfl <| wpl_nil <| ex_then <| wpc_seq ?_
    refine wpc_cond rfl (fun hc14 => ?_) (fun hc14 => ?_)
    ·
      simp only [decide_eq_true_eq] at hc14
      obtain ⟨ad, rfl⟩ : ∃ ad, a = some ad := by
        cases a with
        | none => have := hz rfl; omega
        | some ad => exact ⟨ad, rfl⟩
      obtain ⟨⟨qv, qb⟩, hq⟩ : ∃ q, ps[i]? = some q := ⟨_, List.getElem?_eq_getElem zz16⟩
      have hqm : (qv, qb) ∈ ps := List.mem_of_getElem? hq
      have hq1 : (ps.map Prod.fst)[i]? = some qv := by rw [List.getElem?_map, hq]; rfl
      have hq2 : (ps.map Prod.snd).getD i [] = qb := by rw [List.getD_eq_getElem?_getD, List.getElem?_map, hq]; rfl
      have hfs : ((ps.map Prod.snd).take (i + 1)).flatten = ((ps.map Prod.snd).take i).flatten ++ qb := by rw [take_succ_flat _ _ (by simp; omega), hq2]
      have hqs : Seen wb.cell? qv qb.length 1 (v8s qb) := hP.2.2 _ hqm
      obtain ⟨aq, capq, rfl, hq3, hq4, hq5⟩ := hqs.form
      have hadb : ad.block < W.heap.size := (hinv _ _ _ hJ0).2.1.block_lt (by intro e; rw [List.map_eq_nil_iff] at e; subst e; exact absurd hqm zz50) ad.block rfl
      have hqbl : ∀ k, (Value.slice aq qb.length capq).ownBlock = some k → v8s qb ≠ [] → k < W.heap.size := fun k hk hne => ((hinv _ _ _ hJ0).2.2 _ hqm).block_lt hne k hk
      have hbW := hI.b; have hnW := hI.nb; have hyW := hI.y
      refine wpc_skip <| ex_then <| wpc_seq <| wpc_block <| wpc_seq <| wpc_region ?_
      refine wpl_q (q_idxS Tryd.underlying111 Tryd.ti22 rfl rfl zz16 zz16 (i) zz16) rfl ?_
      refine wpl_q (q_load1 Tryd.underlying22 rfl rfl (fun w h => h.cell_oldL (hP.2.1.cell hq1) (by rw [addr_block]; simp; omega))) rfl ?_
      refine wpl_q (q_pure rfl) rfl <| wpl_nil <| ex_then <| wpc_seq <| wpc_region <| wpl_q (q_pure rfl) rfl <| wpl_q (q_pure rfl) rfl <| wpl_q (q_len Tryd.underlying22 rfl) rfl <| wpl_q (q64_conv Tryd.underlying3 Tryd.underlying134 rfl) rfl ?_
      refine wpl_q (qop_eq (q64_add rfl rfl) (v := .int .u64 (lenN (ps.map Prod.snd) (i + 1)).toNat) (by rw [lenN, hq2])) rfl ?_
      refine wpl_q (q_pure rfl) rfl <| wpl_nil <| ex_then <| wpc_region <| wpl_q (q_pure rfl) rfl <| wpl_q (q_pure rfl) rfl ?_
      refine wpl_t (t_callG (ι := { u : World // ItInv J W (((ps.map Prod.snd).take i).flatten ++ qb) b3 b4 b2 l u }) (V := fun _ => .tuple #[]) (R' := fun u => Mem u.1 [b4, b3, b2] (blkM l (((ps.map Prod.snd).take i).flatten ++ qb) b3 b4 b2) []) (cap := #[.pointer (some ⟨b3, 0, none⟩), .pointer (some ⟨b4, 0, none⟩), .pointer (some ⟨b2, 0, none⟩)]) rfl Tryd.hb71 rfl fun w h => put_at J W l ALL pb (.slice none 0 0) ps hst hyl (X := []) hI h (hALL ▸ pre_all _ _ (hfs ▸ pre_take _ (i + 1))) (h.seen_oldL (hP.2.2 _ hqm) (fun k hk hne => by have := hqbl k hk hne; simp; omega)) (fun k hk hne => by have := hqbl k hk hne; omega) (fun pre w1 w2 _ hJ2 _ => (hinv _ _ _ hJ2).2.2 _ hqm)) rfl ?_
      intro b24
      refine wpl_nil <| ex_block <| ex_then <| wpc_region ?_
      first | refine wpl_q (qop_eq (q_pure rfl) (congrArg (Value.int .i64) (wk_i64 zz16 zz16))) rfl ?_ | refine wpl_q (q_pure rfl) rfl ?_
      refine wpl_q (q_pure rfl) rfl <| wpl_nil ?_
      refine ex_again ⟨(i + 1, b24.1), by show i + 1 ≤ ps.length; omega, by show ItInv J W ((ps.map Prod.snd).take (i + 1)).flatten b3 b4 b2 l b24.1; rw [hfs]; exact b24.2⟩ ?_ ?_ ?_
      · exact zz14
      · exact fun w h => by
          show Mem b24.1 [b4, b3, b2] (blkM l ((ps.map Prod.snd).take (i + 1)).flatten b3 b4 b2) [] w
          rw [hfs]; exact h
      · show ps.length - (i + 1) < ps.length - i; omega
    ·
      simp only [decide_eq_false_iff_not] at hc14
      obtain rfl : i = ps.length := by omega
      have eall : ((ps.map Prod.snd).take ps.length).flatten = (ps.map Prod.snd).flatten := by rw [List.take_of_length_le zz50]
      rw [eall] at hI
      refine wpc_mono (R' := Mem wb [b4, b3, b2] (blkM l (ps.map Prod.snd).flatten b3 b4 b2) []) (fun w h => by rw [← eall]; exact h) ?_
      refine wpc_exit ?_
      refine ex_then_exit ?_
      refine ex_then_exit ?_
      refine ex_block_hit ?_
      refine ex_then <| wpc_seq <| wpc_region <| wpl_q (q_pure rfl) rfl ?_
      refine wpl_t (t_buildSlice (v8s [128]) Tryd.underlying22 Tryd.ti5 rfl zz27 zz27 rfl rfl rfl) rfl ?_
      intro b27
      refine wpl_t (t_callG (ι := { u : World // ItInv J W ((ps.map Prod.snd).flatten ++ [128]) b3 b4 b2 l u }) (V := fun _ => .tuple #[]) (R' := fun u => Mem u.1 [b4, b3, b2] (blkM l ((ps.map Prod.snd).flatten ++ [128]) b3 b4 b2) []) (cap := #[.pointer (some ⟨b3, 0, none⟩), .pointer (some ⟨b4, 0, none⟩), .pointer (some ⟨b2, 0, none⟩)]) rfl Tryd.hb71 rfl fun w h => put_row J W l ALL pb (.slice none 0 0) ps hst hyl hI h (hALL ▸ pre_all _ _ (cF_pre _))) rfl ?_
      intro b28
      refine wpl_nil <| ex_then ?_
      refine wpc_cut { u : World // ItInv J W (cF (ps.map Prod.snd).flatten) b3 b4 b2 l u } (fun _ => [(5, .int .u64 (lenN (ps.map Prod.snd) ps.length).toNat), (2, .pointer (some ⟨b2, 0, none⟩)), (3, .pointer (some ⟨b3, 0, none⟩)), (4, .pointer (some ⟨b4, 0, none⟩))]) (fun u => Mem u.1 [b4, b3, b2] (blkM l (cF (ps.map Prod.snd).flatten) b3 b4 b2) []) ?_ ?_
      ·
        refine wpc_seq ?_
        obtain ⟨wb1, hI1⟩ := b28
        refine wpc_mono (R' := Mem wb1 [b4, b3, b2] [.blk b4 3 [.int .i64 ((((ps.map Prod.snd).flatten ++ [(128 : UInt8)]).length % 64 : Nat) : Int)], .blk b3 133 (v8s (bufF ((ps.map Prod.snd).flatten ++ [(128 : UInt8)]))), .blk b2 131 [.func (.yield l) #[] #[]]] []) (fun w h => h) ?_
        refine wpc_region <| wpl_q (q_ld Tryd.underlying3 rfl rfl rfl) rfl <| wpl_q (q_pure rfl) rfl <| wpl_nil <| ex_then ?_
        refine wpc_cond rfl (fun hc30 => ?_) (fun hc30 => ?_)
        ·
          simp only [decide_eq_true_eq] at hc30
          have hm64 : ((ps.map Prod.snd).flatten ++ [(128 : UInt8)]).length % 64 < 64 := Nat.mod_lt _ zz27
          have ecf := cF_full (ps.map Prod.snd).flatten zz16
          refine wpc_region <| wpl_q (q_pure rfl) rfl <| wpl_q (q_ld Tryd.underlying3 rfl rfl rfl) rfl ?_
          first | refine wpl_q (qop_eq (q_pure rfl) (congrArg (Value.int .i64) (wk_i64 zz16 zz16))) rfl ?_ | refine wpl_q (q_pure rfl) rfl ?_
          refine wpl_t (t_makeSlice Tryd.underlying22 Tryd.ti5 rfl rfl zz16 (Int.le_refl _) zz16 zz16 (64 - ((ps.map Prod.snd).flatten ++ [(128 : UInt8)]).length % 64) (64 - ((ps.map Prod.snd).flatten ++ [(128 : UInt8)]).length % 64) zz16 zz16 (v8s (List.replicate (64 - ((ps.map Prod.snd).flatten ++ [(128 : UInt8)]).length % 64) (0 : UInt8))) rfl (zeros_flat _)) rfl ?_
          intro b34
          refine wpl_t (t_callG (ι := { u : World // ItInv J W (((ps.map Prod.snd).flatten ++ [(128 : UInt8)]) ++ List.replicate (64 - ((ps.map Prod.snd).flatten ++ [(128 : UInt8)]).length % 64) (0 : UInt8)) b3 b4 b2 l u }) (V := fun _ => .tuple #[]) (R' := fun u => Mem u.1 [b4, b3, b2] (blkM l (((ps.map Prod.snd).flatten ++ [(128 : UInt8)]) ++ List.replicate (64 - ((ps.map Prod.snd).flatten ++ [(128 : UInt8)]).length % 64) (0 : UInt8)) b3 b4 b2) []) (cap := #[.pointer (some ⟨b3, 0, none⟩), .pointer (some ⟨b4, 0, none⟩), .pointer (some ⟨b2, 0, none⟩)]) rfl Tryd.hb71 rfl fun w h => put_row J W l ALL pb (.slice none 0 0) ps hst hyl hI1 h (hALL ▸ pre_all _ _ ⟨[], by rw [List.append_nil]; exact ecf.symm⟩)) rfl ?_
          intro b35
          have HI : ItInv J W (cF (ps.map Prod.snd).flatten) b3 b4 b2 l b35.1 := by rw [ecf]; exact b35.2
          refine wpl_nil ?_
          refine ex_mid ⟨_, HI⟩ ?_ ?_
          · exact zz14
          · exact fun w h => mem_c ecf h
        ·
          simp only [decide_eq_false_iff_not] at hc30
          have ecf := cF_room (ps.map Prod.snd).flatten zz16
          have HI : ItInv J W (cF (ps.map Prod.snd).flatten) b3 b4 b2 l wb1 := by rw [ecf]; exact hI1
          refine wpc_skip ?_
          refine ex_mid ⟨_, HI⟩ ?_ ?_
          · exact zz14
          · exact fun w h => mem_c ecf h
      ·
        rintro ⟨wb2, hI2⟩
        dsimp only
        refine wpc_seq <| wpc_region <| wpl_q (q_pure rfl) rfl ?_
        refine wpl_q (q64_mul (b := 8) rfl rfl) rfl ?_
        refine wpl_q (q_pure rfl) rfl <| wpl_nil <| ex_then <| wpc_seq <| wpc_seq <| wpc_region <| wpl_q (q_pure rfl) rfl <| wpl_nil <| ex_then <| wpc_block ?_
        refine wpc_loop (ι := { j : Nat // j ≤ 8 }) (fun j => [(38, .int .i64 (j.1 : Nat)), (5, .int .u64 (lenN (ps.map Prod.snd) ps.length * 8).toNat), (2, .pointer (some ⟨b2, 0, none⟩)), (3, .pointer (some ⟨b3, 0, none⟩)), (4, .pointer (some ⟨b4, 0, none⟩))]) (fun j => Mem wb2 [b4, b3, b2] [.blk b4 3 [.int .i64 (((cF (ps.map Prod.snd).flatten).length % 64 : Nat) : Int)], .blk b3 133 (v8s (setLen (bufF (cF (ps.map Prod.snd).flatten)) (lenN (ps.map Prod.snd) ps.length * 8) j.1)), .blk b2 131 [.func (.yield l) #[] #[]]] []) (fun j => 8 - j.1) ⟨0, zz16⟩ ?_ ?_ ?_
        · exact by repeat (first | exact trivial | refine ⟨rfl, ?_⟩)
        · exact fun w h => h
        · rintro ⟨j, hj⟩; dsimp only
          have hsl := (setLen_length (bufF (cF (ps.map Prod.snd).flatten)) (lenN (ps.map Prod.snd) ps.length * 8) j).trans (bufF_length _)
          refine wpc_seq <| wpc_region <| wpl_q (q_pure rfl) rfl <| wpl_nil <| ex_then <| wpc_seq ?_
          refine wpc_cond rfl (fun hc39 => ?_) (fun hc39 => ?_)
          ·
            simp only [decide_eq_true_eq, decide_eq_false_iff_not, Bool.and_eq_true, Bool.or_eq_true, beq_iff_eq, bne_iff_ne, ne_eq] at hc39
            refine wpc_skip <| ex_then <| wpc_seq <| wpc_block <| wpc_seq <| wpc_region <| wpl_q (q_pure rfl) rfl <| wpl_q (q_pure rfl) rfl <| wpl_nil <| ex_then <| wpc_region <| wpl_q (q_pure rfl) rfl ?_
            first | refine wpl_q (qop_eq (q_pure rfl) (congrArg (Value.int .i64) (wk_i64 zz16 zz16))) rfl ?_ | refine wpl_q (q_pure rfl) rfl ?_
            refine wpl_q (q_pure rfl) rfl <| wpl_q (q_pure rfl) rfl ?_
            first | refine wpl_q (qop_eq (q_pure rfl) (congrArg (Value.int .i64) (wk_i64 zz16 zz16))) rfl ?_ | refine wpl_q (q_pure rfl) rfl ?_
            first | refine wpl_q (qop_eq (q_pure rfl) (congrArg (Value.int .i64) (wk_i64 zz16 zz16))) rfl ?_ | refine wpl_q (q_pure rfl) rfl ?_
            refine wpl_q (q64_shr rfl rfl zz16 (56 - 8 * j) zz16) rfl ?_
            refine wpl_q (q8_conv Tryd.underlying134 Tryd.underlying5 rfl) rfl ?_
            refine wpl_q (q_idxA Tryd.underlying133 Tryd.ti5 rfl rfl zz16 zz16 (56 + j) zz16) rfl ?_
            refine wpl_t0 (t_st1 Tryd.ti5 rfl rfl rfl zz41 _ (by first | exact v8s_set _ | rfl)) ?_
            intro _
            refine wpl_nil <| ex_block <| ex_then <| wpc_region ?_
            first | refine wpl_q (qop_eq (q_pure rfl) (congrArg (Value.int .i64) (wk_i64 zz16 zz16))) rfl ?_ | refine wpl_q (q_pure rfl) rfl ?_
            refine wpl_q (q_pure rfl) rfl <| wpl_nil ?_
            refine ex_again ⟨j + 1, zz16⟩ ?_ ?_ ?_
            · exact zz14
            · exact fun w h => h
            · show 8 - (j + 1) < 8 - j; omega
          ·
            simp only [decide_eq_false_iff_not] at hc39
            obtain rfl : j = 8 := by omega
            refine wpc_exit ?_
            refine ex_then_exit ?_
            refine ex_then_exit ?_
            refine ex_block_hit ?_
            refine ex_then ?_
            refine wpc_region_y ?_
            refine wpli_q open_wide (q_ld Tryd.underlying131 rfl rfl rfl) rfl ?_
            refine wpli_yield (l := l) (ι := { u : World // ∃ T, J T ALL u }) (V := fun _ => .bool true) (R' := fun u w => w = u.1) rfl rfl ?_ rfl fun u => ?_
            · exact fun w h => last_yield J W l ALL ps hst hyl hALL hI2 h
            refine wpli_nil ?_
            refine ret0 (.inr rfl) rfl ?_
            exact fun w h => ⟨⟨_, rfl⟩, h ▸ u.2⟩
end Go.Proofs.YtoaeklbenmlooaaDoor
namespace Go.Proofs.YtoaeklbenmlooaaDoor
open Go Go.PL Go.RowKit
def initS : List UInt32 := [1779033703, 3144134277, 1013904242, 2773480762, 1359893119, 2600822924, 528734635, 1541459225]
def stF2 (bl : List (List UInt8)) : List UInt32 := bl.foldl addF initS
theorem stF2_length (bl : List (List UInt8)) : (stF2 bl).length = 8 := by
  suffices h : ∀ (bl : List (List UInt8)) (s : List UInt32), s.length = 8 → (bl.foldl addF s).length = 8 from h bl initS rfl
  intro bl
  induction bl with
  | nil => exact fun s h => h
  | cons x r ih => exact fun s h => ih _ ((addF_length s x).trans h)
def outN (st : List UInt32) : Nat → List UInt8
  | 0 => List.replicate 32 0
  | i + 1 => (outN st i).set i (of8 (sr32 (st.getD (i / 4) 0) (24 - 8 * (i % 4))).toNat)
theorem outN_length (st : List UInt32) : ∀ i, (outN st i).length = 32
  | 0 => rfl
  | i + 1 => by simp [outN, outN_length st i]
def joinF (ps : List (List UInt8)) : List UInt8 := outN (stF2 (blocksF ps)) 32
theorem blocksF_64 (ps : List (List UInt8)) : ∀ x ∈ blocksF ps, x.length = 64 := by
  intro x hx
  unfold blocksF at hx
  rcases List.mem_append.1 hx with hx | hx
  · unfold chunksF at hx
    obtain ⟨i, hi, rfl⟩ := List.mem_map.1 hx
    have hi' := List.mem_range.1 hi
    rw [List.length_take, List.length_drop]
    omega
  · simp at hx
    subst hx
    rw [setLen_length, bufF_length]
def joinM (pb b3 b2 : Nat) (pv : Value) (pre : List (List UInt8)) : List Ent := [.blk pb 111 [pv], .blk b3 113 (v32s (stF2 pre)), .blk b2 24 (v8s (List.replicate 32 0))]
theorem join_it (w : World) (pb : Nat) (pv : Value) (ps : List (Value × List UInt8)) : IterOk Tryd.prog 70 #[.pointer (some ⟨pb, 0, none⟩)] encB AtB (InvB pb pv ps) (blocksF (ps.map Prod.snd)) w := by
  intro l J hst hinv hy hJ0
  exact iter J w l _ pb pv ps hst (fun T b hb pre x w1 hJ hpre hh => hy T pre x b w1 hJ hpre ⟨hb, hh⟩) rfl hinv hJ0
theorem atB_stab (T : List Nat) (x : List UInt8) (b : Nat) (w w' : World) (h : AtB T x b w) (h2 : ∀ j, j ∈ T → w'.heap[j]? = w.heap[j]?) : AtB T x b w' := ⟨h.1, (h2 b h.1).trans h.2⟩
theorem inv_join {w0 w : World} {pb b3 b2 : Nat} {pv : Value} {ps : List (Value × List UInt8)} {pre : List (List UInt8)} (hP : Parts w0.cell? pv ps) (h : Mem w0 [] (joinM pb b3 b2 pv pre) [] w) : InvB pb pv ps w :=
  ⟨h.own (.blk pb 111 [pv]) (by simp [joinM]), h.seen_old hP.1, fun q hq => h.seen_old (hP.2 q hq)⟩
theorem blocks (pv : Value) (hc : pv.cells.toList = [pv]) (w : World) :
    Calls Tryd.prog 53 [pv].toArray w (Gives w (fun pb : Nat => .func (.func 70) #[] #[.pointer (some ⟨pb, 0, none⟩)]) (fun pb => [.blk pb 111 [pv]]) (fun _ => [])) := by
  refine enter (m := 4) (R := Mem w [] [] []) Tryd.func53 rfl rfl (Nat.le_of_ble_eq_true rfl) (Mem.start w) ?_
  refine wpc_seq <| wpc_region ?_
  refine wpl_t (t_box rfl [pv] hc) rfl ?_
  intro b1
  refine wpl_q (q_pure rfl) rfl <| wpl_nil <| ex_then <| wpc_seq <| wpc_region ?_
  refine wpl_q (q_fn (us := []) (vs := [.pointer (some ⟨b1, 0, none⟩)]) rfl rfl) rfl ?_
  refine wpl_q (q_pure rfl) rfl <| wpl_nil <| ex_then <| wpc_ret ?_
  refine ret1 (.inl rfl) rfl rfl ?_
  exact fun w h => ⟨b1, rfl, h.below, h.made (Sub.refl _) .nil⟩
theorem quo4 (i : Nat) (h : i ≤ 64) : wk .i64 (Int.tdiv (i : Int) 4) = ((i / 4 : Nat) : Int) := by
  have e : Int.tdiv (i : Int) 4 = ((i / 4 : Nat) : Int) := rfl
  rw [e, wk_i64 zz16 zz16]
theorem join (pv : Value) (ps : List (Value × List UInt8)) (w : World) (hP : Parts w.cell? pv ps) (hro : CellsAt w.cell? ⟨0, 0, none⟩ (v32s rootsL)) (hsz : 0 < w.heap.size) :
    Calls Tryd.prog 36 [pv].toArray w (Pur w (.agg (v8s (joinF (ps.map Prod.snd))).toArray)) := by
  have hcell : pv.cells.toList = [pv] := by obtain ⟨_, _, rfl, _⟩ := hP.1.form; rfl
  refine enterM (m := 30) (R := Mem w [] [] []) Tryd.func36 rfl rfl (Nat.le_of_ble_eq_true rfl) (Mem.start w) ?_
  refine wpc_seq <| wpc_region ?_
  refine wpl_t (t_alloc Tryd.ti24 (v8s (List.replicate 32 0)) (by rfl)) rfl ?_
  intro b2
  refine wpl_nil <| ex_then <| wpc_seq <| wpc_region <| wpl_q (q_buildFull (v32s initS) Tryd.underlying113 Tryd.ti113 Tryd.ti25 rfl rfl (v32s_one _) rfl) rfl ?_
  refine wpl_t (t_alloc Tryd.ti113 (v32s (List.replicate 8 0)) (by rfl)) rfl ?_
  intro b3
  refine wpl_t0 (t_stA Tryd.ti113 rfl rfl rfl (v32s_one _) rfl) ?_
  intro _
  refine wpl_nil <| ex_then <| wpc_seq <| wpc_seq <| wpc_region <| wpl_q (q_pure rfl) rfl ?_
  refine wpl_t (t_call Tryd.hb53 rfl fun w h => blocks pv hcell w) rfl ?_
  intro b9
  refine wpl_nil <| ex_then <| wpc_block ?_
  refine wpc_range (xs := blocksF (ps.map Prod.snd)) (At := AtB) (Inv := InvB b9 pv ps) (encs := encB) (joinM b9 b3 b2 pv) (fun x b => [(4, .pointer (some ⟨b, 0, none⟩)), (3, .pointer (some ⟨b3, 0, none⟩)), (2, .pointer (some ⟨b2, 0, none⟩))]) rfl Tryd.hb70 (fun w h => join_it w b9 pv ps) (fun pre w h => inv_join hP h) atB_stab (fun _ _ => rfl) zz27 ?_ ?_ ?_
  · intro l x b R K hK
    refine wpci_region ?_
    refine wpli_q (open_round l) (q_pure rfl) rfl ?_
    refine wpli_nil ?_
    exact ex_assign hK zz14
  · intro l pre x b w1 T hpre hm hat hT
    have hx : x.length = 64 := blocksF_64 _ x (hpre.subset zz50)
    have hnew : ∀ k, k ∈ nums (joinM b9 b3 b2 pv pre) → w.heap.size ≤ k := fun k hk => by
      obtain ⟨e, he, hn⟩ := mem_nums.1 hk
      exact (hm.new e he k hn).resolve_right zz50
    have hbn : b ∉ nums (joinM b9 b3 b2 pv pre) := fun hk => by
      obtain ⟨e, he, hn⟩ := mem_nums.1 hk
      exact inM_not (hT b hat.1).2 e he hn
    have h0n : 0 ∉ nums (joinM b9 b3 b2 pv pre) := fun hk => by have := hnew 0 hk; omega
    have hb3 : b3 ∈ nums (joinM b9 b3 b2 pv pre) := by simp [joinM, nums, Ent.num]
    show WPCI _ _ _ _ (Mem w1 (nums (joinM b9 b3 b2 pv pre)) [.blk b9 111 [pv], .blk b3 113 (v32s (stF2 pre)), .blk b2 24 (v8s (List.replicate 32 0))] []) _ _
    refine wpci_block ?_
    refine wpci_region ?_
    refine wpli_q (open_round l) (q_pure rfl) rfl ?_
    have hst : stF2 (pre ++ [x]) = addF (stF2 pre) x := by simp [stF2]
    refine wpli_t (open_round l) (t_turn1 b3 Tryd.hb54 rfl fun w' h hs => add b3 b (stF2 pre) x (stF2_length _) hx w' hs (h.at_oldL (fun j v hj => by rw [add_lit, Nat.zero_add]; exact cell_of_heap hat.2 (by simpa using hj)) hbn) (fun e => hbn (e ▸ hb3)) (h.at_oldL (hm.at_old hro) h0n) (fun e => h0n (e ▸ hb3))) rfl fun _ => ?_
    refine wpli_nil ?_
    refine ex_block ?_
    exact ex_round fun _ h => by
      have e : joinM b9 b3 b2 pv (pre ++ [x]) = [.blk b9 111 [pv], .blk b3 113 (v32s (addF (stF2 pre) x)), .blk b2 24 (v8s (List.replicate 32 0))] := by rw [joinM, hst]
      rw [e]; exact h
  intro D
  refine ex_block <| ex_then <| wpc_seq <| wpc_region ?_
  refine wpl_t (t_alloc Tryd.ti24 (v8s (outN (stF2 (blocksF (ps.map Prod.snd))) 0)) (by rfl)) rfl ?_
  intro b5
  refine wpl_nil <| ex_then <| wpc_seq <| wpc_seq <| wpc_region <| wpl_q (q_pure rfl) rfl <| wpl_nil <| ex_then <| wpc_block ?_
  refine wpc_loop (ι := { i : Nat // i ≤ 32 }) (fun i => [(13, .int .i64 (i.1 : Nat)), (5, .pointer (some ⟨b5, 0, none⟩)), (3, .pointer (some ⟨b3, 0, none⟩)), (2, .pointer (some ⟨b2, 0, none⟩))]) (fun i => Mem w [] (.blk b5 24 (v8s (outN (stF2 (blocksF (ps.map Prod.snd))) i.1)) :: .obj D (.deferred (some [])) :: joinM b9 b3 b2 pv (blocksF (ps.map Prod.snd))) []) (fun i => 32 - i.1) ⟨0, zz16⟩ ?_ ?_ ?_
  · exact by repeat (first | exact trivial | refine ⟨rfl, ?_⟩)
  · exact fun w h => h
  · rintro ⟨i, hi⟩; dsimp only
    have hol := outN_length (stF2 (blocksF (ps.map Prod.snd))) i
    have hsl := stF2_length (blocksF (ps.map Prod.snd))
    simp only [joinM]
    refine wpc_seq <| wpc_region <| wpl_q (q_pure rfl) rfl <| wpl_nil <| ex_then <| wpc_seq ?_
    refine wpc_cond rfl (fun hc14 => ?_) (fun hc14 => ?_)
    ·
      simp only [decide_eq_true_eq, decide_eq_false_iff_not, Bool.and_eq_true, Bool.or_eq_true, beq_iff_eq, bne_iff_ne, ne_eq] at hc14
      refine wpc_skip <| ex_then <| wpc_seq <| wpc_block <| wpc_seq <| wpc_region <| wpl_q (q_pure rfl) rfl <| wpl_q (q_pure rfl) rfl <| wpl_nil <| ex_then <| wpc_region <| wpl_q (q_pure rfl) rfl ?_
      refine wpl_q (q_pure rfl) rfl ?_
      refine wpl_q (qop_eq (q_quo rfl rfl zz27) (v := .int .i64 ((i / 4 : Nat) : Int)) (congrArg (Value.int .i64) (quo4 i zz16))) rfl ?_
      refine wpl_q (q_idxA Tryd.underlying113 Tryd.ti25 rfl rfl zz16 zz16 (i / 4) zz16) rfl ?_
      refine wpl_q (q_ld Tryd.underlying25 rfl rfl zz31) rfl ?_
      refine wpl_q (q_pure rfl) rfl ?_
      refine wpl_q (qop_eq (q_rem rfl rfl zz27) (v := .int .i64 ((i % 4 : Nat) : Int)) rfl) rfl ?_
      first | refine wpl_q (qop_eq (q_pure rfl) (congrArg (Value.int .i64) (wk_i64 zz16 zz16))) rfl ?_ | refine wpl_q (q_pure rfl) rfl ?_
      first | refine wpl_q (qop_eq (q_pure rfl) (congrArg (Value.int .i64) (wk_i64 zz16 zz16))) rfl ?_ | refine wpl_q (q_pure rfl) rfl ?_
      refine wpl_q (q32_shr rfl rfl zz16 (24 - 8 * (i % 4)) zz16) rfl ?_
      refine wpl_q (q8_conv Tryd.underlying25 Tryd.underlying5 rfl) rfl ?_
      refine wpl_q (q_idxA Tryd.underlying24 Tryd.ti5 rfl rfl zz16 zz16 (i) zz16) rfl ?_
      refine wpl_t0 (t_st1 Tryd.ti5 rfl rfl rfl zz41 _ (by first | exact v8s_set _ | rfl)) ?_
      intro _
      refine wpl_nil <| ex_block <| ex_then <| wpc_region ?_
      first | refine wpl_q (qop_eq (q_pure rfl) (congrArg (Value.int .i64) (wk_i64 zz16 zz16))) rfl ?_ | refine wpl_q (q_pure rfl) rfl ?_
      refine wpl_q (q_pure rfl) rfl <| wpl_nil ?_
      refine ex_again ⟨i + 1, zz16⟩ ?_ ?_ ?_
      · exact zz14
      · exact fun w h => h
      · show 32 - (i + 1) < 32 - i; omega
    ·
      simp only [decide_eq_false_iff_not] at hc14
      obtain rfl : i = 32 := by omega
      refine wpc_exit ?_
      refine ex_then_exit ?_
      refine ex_then_exit ?_
      refine ex_block_hit ?_
      refine ex_then <| wpc_seq <| wpc_region <| wpl_q (q_ldN Tryd.underlying24 rfl Tryd.ti24 rfl ((v8s_length _).trans (outN_length _ _))) rfl ?_
      refine wpl_t0 (t_stA Tryd.ti24 rfl rfl ((v8s_length _).trans (outN_length _ _)) (v8s_one _) ((v8s_length _).trans rfl)) ?_
      intro _
      refine wpl_nil <| ex_then <| wpc_ret ?_
      refine ex_mark (.inl rfl) (.there .here) ?_
      refine retv1 (.inl rfl) rfl (rv_agg Tryd.underlying24 rfl Tryd.ti24 rfl (fun w h => h.cells_blk zz7) (by rw [v8s_length]; exact outN_length _ _)) ?_
      exact fun w h => ⟨rfl, h.below⟩
end Go.Proofs.YtoaeklbenmlooaaDoor
namespace Go.Proofs.YtoaeklbenmlooaaDoor
open Go Go.PL Go.RowKit
theorem joinF_length (ps : List (List UInt8)) : (joinF ps).length = 32 := outN_length _ _
theorem parts_one {w0 w : World} {M : List Ent} {S : List Fact} {g : Nat} {bv : Value} {bs : List UInt8} (h : Mem w0 [] (.row (.slice (some ⟨g, 0, none⟩) 1 1) 1 22 1 [bv] :: M) S w) (hb : Seen w0.cell? bv bs.length 1 (v8s bs)) : Parts w.cell? (.slice (some ⟨g, 0, none⟩) 1 1) [(bv, bs)] :=
  ⟨h.seen_row (List.mem_cons_self ..), fun q hq => by simp at hq; subst hq; exact h.seen_old hb⟩
theorem short (bv : Value) (bs : List UInt8) (w : World) (hb : Seen w.cell? bv bs.length 1 (v8s bs)) (hro : CellsAt w.cell? ⟨0, 0, none⟩ (v32s rootsL)) (hsz : 0 < w.heap.size) :
    Calls Tryd.prog 23 [bv].toArray w (Pur w (.agg (v8s ((joinF [bs]).take 16)).toArray)) := by
  refine enter (m := 10) (R := Mem w [] [] []) Tryd.func23 rfl rfl (Nat.le_of_ble_eq_true rfl) (Mem.start w) ?_
  refine wpc_seq <| wpc_region ?_
  refine wpl_t (t_alloc Tryd.ti31 (v8s (List.replicate 16 0)) (by rfl)) rfl ?_
  intro b2
  refine wpl_nil <| ex_then <| wpc_seq <| wpc_region <| wpl_q (q_pure rfl) rfl ?_
  refine wpl_t (t_buildSlice [bv] Tryd.underlying111 Tryd.ti22 rfl zz27 zz27 rfl (by obtain ⟨_, _, rfl, _⟩ := hb.form; rfl) rfl) rfl ?_
  intro b5
  refine wpl_t (t_pur Tryd.hb36 rfl fun w' h => join _ [(bv, bs)] w' (parts_one h hb) (h.at_old hro) (Nat.lt_of_lt_of_le hsz h.size)) rfl ?_
  intro b6
  refine wpl_t (t_alloc Tryd.ti24 (v8s (List.replicate 32 0)) (by rfl)) rfl ?_
  intro b3
  refine wpl_t0 (t_stA Tryd.ti24 rfl rfl ((v8s_length _).trans (joinF_length _)) (v8s_one _) ((v8s_length _).trans rfl)) ?_
  intro _
  refine wpl_nil <| ex_then <| wpc_seq <| wpc_region ?_
  refine wpl_q (q_ar_h Tryd.underlying24 Tryd.ti5 rfl rfl zz27 zz27 16 rfl) rfl ?_
  refine wpl_q (q_s2a Tryd.underlying31 rfl zz27) rfl ?_
  refine wpl_q (q_ldP Tryd.underlying31 rfl Tryd.ti31 rfl (v8s ((joinF [bs]).take 16)) (by rw [List.drop_zero, v8s_take]; rfl) (by rw [v8s_length, List.length_take, joinF_length]; rfl)) rfl ?_
  refine wpl_t0 (t_stA Tryd.ti31 rfl rfl (by rw [v8s_length, List.length_take, joinF_length]; rfl) (v8s_one _) ((v8s_length _).trans rfl)) ?_
  intro _
  refine wpl_nil <| ex_then <| wpc_ret ?_
  refine retv1 (.inl rfl) rfl (rv_agg Tryd.underlying31 rfl Tryd.ti31 rfl (fun w h => h.cells_blk zz7) (by rw [v8s_length, List.length_take, joinF_length]; rfl)) ?_
  exact fun w h => ⟨rfl, h.below⟩
end Go.Proofs.YtoaeklbenmlooaaDoor
namespace Go.Proofs.YtoaeklbenmlooaaDoor
open Go Go.PL Go.RowKit
def zc (m : Nat) : Nat := (120 - (m + 1) % 64) % 64
def lenB (x : UInt64) : Nat → List UInt8
  | 0 => []
  | j + 1 => lenB x j ++ [of8 (sr64 x (8 * (7 - j))).toNat]
theorem lenB_length (x : UInt64) : ∀ j, (lenB x j).length = j
  | 0 => rfl
  | j + 1 => by simp [lenB, lenB_length x j]
def padF (bs : List UInt8) : List UInt8 := (bs ++ [128] ++ List.replicate (zc bs.length) 0) ++ lenB (of64 bs.length * 8) 8
end Go.Proofs.YtoaeklbenmlooaaDoor
namespace Go.Proofs.YtoaeklbenmlooaaDoor
open Go Go.PL Go.RowKit
def sumF (bs : List UInt8) : List UInt8 := outN (stF2 (chunksF (padF bs))) 32
theorem sumF_length (bs : List UInt8) : (sumF bs).length = 32 := outN_length _ _
end Go.Proofs.YtoaeklbenmlooaaDoor
namespace Go.Proofs.YtoaeklbenmlooaaDoor
open Go Go.PL Go.RowKit
theorem lenN_eq (ps : List (List UInt8)) : ∀ i, i ≤ ps.length → lenN ps i = of64 ((ps.take i).flatten.length : Nat)
  | 0, _ => by simp [lenN, of64]
  | i + 1, h => by
    rw [lenN, lenN_eq ps i zz16, take_succ_flat ps i zz16, List.length_append]
    apply UInt64.toNat_inj.1
    have h1 := of64_toNat (((ps.take i).flatten.length : Nat) : Int)
    have h2 := of64_toNat (((ps.getD i []).length : Nat) : Int)
    have h3 := of64_toNat ((((ps.take i).flatten.length + (ps.getD i []).length : Nat) : Nat) : Int)
    rw [UInt64.toNat_add]
    omega
theorem setLen_eq (buf : List UInt8) (x : UInt64) (h : buf.length = 64) : ∀ i, i ≤ 8 → setLen buf x i = buf.take 56 ++ lenB x i ++ buf.drop (56 + i)
  | 0, _ => by simp [setLen, lenB]
  | i + 1, hi => by
    rw [setLen, setLen_eq buf x h i zz16]
    have hl : (buf.take 56 ++ lenB x i).length = 56 + i := by simp [lenB_length]; omega
    have hd : buf.drop (56 + i) = buf.getD (56 + i) 0 :: buf.drop (56 + (i + 1)) := by
      rw [List.drop_eq_getElem_cons zz16, List.getD_eq_getElem?_getD, List.getElem?_eq_getElem zz16]; rfl
    rw [List.set_append_right (56 + i) _ zz16, hl, Nat.sub_self, hd, List.set_cons_zero, lenB]
    simp [show 56 - 8 * i = 8 * (7 - i) from zz16]
theorem blocks_pad (ps : List (List UInt8)) : blocksF ps = chunksF (padF ps.flatten) := by
  unfold blocksF
  rw [lenN_eq ps _ (Nat.le_refl _), List.take_length]
  generalize ps.flatten = a
  have hc : a ++ [(128 : UInt8)] ++ List.replicate (zc a.length) 0 = cF a ++ List.replicate (56 - (cF a).length % 64) 0 ∧ (cF a).length % 64 ≤ 56 := by
    by_cases h : (a ++ [(128 : UInt8)]).length % 64 > 56
    · rw [cF_full a h]
      have hl : (a ++ [(128 : UInt8)] ++ List.replicate (64 - (a ++ [(128 : UInt8)]).length % 64) (0 : UInt8)).length % 64 = 0 := by
        rw [List.length_append, List.length_replicate]; omega
      refine ⟨?_, zz16⟩
      rw [hl, List.append_assoc, List.append_assoc, List.append_assoc, List.replicate_append_replicate]
      congr 3
      simp [zc] at h ⊢; omega
    · rw [cF_room a h]
      refine ⟨?_, zz16⟩
      congr 2
      simp [zc] at h ⊢; omega
  unfold padF
  rw [hc.1]
  generalize cF a = c at hc
  obtain ⟨_, hr⟩ := hc
  rw [setLen_eq _ _ (bufF_length c) 8 zz16, List.append_assoc c]
  have hx : c.length % 64 + (List.replicate (56 - c.length % 64) (0 : UInt8) ++ lenB (of64 (a.length : Nat) * 8) 8).length = 64 := by
    rw [List.length_append, List.length_replicate, lenB_length]; omega
  rw [(put_full c _ hx).1, hx]
  congr 2
  have e1 : (bufF c).drop (56 + 8) = [] := List.drop_of_length_le (by rw [bufF_length]; omega)
  rw [e1, List.append_nil, List.append_nil, ← List.append_assoc]
  congr 1
  rw [buf_take]
  unfold bufF
  have e3 : (c.drop (64 * (c.length / 64))).length = c.length % 64 := by rw [List.length_drop]; omega
  rw [List.take_append, List.take_of_length_le zz16, e3, List.take_replicate]
  congr 2; omega
theorem join_sum (ps : List (List UInt8)) : joinF ps = sumF ps.flatten := by unfold joinF sumF; rw [blocks_pad]
def shortF (bs : List UInt8) : List UInt8 := (sumF bs).take 16
theorem shortF_length (bs : List UInt8) : (shortF bs).length = 16 := by rw [shortF, List.length_take, sumF_length]; rfl
theorem one_flat (bs : List UInt8) : [bs].flatten = bs := by simp
end Go.Proofs.YtoaeklbenmlooaaDoor
namespace Go.Proofs.YtoaeklbenmlooaaDoor
open Go Go.PL Go.RowKit
def Glb (w : World) : Prop := CellsAt w.cell? ⟨0, 0, none⟩ (v32s rootsL) ∧ 0 < w.heap.size
theorem glob {w0 w : World} {M : List Ent} {S : List Fact} (h : Mem w0 [] M S w) (hG : Glb w0) : Glb w := ⟨h.at_old hG.1, Nat.lt_of_lt_of_le hG.2 h.size⟩
theorem shortW (bv : Value) (bs : List UInt8) (w : World) (hb : Seen w.cell? bv bs.length 1 (v8s bs)) (hG : Glb w) : Calls Tryd.prog 23 [bv].toArray w (Pur w (.agg (v8s (shortF bs)).toArray)) := by
  have := short bv bs w hb hG.1 hG.2
  rwa [join_sum, one_flat] at this
theorem eq8_31 : Eq8 Tryd.prog 31 16 := eqc_array Tryd.underlying31 Tryd.ti31 Tryd.ti5 rfl (eqc_int Tryd.underlying5 Tryd.ti5)
end Go.Proofs.YtoaeklbenmlooaaDoor
namespace Go.Proofs.YtoaeklbenmlooaaDoor
open Go Go.PL Go.RowKit
def idB (id : UInt32) : List UInt8 := [of8 (sr32 id 24).toNat, of8 (sr32 id 16).toNat, of8 (sr32 id 8).toNat, of8 id.toNat]
def seedF (m : List UInt8) (id : UInt32) : List UInt8 := shortF (m ++ idB id)
theorem seed (m : List UInt8) (id : UInt32) (w : World) (hm : m.length = 32) (hG : Glb w) :
    Calls Tryd.prog 8 [.agg (v8s m).toArray, .int .u32 id.toNat].toArray w (Pur w (.agg (v8s (seedF m id)).toArray)) := by
  refine enter (m := 20) (R := Mem w [] [] []) Tryd.func8 rfl rfl (Nat.le_of_ble_eq_true rfl) (Mem.start w) ?_
  refine wpc_seq <| wpc_region ?_
  refine wpl_t (t_box rfl (v8s m) rfl) rfl (fun b2 => ?_)
  refine wpl_t (t_alloc Tryd.ti31 (v8s (List.replicate 16 0)) (by rfl)) rfl (fun b4 => ?_)
  refine wpl_nil <| ex_then <| wpc_seq <| wpc_region <| wpl_q (q_arAll Tryd.underlying24 Tryd.ti5 rfl rfl) rfl <| wpl_q (q_pure rfl) rfl ?_
  refine wpl_q (q32_shr rfl rfl zz32 24 rfl) rfl ?_
  refine wpl_q (q8_conv Tryd.underlying25 Tryd.underlying5 rfl) rfl <| wpl_q (q_pure rfl) rfl ?_
  refine wpl_q (q32_shr rfl rfl zz32 16 rfl) rfl ?_
  refine wpl_q (q8_conv Tryd.underlying25 Tryd.underlying5 rfl) rfl <| wpl_q (q_pure rfl) rfl ?_
  refine wpl_q (q32_shr rfl rfl zz32 8 rfl) rfl ?_
  refine wpl_q (q8_conv Tryd.underlying25 Tryd.underlying5 rfl) rfl <| wpl_q (q_pure rfl) rfl <| wpl_q (q8_conv Tryd.underlying25 Tryd.underlying5 rfl) rfl ?_
  refine wpl_tp (t_bsV (v8s (idB id)) Tryd.underlying22 Tryd.ti5 rfl rfl zz27 zz27 rfl (v8s_one _)) rfl (fun b17 p17 => ?_)
  refine wpl_tp (t_apF Tryd.underlying22 Tryd.ti5 rfl rfl rfl (fun w h => zz9) (fun w h => zz9) zz1 zz1 zz1 (v8s (m ++ idB id)) (by rw [v8s_append])) rfl (fun b18 p18 => ?_)
  refine wpl_t (t_pur Tryd.hb23 rfl fun w h => shortW _ _ w zz15 (glob h hG)) rfl (fun b19 => ?_)
  refine wpl_t0 (t_stA Tryd.ti31 rfl rfl zz0 (v8s_one _) zz0) (fun _ => ?_)
  refine wpl_nil <| ex_then <| wpc_ret ?_
  refine retv1 (.inl rfl) rfl (rv_agg Tryd.underlying31 rfl Tryd.ti31 rfl (fun w h => h.atB) zz0) ?_
  exact fun w h => ⟨rfl, h.below⟩
end Go.Proofs.YtoaeklbenmlooaaDoor
namespace Go.Proofs.YtoaeklbenmlooaaDoor
open Go Go.PL Go.RowKit
def stepFM (x : List UInt8) (i j : Nat) : List UInt8 := shortF (x ++ [of8 (i : Int), of8 (j : Int)])
def climbF (x : List UInt8) (i f : Nat) : Nat → List UInt8
  | 0 => x
  | n + 1 => stepFM (climbF x i f n) i (f + n)
def beginF (s : List UInt8) (i : Nat) : List UInt8 := stepFM s i 255
def chainF (s : List UInt8) (i h : Nat) : List UInt8 := climbF (beginF s i) i 0 h
def digN (s : List UInt8) (k : Nat) : Nat := if k % 2 = 0 then (s.getD (k / 2) 0).toNat / 16 else (s.getD (k / 2) 0).toNat % 16
def digs (s : List UInt8) (n : Nat) : List Nat := (List.range n).map (digN s)
def dsum (s : List UInt8) : Nat → Nat
  | 0 => 0
  | n + 1 => dsum s n + (15 - digN s n)
def digsF (s : List UInt8) : List Nat := digs s 32 ++ [dsum s 32 / 256, dsum s 32 / 16 % 16, dsum s 32 % 16]
theorem stepF_length (x : List UInt8) (i j : Nat) : (stepFM x i j).length = 16 := by rw [stepFM]; exact shortF_length _
theorem climbF_length (x : List UInt8) (hx : x.length = 16) (i f : Nat) : ∀ n, (climbF x i f n).length = 16
  | 0 => hx
  | n + 1 => by rw [climbF]; exact stepF_length _ _ _
theorem beginF_length (s : List UInt8) (i : Nat) : (beginF s i).length = 16 := by rw [beginF]; exact stepF_length _ _ _
theorem chainF_length (s : List UInt8) (i h : Nat) : (chainF s i h).length = 16 := by rw [chainF]; exact climbF_length _ (beginF_length _ _) _ _ _
theorem digN_le (s : List UInt8) (k : Nat) : digN s k ≤ 15 := by
  have := (s.getD (k / 2) 0).toNat_lt
  unfold digN; split <;> omega
theorem digs_length (s : List UInt8) (n : Nat) : (digs s n).length = n := by simp [digs]
theorem digsF_length (s : List UInt8) : (digsF s).length = 35 := by simp [digsF, digs_length]
theorem digs_succ (s : List UInt8) (n : Nat) : digs s (n + 1) = digs s n ++ [digN s n] := by simp [digs, List.range_succ]
theorem dsum_le (s : List UInt8) : ∀ n, dsum s n ≤ 15 * n
  | 0 => Nat.le_refl _
  | n + 1 => by have := dsum_le s n; unfold dsum; omega
theorem sr4 (x : UInt8) : (sr8 x 4).toNat = x.toNat / 16 := by
  have := x.toNat_lt
  simp only [sr8, UInt8.toNat_ofNat']
  have : min 4 8 = 4 := rfl
  rw [this]; omega
theorem and15 (x : UInt8) : (x &&& 15).toNat = x.toNat % 16 := by
  rw [UInt8.toNat_and]; exact Nat.and_two_pow_sub_one_eq_mod _ 4
theorem nand15 (x : Nat) : x &&& 15 = x % 16 := Nat.and_two_pow_sub_one_eq_mod _ 4
theorem digs_two (s : List UInt8) (i : Nat) : digs s (2 * i) ++ [(sr8 (s.getD i 0) 4).toNat, (s.getD i 0 &&& 15).toNat] = digs s (2 * (i + 1)) := by
  rw [show 2 * (i + 1) = 2 * i + 1 + 1 from zz16, digs_succ, digs_succ, List.append_assoc]
  congr 1
  simp only [digN, sr4, and15]
  rw [if_pos zz16, if_neg zz16, show 2 * i / 2 = i from zz16, show (2 * i + 1) / 2 = i from zz16]; rfl
theorem dsum_two (s : List UInt8) (i : Nat) : dsum s (2 * i) + ((30 - (sr8 (s.getD i 0) 4).toNat) - (s.getD i 0 &&& 15).toNat) = dsum s (2 * (i + 1)) := by
  have h1 := digN_le s (2 * i)
  have h2 := digN_le s (2 * i + 1)
  rw [show 2 * (i + 1) = 2 * i + 1 + 1 from zz16, dsum, dsum]
  have e1 : digN s (2 * i) = (s.getD i 0).toNat / 16 := by unfold digN; rw [if_pos zz16, show 2 * i / 2 = i from zz16]
  have e2 : digN s (2 * i + 1) = (s.getD i 0).toNat % 16 := by unfold digN; rw [if_neg zz16, show (2 * i + 1) / 2 = i from zz16]
  rw [sr4, and15, ← e1, ← e2]; omega
theorem last3 (s : List UInt8) : digs s 32 ++ [dsum s 32 / 2 ^ 8, (dsum s 32 / 2 ^ 4) &&& 15, dsum s 32 &&& 15] = digsF s := by
  rw [nand15, nand15]; rfl
theorem digits (bv : Value) (bs : List UInt8) (w : World) (hbv : Seen w.cell? bv bs.length 1 (v8s bs)) (hG : Glb w) :
    Calls Tryd.prog 62 [bv].toArray w (GivesP w (fun v => SV v 35) (fun v : Value => v) (fun v => [.row v 35 3 1 (vns (digsF (shortF bs)))]) (fun _ => [])) := by
  have sbv := hbv.sv
  have lbv := sbv.le
  simp only [maxLen] at lbv
  refine enter (m := 42) (R := Mem w [] [] []) Tryd.func62 rfl rfl (Nat.le_of_ble_eq_true rfl) (Mem.start w) ?_
  refine wpc_seq <| wpc_region <| wpl_q (q_pure rfl) rfl <| wpl_nil <| ex_then <| wpc_seq <| wpc_region <| wpl_q (q_pure rfl) rfl <| wpl_nil <| ex_then <| wpc_seq <| wpc_region ?_
  refine wpl_q (q_pure rfl) rfl <| wpl_nil <| ex_then <| wpc_seq <| wpc_seq <| wpc_region <| wpl_q (q_pure rfl) rfl ?_
  refine wpl_t (t_pur Tryd.hb23 rfl fun w h => shortW _ _ w zz22 (glob h hG)) rfl (fun b10 => ?_)
  refine wpl_q (q_pure rfl) rfl <| wpl_nil <| ex_then <| wpc_block ?_
  refine wpc_loopc (ι := { x : Nat × Value // (x.1 ≤ 16) ∧ (SV x.2 (2 * x.1)) }) [(10, _)] (fun x Lc => (11, .int .i64 ((x.1.1 : Nat) : Int)) :: (3, x.1.2) :: (4, .int .i64 ((dsum (shortF bs) (2 * x.1.1) : Nat) : Int)) :: Lc) (fun x => Mem w [] [.row x.1.2 (2 * x.1.1) 3 1 (vns (digs (shortF bs) (2 * x.1.1)))] []) (fun x => 16 - x.1.1) ⟨(0, .slice none 0 0), ⟨Nat.zero_le _, SV.nil⟩⟩ zz14 ?_ ?_
  ·
   exact fun w h => h.nilRow 3 1
  ·
   rintro ⟨⟨i, v⟩, ⟨hi0, hi1⟩⟩; try dsimp only
   have hi0 : i ≤ 16 := hi0; have hi1 : SV v (2 * i) := hi1
   have hds := dsum_le (shortF bs) (2 * i)
   have hsl := shortF_length bs
   have hx1 := sr4 ((shortF bs).getD i 0)
   have hx2 := and15 ((shortF bs).getD i 0)
   have hx3 := ((shortF bs).getD i 0).toNat_lt
   refine wpc_seq <| wpc_region <| wpl_q (q_pure rfl) rfl <| wpl_nil <| ex_then <| wpc_seq ?_
   refine wpc_cond rfl (fun hc12 => ?_) (fun hc12 => ?_)
   ·
    try simp only [decide_eq_true_eq, decide_eq_false_iff_not, Bool.and_eq_true, Bool.or_eq_true, beq_iff_eq, bne_iff_ne, ne_eq, Bool.not_eq_true', Bool.not_eq_false', Decidable.not_not] at hc12
    refine wpc_skip <| ex_then <| wpc_seq <| wpc_block <| wpc_seq <| wpc_region ?_
    refine wpl_q (q_idxVN Tryd.underlying31 Tryd.ti5 Tryd.underlying5 rfl rfl rfl zz16 zz34) rfl ?_
    refine wpl_q (q_pure rfl) rfl <| wpl_nil <| ex_then <| wpc_seq <| wpc_region <| wpl_q (q_pure rfl) rfl ?_
    refine wpl_q (q8_shr rfl rfl zz32 4 rfl) rfl ?_
    refine wpl_q (q8_int Tryd.underlying5 Tryd.underlying3 rfl) rfl <| wpl_q (q_pure rfl) rfl ?_
    refine wpl_q (q8_and (b := (15 : UInt8)) rfl rfl) rfl ?_
    refine wpl_q (q8_int Tryd.underlying5 Tryd.underlying3 rfl) rfl <| wpl_q (q_pure rfl) rfl <| wpl_q (q_pure rfl) rfl <| wpl_nil <| ex_then <| wpc_seq <| wpc_region <| wpl_q (q_pure rfl) rfl <| wpl_q (q_pure rfl) rfl <| wpl_q (q_pure rfl) rfl ?_
    refine wpl_tp (t_bsV (vns [_, _]) Tryd.underlying125 Tryd.ti3 rfl rfl zz27 zz27 rfl (vns_one _)) rfl (fun b23 p23 => ?_)
    refine wpl_tp (t_apW Tryd.underlying125 Tryd.ti3 rfl zz27 rfl rfl (fun w h => zz9) (vns_one _) zz1 zz1 _ zz19) rfl (fun b24 p24 => ?_)
    refine wpl_q (q_pure rfl) rfl <| wpl_nil <| ex_then <| wpc_region <| wpl_q (q_pure rfl) rfl <| wpl_q (q_pure rfl) rfl ?_
    refine wpl_q (q_subN (a := 30) rfl rfl zz16 zz1) rfl ?_
    refine wpl_q (q_pure rfl) rfl ?_
    refine wpl_q (q_subN rfl rfl zz16 zz1) rfl ?_
    refine wpl_q (qop_eq (q_addN rfl rfl zz1) (by rw [dsum_two])) rfl ?_
    refine wpl_q (q_pure rfl) rfl <| wpl_nil <| ex_block <| ex_then <| wpc_region ?_
    refine wpl_q (q_addN (b := 1) rfl rfl zz1) rfl ?_
    refine wpl_q (q_pure rfl) rfl <| wpl_nil ?_
    refine ex_again ⟨(i + 1, b24), ⟨zz16, by rw [show 2 * (i + 1) = 2 * i + 2 from zz16]; exact p24⟩⟩ ?_ ?_ ?_
    ·
     exact zz14
    ·
     exact fun w h => by
       dsimp only
       rw [← digs_two, show 2 * (i + 1) = 2 * i + 2 from zz16]
       first | exact h.sub SubC.h SubC.h | exact h.sub zz8 zz8
    ·
     (show 16 - (i + 1) < 16 - i); omega
   ·
    simp only [decide_eq_false_iff_not] at hc12
    obtain rfl : i = 16 := by omega
    refine wpc_exit ?_
    refine ex_then_exit ?_
    refine ex_then_exit ?_
    refine ex_block_hit ?_
    refine ex_then <| wpc_seq <| wpc_region <| wpl_q (q_pure rfl) rfl <| wpl_q (q_pure rfl) rfl ?_
    refine wpl_q (q_shrN (b := 8) rfl rfl zz32) rfl ?_
    refine wpl_q (q_pure rfl) rfl ?_
    refine wpl_q (q_shrN (b := 4) rfl rfl zz32) rfl ?_
    refine wpl_q (q_andN (b := 15) rfl rfl zz1 zz1) rfl ?_
    refine wpl_q (q_pure rfl) rfl ?_
    refine wpl_q (q_andN (b := 15) rfl rfl zz1 zz1) rfl ?_
    refine wpl_tp (t_bsV (vns [_, _, _]) Tryd.underlying125 Tryd.ti3 rfl rfl zz27 zz27 rfl (vns_one _)) rfl (fun b40 p40 => ?_)
    refine wpl_tp (t_apW Tryd.underlying125 Tryd.ti3 rfl zz27 rfl rfl (fun w h => zz9) (vns_one _) zz1 zz1 (vns (digsF (shortF bs))) (by rw [← vns_append]; exact congrArg vns (last3 (shortF bs)))) rfl (fun b41 p41 => ?_)
    refine wpl_q (q_pure rfl) rfl <| wpl_nil <| ex_then <| wpc_ret ?_
    refine ret1 (.inl rfl) rfl rfl ?_
    exact fun w h => ⟨b41, p41, rfl, h.below, h.made SubC.h SubC.h⟩
end Go.Proofs.YtoaeklbenmlooaaDoor
