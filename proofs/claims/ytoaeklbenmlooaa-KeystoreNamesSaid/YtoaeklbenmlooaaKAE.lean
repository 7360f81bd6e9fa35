/- The examples of the chapter. -/
import Derived.Test.YtoaeklbenmlooaaKAD
namespace Go.Proofs.Ytoaeklbenmlooaa
set_option linter.unusedSimpArgs false
set_option linter.unusedVariables false
open Go Go.PL Go.RowKit

theorem play_eq {m : List UInt8} {n : Int} {l : List Stp} {rs : List (Int × Int)} {s : St} {e : Int} (hp : playF m n l = (rs, s, e)) (lv : Value) (w : World) (hm : m.length = 32) (hlv : Seen w.cell? lv l.length 3 (scs l)) :
    Calls Try.prog 31 [.agg (v8s m).toArray, .int .i64 n, lv].toArray w (GivesP w (fun y : Value × V3 => SV y.1 rs.length ∧ s.sv y.2) (fun y => .tuple #[y.1, stV s y.2, .int .i64 e]) (fun y => [rRow y.1 rs, dRow y.2.1 s.dk, dRow y.2.2.1 s.pd, kRow y.2.2.2 s.ks]) (fun _ => [])) := by
  have h := play m n lv l w hm hlv
  rw [hp] at h; exact h
def h1L : List UInt8 := 1 :: List.replicate 31 0
theorem h1L_len : h1L.length = 32 := rfl
def a1 : Stp := ⟨1, 7, 2⟩
def a2 : Stp := ⟨2, 7, 0⟩
def a3 : Stp := ⟨4, 0, 0⟩
def a4 : Stp := ⟨7, 7, 0⟩
def a5 : Stp := ⟨5, 0, 0⟩
def a6 : Stp := ⟨6, 0, 0⟩
def s1L : St := ⟨h1L, 3, true, [], [1, 2, 0, 0, 0, 0, 0, 7, 0, 61], [⟨7, 2, 0, 0, 0, false⟩]⟩
def s7L : St := ⟨h1L, 3, true, [1, 2, 0, 0, 0, 0, 0, 7, 0, 61, 2, 2, 0, 3, 0, 0, 0, 7, 0, 74], [], [⟨7, 2, 3, 3, 3, false⟩]⟩
def s8L : St := ⟨h1L, 3, true, [1, 2, 0, 0, 0, 0, 0, 7, 0, 61, 2, 2, 0, 3, 0, 0, 0, 7, 0, 74], [2, 2, 0, 4, 0, 0, 0, 7, 0, 78], [⟨7, 2, 3, 3, 4, false⟩]⟩
instance l32_1 : L32 s1L := ⟨rfl⟩
instance l32_7 : L32 s7L := ⟨rfl⟩
instance l32_8 : L32 s8L := ⟨rfl⟩
theorem play_1 : playF h1L 3 [a1] = ([(0, 0)], s1L, 0) := by kernel_rfl
theorem play_7 : playF h1L 3 [a1, a2, a3, a4, a4, a5, a6] = ([(0, 0), (0, 0), (0, 0), (0, 0), (1, 0), (0, 0), (0, 0)], s7L, 0) := by kernel_rfl
theorem res_8 : reserveF s7L 7 = (s8L, 0) := by kernel_rfl
theorem getD_res {rs : List (Int × Int)} (h : ∀ r ∈ rs, r.2 = 0) {i : Nat} (hi : i < rs.length) : (rs.getD i (0, 0)).2 = 0 := by
  rw [List.getD_eq_getElem?_getD, List.getElem?_eq_getElem hi]; exact h _ (List.getElem_mem hi)
theorem reserve_8 (y : V3) (w : World) (hs : StS w.cell? s7L y.1 y.2.1 y.2.2) : Calls Try.prog 23 [.agg (s7L.c y.1 y.2.1 y.2.2).toArray, .int .u32 7].toArray w (GivesP w (fun x : V3 => s8L.sv x) (fun x => .tuple #[stV s8L x, .int .i64 0]) (fun x => [dRow x.1 s8L.dk, dRow x.2.1 s8L.pd, kRow x.2.2 s8L.ks]) (fun _ => [])) := by
  have h := reserve s7L y.1 y.2.1 y.2.2 7 w hs
  rw [res_8] at h; exact h

set_option maxRecDepth 100000 in
theorem made (lv : Value) (l : List Stp) (w : World) (hlv : Seen w.cell? lv l.length 3 (scs l)) (rs : List (Int × Int)) (s : St) (hpl : playF h1L 3 l = (rs, s, 0)) (hrl : rs.length = l.length) (hgd : ∀ r ∈ rs, r.2 = 0) (hsm : s.ms.length = 32) :
    Calls Try.prog 56 [lv].toArray w (GivesP w (fun y : V3 => s.sv y) (fun y => .tuple #[stV s y, .bool true]) (fun y => [dRow y.1 s.dk, dRow y.2.1 s.pd, kRow y.2.2 s.ks]) (fun _ => [])) := by
  have slv := hlv.sv
  have lllv := slv.le
  simp only [maxLen] at lllv
  haveI : L32 s := ⟨hsm⟩
  refine enter (m := 39) (R := Mem w [] [] []) Try.func56 rfl rfl (Nat.le_of_ble_eq_true rfl) (Mem.start w) ?_
  refine wpc_seq ?_
  refine wpc_region ?_
  refine wpl_t (t_alloc Try.ti27 (St.z.c nl nl nl) rfl) rfl (fun b2 => ?_)
  refine wpl_q (q_pure rfl) rfl ?_
  refine wpl_nil ?_
  refine ex_then ?_
  refine wpc_seq ?_
  refine wpc_region ?_
  refine wpl_q (q_build (cs := v8s h1L) rfl (built_array Try.underlying23 Try.ti23 Try.ti5 rfl)) rfl ?_
  refine wpl_q (q_pure rfl) rfl ?_
  refine wpl_tp (t_callP4 Try.hb31 rfl fun w h => play_eq hpl lv w h1L_len (by first | exact Seen.re8 h.seenV | exact h.seenV | exact h.seenA (by first | decide | (simp only [maxLen]; omega)) (by first | with_reducible rfl | (simp only [v8s_length, v32s_length, vis_length, vns_length, v64s_length, List.length_replicate]; first | done | with_reducible assumption | omega) | (rw [v8s_length]; (first | with_reducible assumption | with_reducible exact shortF_length _ | with_reducible exact stepF_length _ _ _ | with_reducible exact sumF_length _ | with_reducible exact climbF_length _ (by first | with_reducible assumption | with_reducible exact shortF_length _ | with_reducible exact beginF_length _ _ | with_reducible exact getD_mem_len (by assumption) (by omega)) _ _ _ | with_reducible exact beginF_length _ _ | with_reducible exact chainF_length _ _ _ | with_reducible exact recF_length _ _ | with_reducible exact publicF_length _ | with_reducible exact getD_mem_len (by assumption) (by omega) | (with_reducible exact List.length_replicate))) | rfl) | exact h.seen_old (by assumption) | exact h.seen_oldL (by assumption) (by assumption) | exact h.seen_old hs.d | exact h.seen_old hs.p | exact h.seen_old hs.k | exact Seen.re8 (h.seen_fact (by repeat (first | exact List.mem_cons_self .. | apply List.mem_cons_of_mem))) | exact h.seen_fact (by repeat (first | exact List.mem_cons_self .. | apply List.mem_cons_of_mem)))) rfl (fun b11 p11 => ?_)
  obtain ⟨q1, q2⟩ := p11
  haveI := OneC.sv q2
  refine wpl_q (q_pure rfl) rfl ?_
  refine wpl_q (q_pure rfl) rfl ?_
  refine wpl_q (q_pure rfl) rfl ?_
  refine wpl_q (q_pure rfl) rfl ?_
  refine wpl_t (t_alloc Try.ti27 (St.z.c nl nl nl) rfl) rfl (fun b5 => ?_)
  refine wpl_q (q_pure rfl) rfl ?_
  refine wpl_t0 (t_stA Try.ti27 rfl rfl LenC.h OneC.h LenC.h) (fun _ => ?_)
  refine wpl_q (q_pure rfl) rfl ?_
  refine wpl_nil ?_
  refine ex_then ?_
  refine wpc_seq ?_
  refine wpc_seq ?_
  refine wpc_region ?_
  refine wpl_q (q_pure rfl) rfl ?_
  refine wpl_q (q_pure rfl) rfl ?_
  refine wpl_q (q_pure rfl) rfl ?_
  refine wpl_bool2 17 16 rfl rfl (fun hb17 => ?_) (fun hb17 => ?_)
  ·
   simp at hb17
  ·
   refine wpl_on rfl rfl ?_
   refine wpl_q (q_pure rfl) rfl ?_
   refine wpl_on rfl rfl ?_
   refine wpl_q (q_lenW Try.underlying53 rfl (by first | assumption | exact SV.nil | exact SV.slv (by assumption) (by omega) (by omega) | exact arv_sv (by first | decide | (simp only [maxLen]; omega)))) rfl ?_
   refine wpl_on rfl rfl ?_
   refine wpl_q (q_pure rfl) rfl ?_
   refine wpl_on rfl rfl ?_
   refine wpl_q (q_lenW Try.underlying56 rfl (by first | assumption | exact SV.nil | exact SV.slv (by assumption) (by omega) (by omega) | exact arv_sv (by first | decide | (simp only [maxLen]; omega)))) rfl ?_
   refine wpl_on rfl rfl ?_
   refine wpl_q (q_pure rfl) rfl ?_
   refine wpl_q (q_pure rfl) rfl ?_
   refine wpl_nil ?_
   refine ex_then ?_
   refine wpc_cond rfl (fun hc23 => ?_) (fun hc23 => ?_)
   ·
    exact absurd hc23 (by simp [hrl])
   ·
    refine wpc_skip ?_
    refine ex_then ?_
    refine wpc_seq ?_
    refine wpc_seq ?_
    refine wpc_region ?_
    refine wpl_q (q_pure rfl) rfl ?_
    refine wpl_nil ?_
    refine ex_then ?_
    refine wpc_block ?_
    refine wpc_loopc (ι := { x : Nat // (x ≤ rs.length) }) [(2, _), (4, _), (5, _)] (fun x Lc => (7, .int .i64 ((x.1 : Nat) : Int)) :: Lc) (fun x => Mem w [] [.blk b5 27 (s.c b11.2.1 b11.2.2.1 b11.2.2.2), .blk b2 27 (St.z.c nl nl nl), rRow b11.1 rs, dRow b11.2.1 s.dk, dRow b11.2.2.1 s.pd, kRow b11.2.2.2 s.ks] []) (fun x => rs.length - x.1) ⟨0, (Nat.zero_le _)⟩ (by repeat (first | exact trivial | refine ⟨rfl, ?_⟩)) ?_ ?_
    ·
     exact fun w h => h.sel
    ·
     rintro ⟨i, hi0⟩; try dsimp only
     have hi0 : i ≤ rs.length := hi0
     refine wpc_seq ?_
     refine wpc_seq ?_
     refine wpc_region ?_
     refine wpl_q (q_pure rfl) rfl ?_
     refine wpl_q (q_pure rfl) rfl ?_
     refine wpl_q (q_lenW Try.underlying53 rfl (by first | assumption | exact SV.nil | exact SV.slv (by assumption) (by omega) (by omega) | exact arv_sv (by first | decide | (simp only [maxLen]; omega)))) rfl ?_
     refine wpl_q (q_pure rfl) rfl ?_
     refine wpl_nil ?_
     refine ex_then ?_
     refine wpc_cond rfl (fun hc28 => ?_) (fun hc28 => ?_)
     ·
      simp only [decide_eq_true_eq] at hc28
      have hil : i < rs.length := by omega
      refine wpc_skip ?_
      refine ex_then ?_
      refine wpc_seq ?_
      refine wpc_block ?_
      refine wpc_seq ?_
      refine wpc_region ?_
      refine wpl_q (q_pure rfl) rfl ?_
      refine wpl_q (q_pure rfl) rfl ?_
      refine wpl_q (q_idxW Try.underlying53 Try.ti61 rfl rfl (by first | assumption | exact SV.nil | exact SV.slv (by assumption) (by omega) (by omega) | exact arv_sv (by first | decide | (simp only [maxLen]; omega))) (by first | omega | (simp only [maxLen]; omega) | (simp only [List.length_append, List.length_cons, List.length_nil, List.length_take, maxLen]; omega) | (simp only [List.length_append, List.length_cons, List.length_nil, List.length_take]; omega))) rfl ?_
      refine wpl_q (q_fieldPo 1 Try.underlying61 rfl Try.ti31 rfl rfl rfl) rfl ?_
      refine wpl_q (q_ldWF Try.underlying31 rfl rfl (fun w h => show Seen w.cell? b11.1 rs.length 2 (rcs rs) from h.seenV) (cat_get (c := resC) (k := 2) (fun _ => rfl) (0, 0) hil rfl)) rfl ?_
      refine wpl_q (q_pure rfl) rfl ?_
      refine wpl_nil ?_
      refine ex_then ?_
      refine wpc_cond rfl (fun hc36 => ?_) (fun hc36 => ?_)
      ·
       exact absurd hc36 (by rw [getD_res hgd hil]; decide)
      ·
       try simp only [decide_eq_true_eq, decide_eq_false_iff_not, Bool.and_eq_true, Bool.or_eq_true, beq_iff_eq, bne_iff_ne, ne_eq, Bool.not_eq_true', Bool.not_eq_false', Decidable.not_not] at hc36
       refine wpc_skip ?_
       refine ex_block ?_
       refine ex_then ?_
       refine wpc_region ?_
       refine wpl_q (q_pure rfl) rfl ?_
       refine wpl_q (q_addN (b := 1) rfl rfl (by first | omega | (simp only [maxLen]; omega) | (simp only [List.length_append, List.length_cons, List.length_nil, List.length_take, maxLen]; omega) | (simp only [List.length_append, List.length_cons, List.length_nil, List.length_take]; omega))) rfl ?_
       refine wpl_q (q_pure rfl) rfl ?_
       refine wpl_nil ?_
       refine ex_again ⟨i + 1, by first | omega | assumption | decide | exact SV.nil | (simp; done) | (dsimp only; omega)⟩ ?_ ?_ ?_
       ·
        exact (by repeat (first | exact trivial | refine ⟨rfl, ?_⟩))
       ·
        exact fun w h => by first | exact h | exact h.sub SubC.h SubC.h | exact h.sub (by repeat (first | exact Sub.nil | exact Sub.refl _ | with_reducible refine Sub.keep ?_ | refine Sub.drop ?_)) (by repeat (first | exact Sub.nil | exact Sub.refl _ | with_reducible refine Sub.keep ?_ | refine Sub.drop ?_))
       ·
        (show rs.length - (i + 1) < rs.length - i); omega
     ·
      try simp only [decide_eq_true_eq, decide_eq_false_iff_not, Bool.and_eq_true, Bool.or_eq_true, beq_iff_eq, bne_iff_ne, ne_eq, Bool.not_eq_true', Bool.not_eq_false', Decidable.not_not] at hc28
      refine wpc_exit ?_
      refine ex_then_exit ?_
      refine ex_then_exit ?_
      refine ex_block_hit ?_
      refine ex_then ?_
      refine wpc_seq ?_
      refine wpc_region ?_
      refine wpl_q (q_ldN Try.underlying27 rfl Try.ti27 rfl LenC.h) rfl ?_
      refine wpl_t0 (t_stA Try.ti27 rfl rfl LenC.h OneC.h LenC.h) (fun _ => ?_)
      refine wpl_q (q_pure rfl) rfl ?_
      refine wpl_nil ?_
      refine ex_then ?_
      refine wpc_ret ?_
      refine retv2 (.inl rfl) rfl (rv_agg Try.underlying27 rfl Try.ti27 rfl (fun w h => h.atB) LenC.h) (rv_tmp rfl) ?_
      exact fun w h => ⟨b11.2, q2, by first | done | rfl, h.below, h.sel.made (Sub.refl _) .nil⟩

set_option maxRecDepth 100000 in
theorem alive  (w : World)   :
    Calls Try.prog 33 [].toArray w (Pur w (.bool true)) := by
  refine enter (m := 64) (R := Mem w [] [] []) Try.func33 rfl rfl (Nat.le_of_ble_eq_true rfl) (Mem.start w) ?_
  refine wpc_seq ?_
  refine wpc_region ?_
  refine wpl_q (q_pure rfl) rfl ?_
  refine wpl_nil ?_
  refine ex_then ?_
  refine wpc_seq ?_
  refine wpc_region ?_
  refine wpl_q (q_build (cs := a1.c) rfl (by kernel_rfl)) rfl ?_
  refine wpl_q (q_build (cs := a2.c) rfl (by kernel_rfl)) rfl ?_
  refine wpl_q (q_build (cs := a3.c) rfl (by kernel_rfl)) rfl ?_
  refine wpl_q (q_build (cs := a4.c) rfl (by kernel_rfl)) rfl ?_
  refine wpl_q (q_build (cs := a4.c) rfl (by kernel_rfl)) rfl ?_
  refine wpl_tp (t_bsG [.agg a1.c.toArray, .agg a2.c.toArray, .agg a3.c.toArray, .agg a4.c.toArray, .agg a4.c.toArray] (scs [a1, a2, a3, a4, a4]) Try.underlying56 Try.ti58 rfl (by decide) rfl (by decide) (by decide) rfl (by intro v hv; simp only [List.mem_cons, List.not_mem_nil, or_false] at hv; rcases hv with rfl | rfl | rfl | rfl | rfl <;> rfl) (by rfl)) rfl (fun b13 p13 => ?_)
  refine wpl_q (q_pure rfl) rfl ?_
  refine wpl_nil ?_
  refine ex_then ?_
  refine wpc_seq ?_
  refine wpc_region ?_
  refine wpl_q (q_pure rfl) rfl ?_
  refine wpl_q (q_idxW (j := 0) Try.underlying56 Try.ti58 rfl rfl (by first | assumption | exact SV.nil | exact SV.slv (by assumption) (by omega) (by omega) | exact arv_sv (by first | decide | (simp only [maxLen]; omega))) (by first | omega | (simp only [maxLen]; omega) | (simp only [List.length_append, List.length_cons, List.length_nil, List.length_take, maxLen]; omega) | (simp only [List.length_append, List.length_cons, List.length_nil, List.length_take]; omega))) rfl ?_
  refine wpl_q (q_ldWN Try.underlying58 rfl Try.ti58 rfl (fun w h => by first | exact h.seenV | exact h.seenA (by first | decide | (simp only [maxLen]; omega)) (by first | with_reducible rfl | (simp only [v8s_length, v32s_length, vis_length, vns_length, v64s_length, List.length_replicate]; first | done | with_reducible assumption | omega) | (rw [v8s_length]; (first | with_reducible assumption | with_reducible exact shortF_length _ | with_reducible exact stepF_length _ _ _ | with_reducible exact sumF_length _ | with_reducible exact climbF_length _ (by first | with_reducible assumption | with_reducible exact shortF_length _ | with_reducible exact beginF_length _ _ | with_reducible exact getD_mem_len (by assumption) (by omega)) _ _ _ | with_reducible exact beginF_length _ _ | with_reducible exact chainF_length _ _ _ | with_reducible exact recF_length _ _ | with_reducible exact publicF_length _ | with_reducible exact getD_mem_len (by assumption) (by omega) | (with_reducible exact List.length_replicate))) | rfl) | exact h.seen_old (by assumption) | exact h.seen_oldL (by assumption) (by assumption) | exact h.seen_fact (by repeat (first | exact List.mem_cons_self .. | apply List.mem_cons_of_mem))) a1.c rfl rfl) rfl ?_
  refine wpl_tp (t_bsG [.agg a1.c.toArray] (scs [a1]) Try.underlying56 Try.ti58 rfl (by decide) rfl (by decide) (by decide) rfl (by intro v hv; simp only [List.mem_cons, List.not_mem_nil, or_false] at hv; rcases hv with rfl <;> rfl) (by rfl)) rfl (fun b18 p18 => ?_)
  refine wpl_tp (t_callP3 Try.hb56 rfl fun w h => made b18 [a1] w h.seenV [(0, 0)] s1L play_1 rfl (by decide) rfl) rfl (fun b19 p19 => ?_)
  haveI := OneC.sv p19
  refine wpl_q (q_pure rfl) rfl ?_
  refine wpl_q (q_pure rfl) rfl ?_
  refine wpl_q (q_pure rfl) rfl ?_
  refine wpl_t (t_alloc Try.ti27 (St.z.c nl nl nl) rfl) rfl (fun b2 => ?_)
  refine wpl_t0 (t_stA Try.ti27 rfl rfl LenC.h OneC.h LenC.h) (fun _ => ?_)
  refine wpl_q (q_pure (v := .bool true) rfl) rfl ?_
  refine wpl_nil ?_
  refine ex_then ?_
  refine wpc_seq ?_
  refine wpc_region ?_
  refine wpl_q (q_pure rfl) rfl ?_
  refine wpl_q (q_build (cs := a5.c) rfl (by kernel_rfl)) rfl ?_
  refine wpl_q (q_build (cs := a6.c) rfl (by kernel_rfl)) rfl ?_
  refine wpl_tp (t_bsG [.agg a5.c.toArray, .agg a6.c.toArray] (scs [a5, a6]) Try.underlying56 Try.ti58 rfl (by decide) rfl (by decide) (by decide) rfl (by intro v hv; simp only [List.mem_cons, List.not_mem_nil, or_false] at hv; rcases hv with rfl | rfl <;> rfl) (by rfl)) rfl (fun b26 p26 => ?_)
  refine wpl_tp (t_apW Try.underlying56 Try.ti58 rfl (by decide) rfl rfl (fun w h => by first | exact h.seenV | exact h.seenA (by first | decide | (simp only [maxLen]; omega)) (by first | with_reducible rfl | (simp only [v8s_length, v32s_length, vis_length, vns_length, v64s_length, List.length_replicate]; first | done | with_reducible assumption | omega) | (rw [v8s_length]; (first | with_reducible assumption | with_reducible exact shortF_length _ | with_reducible exact stepF_length _ _ _ | with_reducible exact sumF_length _ | with_reducible exact climbF_length _ (by first | with_reducible assumption | with_reducible exact shortF_length _ | with_reducible exact beginF_length _ _ | with_reducible exact getD_mem_len (by assumption) (by omega)) _ _ _ | with_reducible exact beginF_length _ _ | with_reducible exact chainF_length _ _ _ | with_reducible exact recF_length _ _ | with_reducible exact publicF_length _ | with_reducible exact getD_mem_len (by assumption) (by omega) | (with_reducible exact List.length_replicate))) | rfl) | exact h.seen_old (by assumption) | exact h.seen_oldL (by assumption) (by assumption) | exact h.seen_fact (by repeat (first | exact List.mem_cons_self .. | apply List.mem_cons_of_mem))) OneC.h (by first | omega | (simp only [maxLen]; omega) | (simp only [List.length_append, List.length_cons, List.length_nil, List.length_take, maxLen]; omega) | (simp only [List.length_append, List.length_cons, List.length_nil, List.length_take]; omega)) (by first | omega | (simp only [maxLen]; omega) | (simp only [List.length_append, List.length_cons, List.length_nil, List.length_take, maxLen]; omega) | (simp only [List.length_append, List.length_cons, List.length_nil, List.length_take]; omega)) (scs [a1, a2, a3, a4, a4, a5, a6]) (show scs [a1, a2, a3, a4, a4] ++ scs [a5, a6] = scs [a1, a2, a3, a4, a4, a5, a6] from rfl)) rfl (fun b27 p27 => ?_)
  refine wpl_tp (t_callP3 Try.hb56 rfl fun w h => made b27 [a1, a2, a3, a4, a4, a5, a6] w h.seenV _ s7L play_7 rfl (by decide) rfl) rfl (fun b28 p28 => ?_)
  haveI := OneC.sv p28
  refine wpl_q (q_pure rfl) rfl ?_
  refine wpl_q (q_pure rfl) rfl ?_
  refine wpl_q (q_pure rfl) rfl ?_
  refine wpl_t (t_alloc Try.ti27 (St.z.c nl nl nl) rfl) rfl (fun b4 => ?_)
  refine wpl_t0 (t_stA Try.ti27 rfl rfl LenC.h OneC.h LenC.h) (fun _ => ?_)
  refine wpl_q (q_pure (v := .bool true) rfl) rfl ?_
  refine wpl_nil ?_
  refine ex_then ?_
  refine wpc_seq ?_
  refine wpc_region ?_
  refine wpl_q (q_ldN Try.underlying27 rfl Try.ti27 rfl LenC.h) rfl ?_
  refine wpl_tp (t_callP3 Try.hb23 rfl fun w h => reserve_8 b28 w ⟨rfl, h.seenV, h.seenV, h.seenV, by decide, by decide, by decide⟩) rfl (fun b33 p33 => ?_)
  haveI := OneC.sv p33
  refine wpl_q (q_pure rfl) rfl ?_
  refine wpl_q (q_pure rfl) rfl ?_
  refine wpl_q (q_pure rfl) rfl ?_
  refine wpl_t (t_alloc Try.ti27 (St.z.c nl nl nl) rfl) rfl (fun b6 => ?_)
  refine wpl_t0 (t_stA Try.ti27 rfl rfl LenC.h OneC.h LenC.h) (fun _ => ?_)
  refine wpl_q (q_pure rfl) rfl ?_
  refine wpl_nil ?_
  refine ex_then ?_
  refine wpc_seq ?_
  refine wpc_region ?_
  refine wpl_q (q_pure rfl) rfl ?_
  refine wpl_q (q_pure rfl) rfl ?_
  refine wpl_on rfl rfl ?_
  refine wpl_q (q_pure rfl) rfl ?_
  refine wpl_q (q_pure rfl) rfl ?_
  refine wpl_q (q_pure rfl) rfl ?_
  refine wpl_on rfl rfl ?_
  refine wpl_q (q_field Try.underlying27 rfl Try.ti24 rfl rfl _ rfl) rfl ?_
  refine wpl_on rfl rfl ?_
  refine wpl_q (q_ld Try.underlying24 rfl rfl rfl) rfl ?_
  refine wpl_on rfl rfl ?_
  refine wpl_tp (t_bsV (v8s s1L.pd) Try.underlying24 Try.ti5 rfl rfl (by decide) (by decide) rfl (v8s_one _)) rfl (fun b43 p43 => ?_)
  refine wpl_on rfl rfl ?_
  refine wpl_t (t_pur (v := .bool true) Try.hb35 rfl fun w h => refSameB _ s1L.pd _ s1L.pd w h.seenV h.seenV) rfl (fun b44 => ?_)
  refine wpl_q (q_pure rfl) rfl ?_
  refine wpl_q (q_pure rfl) rfl ?_
  refine wpl_on rfl rfl ?_
  refine wpl_q (q_field Try.underlying27 rfl Try.ti25 rfl rfl _ rfl) rfl ?_
  refine wpl_on rfl rfl ?_
  refine wpl_q (q_ld Try.underlying25 rfl rfl rfl) rfl ?_
  refine wpl_on rfl rfl ?_
  refine wpl_q (q_build (cs := (KE.mk 7 2 3 3 3 false).c) rfl (by kernel_rfl)) rfl ?_
  refine wpl_on rfl rfl ?_
  refine wpl_tp (t_bsG [.agg (KE.mk 7 2 3 3 3 false).c.toArray] (kcs s7L.ks) Try.underlying25 Try.ti66 rfl (by decide) rfl (by decide) (by decide) rfl (by intro v hv; simp only [List.mem_cons, List.not_mem_nil, or_false] at hv; rcases hv with rfl <;> rfl) (by rfl)) rfl (fun b50 p50 => ?_)
  refine wpl_on rfl rfl ?_
  refine wpl_t (t_pur (v := .bool true) Try.hb48 rfl fun w h => sameKeys _ s7L.ks _ s7L.ks w h.seenV h.seenV) rfl (fun b51 => ?_)
  refine wpl_q (q_pure rfl) rfl ?_
  refine wpl_q (q_pure rfl) rfl ?_
  refine wpl_on rfl rfl ?_
  refine wpl_q (q_pure rfl) rfl ?_
  refine wpl_on rfl rfl ?_
  refine wpl_q (q_tru (q_eqI rfl rfl) rfl) rfl ?_
  refine wpl_q (q_pure rfl) rfl ?_
  refine wpl_q (q_pure rfl) rfl ?_
  refine wpl_on rfl rfl ?_
  refine wpl_q (q_field Try.underlying27 rfl Try.ti25 rfl rfl _ rfl) rfl ?_
  refine wpl_on rfl rfl ?_
  refine wpl_q (q_ld Try.underlying25 rfl rfl rfl) rfl ?_
  refine wpl_on rfl rfl ?_
  refine wpl_q (q_build (cs := (KE.mk 7 2 3 3 4 false).c) rfl (by kernel_rfl)) rfl ?_
  refine wpl_on rfl rfl ?_
  refine wpl_tp (t_bsG [.agg (KE.mk 7 2 3 3 4 false).c.toArray] (kcs s8L.ks) Try.underlying25 Try.ti66 rfl (by decide) rfl (by decide) (by decide) rfl (by intro v hv; simp only [List.mem_cons, List.not_mem_nil, or_false] at hv; rcases hv with rfl <;> rfl) (by rfl)) rfl (fun b61 p61 => ?_)
  refine wpl_on rfl rfl ?_
  refine wpl_t (t_pur (v := .bool true) Try.hb48 rfl fun w h => sameKeys _ s8L.ks _ s8L.ks w h.seenV h.seenV) rfl (fun b62 => ?_)
  refine wpl_q (q_pure rfl) rfl ?_
  refine wpl_q (q_pure rfl) rfl ?_
  refine wpl_nil ?_
  refine ex_then ?_
  refine wpc_ret ?_
  refine ret1 (.inl rfl) rfl rfl ?_
  exact fun w h => ⟨by first | rfl | simp, h.below⟩

end Go.Proofs.Ytoaeklbenmlooaa
