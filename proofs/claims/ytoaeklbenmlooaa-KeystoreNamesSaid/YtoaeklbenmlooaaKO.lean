/- Keys that are there, and copies. -/
import Derived.Test.YtoaeklbenmlooaaKN
namespace Go.Proofs.Ytoaeklbenmlooaa
set_option linter.unusedSimpArgs false
set_option linter.unusedVariables false
open Go Go.PL Go.RowKit

theorem th_0 {s : St} {id : UInt32} (h : ¬ upF s true = 0) : thereF s id = (0, upF s true) := if_neg h
theorem th_6 {s : St} {id : UInt32} (h : upF s true = 0) (h2 : placeF s.ks id < 0 ∨ (s.ks.getD (placeF s.ks id).toNat KE.z).dr = true) : thereF s id = (0, 6) := by unfold thereF; rw [if_pos h, if_pos h2]
theorem th_ok {s : St} {id : UInt32} (h : upF s true = 0) (h2 : ¬ (placeF s.ks id < 0 ∨ (s.ks.getD (placeF s.ks id).toNat KE.z).dr = true)) : thereF s id = (placeF s.ks id, 0) := by unfold thereF; rw [if_pos h, if_neg h2]
theorem th_idx {s : St} {id : UInt32} (h : upF s true = 0) : idxF (isTh id) s.ks = if placeF s.ks id < 0 ∨ (s.ks.getD (placeF s.ks id).toNat KE.z).dr = true then -1 else placeF s.ks id :=
  th_place (chk_nodup ((upF_ok h).1.2.2.2.2 (upF_ok h).2))
theorem cl_nil {a : Option Addr} {cap : Nat} {sz : Nat} {n : Nat} {cs : List Value} {r : Rd} (h : Seen r (.slice a n cap) n sz cs) (hn : a.isNone = true) : n = 0 := by
  obtain ⟨a', cap', e, h1, h2, h3⟩ := h.sv
  simp only [Value.slice.injEq] at e
  obtain ⟨rfl, _, rfl⟩ := e
  have := h3 (by simpa using hn)
  omega

set_option maxRecDepth 100000 in
theorem there_ (s : St) (dv pv kv : Value) (id : UInt32) (w : World) (hs : StS w.cell? s dv pv kv)  :
    Calls Try.prog 45 [.agg (s.c dv pv kv).toArray, .int .u32 id.toNat].toArray w (Pur w (.tuple #[.int .i64 (thereF s id).1, .int .i64 (thereF s id).2])) := by
  have sdv := hs.d.sv
  have spv := hs.p.sv
  have skv := hs.k.sv
  have l1hs := hs.ld
  have l2hs := hs.lp
  have l3hs := hs.lk
  refine enter (m := 20) (R := Mem w [] [] []) Try.func45 rfl rfl (Nat.le_of_ble_eq_true rfl) (Mem.start w) ?_
  refine wpc_seq ?_
  refine wpc_region ?_
  refine wpl_t (t_box rfl (s.c dv pv kv) rfl) rfl (fun b2 => ?_)
  refine wpl_t (t_box rfl [.int .u32 (id.toNat : Int)] rfl) rfl (fun b3 => ?_)
  refine wpl_q (q_pure rfl) rfl ?_
  refine wpl_q (q_pure rfl) rfl ?_
  refine wpl_nil ?_
  refine ex_then ?_
  refine wpc_seq ?_
  refine wpc_seq ?_
  refine wpc_region ?_
  refine wpl_q (q_ldN Try.underlying27 rfl Try.ti27 rfl (St.c_length hs.len)) rfl ?_
  refine wpl_t (t_pur Try.hb37 rfl fun w h => up_ _ _ _ _ _ w (by first | exact StS.old h hs | exact ⟨hs.len, h.seenV, h.seenV, h.seenV, by omega, by omega, by omega⟩)) rfl (fun b9 => ?_)
  refine wpl_q (q_pure rfl) rfl ?_
  refine wpl_nil ?_
  refine ex_then ?_
  refine wpc_seq ?_
  refine wpc_region ?_
  refine wpl_q (q_pure rfl) rfl ?_
  refine wpl_q (q_pure rfl) rfl ?_
  refine wpl_nil ?_
  refine ex_then ?_
  refine wpc_cond rfl (fun hc11 => ?_) (fun hc11 => ?_)
  ·
   simp only [bne_iff_ne, ne_eq] at hc11
   refine wpc_seq ?_
   refine wpc_region ?_
   refine wpl_q (q_pure rfl) rfl ?_
   refine wpl_q (q_pure rfl) rfl ?_
   refine wpl_q (q_pure rfl) rfl ?_
   refine wpl_nil ?_
   refine ex_then ?_
   refine wpc_ret ?_
   refine ex_then_ret ?_
   refine ret2 (.inl rfl) rfl rfl rfl ?_
   exact fun w h => ⟨by rw [th_0 hc11], h.below⟩
  ·
   simp only [bne_eq_false_iff_eq] at hc11
   have hix := th_idx (id := id) hc11
   refine wpc_skip ?_
   refine ex_then ?_
   refine wpc_seq ?_
   refine wpc_region ?_
   refine wpl_q (q_field Try.underlying27 rfl Try.ti25 rfl rfl _ rfl) rfl ?_
   refine wpl_q (q_ld Try.underlying25 rfl rfl (by first | exact St.c_b hs.len | exact St.c_u hs.len | exact St.c_d hs.len | exact St.c_p hs.len | exact St.c_k hs.len)) rfl ?_
   refine wpl_q (q_fn (us := []) (vs := [.pointer (some ⟨b3, 0, none⟩)]) rfl rfl) rfl ?_
   refine wpl_t (t_pur Try.hb62 rfl fun w2 h => find_ kv s.ks 63 _ (isTh id) w2 (h.seen_old hs.k) Try.hb63 fun w3 h3 k => there1 k b3 id w3 (h3 _ _ (h.cell_blk (by repeat (first | exact List.mem_cons_self .. | apply List.mem_cons_of_mem)) rfl))) rfl (fun b16 => ?_)
   refine wpl_q (q_pure rfl) rfl ?_
   refine wpl_nil ?_
   refine ex_then ?_
   refine wpc_seq ?_
   refine wpc_seq ?_
   refine wpc_region ?_
   refine wpl_q (q_pure rfl) rfl ?_
   refine wpl_q (q_pure rfl) rfl ?_
   refine wpl_nil ?_
   refine ex_then ?_
   refine wpc_cond rfl (fun hc18 => ?_) (fun hc18 => ?_)
   ·
    simp only [decide_eq_true_eq] at hc18
    have h6 : placeF s.ks id < 0 ∨ (s.ks.getD (placeF s.ks id).toNat KE.z).dr = true := by
      rw [hix] at hc18; split at hc18
      · assumption
      · exact .inl hc18
    refine wpc_seq ?_
    refine wpc_region ?_
    refine wpl_q (q_pure rfl) rfl ?_
    refine wpl_q (q_pure rfl) rfl ?_
    refine wpl_nil ?_
    refine ex_then ?_
    refine wpc_ret ?_
    refine ex_then_ret ?_
    refine ret2 (.inl rfl) rfl rfl rfl ?_
    exact fun w h => ⟨by rw [th_6 hc11 h6], h.below⟩
   ·
    simp only [decide_eq_false_iff_not] at hc18
    have h6 : ¬ (placeF s.ks id < 0 ∨ (s.ks.getD (placeF s.ks id).toNat KE.z).dr = true) := by
      intro hh; rw [hix, if_pos hh] at hc18; exact hc18 (by decide)
    refine wpc_skip ?_
    refine ex_then ?_
    refine wpc_seq ?_
    refine wpc_region ?_
    refine wpl_q (q_pure rfl) rfl ?_
    refine wpl_q (q_pure rfl) rfl ?_
    refine wpl_q (q_pure rfl) rfl ?_
    refine wpl_nil ?_
    refine ex_then ?_
    refine wpc_ret ?_
    refine ret2 (.inl rfl) rfl rfl rfl ?_
    exact fun w h => ⟨by rw [th_ok hc11 h6, hix, if_neg h6], h.below⟩

set_option maxRecDepth 100000 in
theorem refThere (s : St) (dv pv kv : Value) (id : UInt32) (w : World) (hs : StS w.cell? s dv pv kv)  :
    Calls Try.prog 46 [.agg (s.c dv pv kv).toArray, .int .u32 id.toNat].toArray w (Pur w (.tuple #[.int .i64 (thereF s id).1, .int .i64 (thereF s id).2])) := by
  have sdv := hs.d.sv
  have spv := hs.p.sv
  have skv := hs.k.sv
  have l1hs := hs.ld
  have l2hs := hs.lp
  have l3hs := hs.lk
  refine enter (m := 27) (R := Mem w [] [] []) Try.func46 rfl rfl (Nat.le_of_ble_eq_true rfl) (Mem.start w) ?_
  refine wpc_seq ?_
  refine wpc_region ?_
  refine wpl_t (t_box rfl (s.c dv pv kv) rfl) rfl (fun b2 => ?_)
  refine wpl_q (q_pure rfl) rfl ?_
  refine wpl_q (q_pure rfl) rfl ?_
  refine wpl_nil ?_
  refine ex_then ?_
  refine wpc_seq ?_
  refine wpc_seq ?_
  refine wpc_region ?_
  refine wpl_q (q_ldN Try.underlying27 rfl Try.ti27 rfl (St.c_length hs.len)) rfl ?_
  refine wpl_t (t_pur Try.hb39 rfl fun w h => refUp _ _ _ _ _ w (by first | exact StS.old h hs | exact ⟨hs.len, h.seenV, h.seenV, h.seenV, by omega, by omega, by omega⟩)) rfl (fun b8 => ?_)
  refine wpl_q (q_pure rfl) rfl ?_
  refine wpl_nil ?_
  refine ex_then ?_
  refine wpc_cond rfl (fun hc9 => ?_) (fun hc9 => ?_)
  ·
   simp only [bne_iff_ne, ne_eq] at hc9
   refine wpc_seq ?_
   refine wpc_region ?_
   refine wpl_q (q_ldN Try.underlying27 rfl Try.ti27 rfl (St.c_length hs.len)) rfl ?_
   refine wpl_t (t_pur Try.hb39 rfl fun w h => refUp _ _ _ _ _ w (by first | exact StS.old h hs | exact ⟨hs.len, h.seenV, h.seenV, h.seenV, by omega, by omega, by omega⟩)) rfl (fun b11 => ?_)
   refine wpl_q (q_pure rfl) rfl ?_
   refine wpl_q (q_pure rfl) rfl ?_
   refine wpl_nil ?_
   refine ex_then ?_
   refine wpc_ret ?_
   refine ex_then_ret ?_
   refine ret2 (.inl rfl) rfl rfl rfl ?_
   exact fun w h => ⟨by rw [th_0 hc9], h.below⟩
  ·
   simp only [bne_eq_false_iff_eq] at hc9
   refine wpc_skip ?_
   refine ex_then ?_
   refine wpc_seq ?_
   refine wpc_region ?_
   refine wpl_q (q_field Try.underlying27 rfl Try.ti25 rfl rfl _ rfl) rfl ?_
   refine wpl_q (q_ld Try.underlying25 rfl rfl (by first | exact St.c_b hs.len | exact St.c_u hs.len | exact St.c_d hs.len | exact St.c_p hs.len | exact St.c_k hs.len)) rfl ?_
   refine wpl_q (q_pure rfl) rfl ?_
   refine wpl_t (t_pur Try.hb52 rfl fun w h => refPlace _ _ _ w (by first | exact Seen.re8 h.seenV | exact h.seenV | exact h.seenA (by first | decide | (simp only [maxLen]; omega)) (by first | with_reducible rfl | (simp only [v8s_length, v32s_length, vis_length, vns_length, v64s_length, List.length_replicate]; first | done | with_reducible assumption | omega) | (rw [v8s_length]; (first | with_reducible assumption | with_reducible exact shortF_length _ | with_reducible exact stepF_length _ _ _ | with_reducible exact sumF_length _ | with_reducible exact climbF_length _ (by first | with_reducible assumption | with_reducible exact shortF_length _ | with_reducible exact beginF_length _ _ | with_reducible exact getD_mem_len (by assumption) (by omega)) _ _ _ | with_reducible exact beginF_length _ _ | with_reducible exact chainF_length _ _ _ | with_reducible exact recF_length _ _ | with_reducible exact publicF_length _ | with_reducible exact getD_mem_len (by assumption) (by omega) | (with_reducible exact List.length_replicate))) | rfl) | exact h.seen_old (by assumption) | exact h.seen_oldL (by assumption) (by assumption) | exact h.seen_old hs.d | exact h.seen_old hs.p | exact h.seen_old hs.k | exact Seen.re8 (h.seen_fact (by repeat (first | exact List.mem_cons_self .. | apply List.mem_cons_of_mem))) | exact h.seen_fact (by repeat (first | exact List.mem_cons_self .. | apply List.mem_cons_of_mem)))) rfl (fun b15 => ?_)
   refine wpl_q (q_pure rfl) rfl ?_
   refine wpl_nil ?_
   refine ex_then ?_
   refine wpc_seq ?_
   refine wpc_seq ?_
   refine wpc_region ?_
   refine wpl_q (q_pure rfl) rfl ?_
   refine wpl_q (q_pure rfl) rfl ?_
   refine wpl_q (q_pure rfl) rfl ?_
   refine wpl_bool2 18 17 rfl rfl (fun hb18 => ?_) (fun hb18 => ?_)
   ·
    try simp only [decide_eq_true_eq] at hb18
    refine wpl_off rfl rfl rfl rfl ?_
    refine wpl_off rfl rfl rfl rfl ?_
    refine wpl_off rfl rfl rfl rfl ?_
    refine wpl_off rfl rfl rfl rfl ?_
    refine wpl_off rfl rfl rfl rfl ?_
    refine wpl_off rfl rfl rfl rfl ?_
    refine wpl_q (q_pure rfl) rfl ?_
    refine wpl_nil ?_
    refine ex_then ?_
    refine wpc_cond_t rfl ?_
    refine wpc_seq ?_
    refine wpc_region ?_
    refine wpl_q (q_pure rfl) rfl ?_
    refine wpl_q (q_pure rfl) rfl ?_
    refine wpl_nil ?_
    refine ex_then ?_
    refine wpc_ret ?_
    refine ex_then_ret ?_
    refine ret2 (.inl rfl) rfl rfl rfl ?_
    exact fun w h => ⟨by rw [th_6 hc9 (.inl hb18)], h.below⟩
   ·
    try simp only [decide_eq_false_iff_not] at hb18
    obtain ⟨hjl, hej⟩ := place_nat (Int.not_lt.1 hb18)
    refine wpl_re 6 rfl (congrArg (Value.int .i64) hej) ?_
    refine wpl_on rfl rfl ?_
    refine wpl_q (q_field Try.underlying27 rfl Try.ti25 rfl rfl _ rfl) rfl ?_
    refine wpl_on rfl rfl ?_
    refine wpl_q (q_ld Try.underlying25 rfl rfl (by first | exact St.c_b hs.len | exact St.c_u hs.len | exact St.c_d hs.len | exact St.c_p hs.len | exact St.c_k hs.len)) rfl ?_
    refine wpl_on rfl rfl ?_
    refine wpl_q (q_pure rfl) rfl ?_
    refine wpl_on rfl rfl ?_
    refine wpl_q (q_idxW Try.underlying25 Try.ti66 rfl rfl (by first | assumption | exact SV.nil | exact SV.slv (by assumption) (by omega) (by omega) | exact arv_sv (by first | decide | (simp only [maxLen]; omega))) (by first | omega | (simp only [maxLen]; omega) | (simp only [List.length_append, List.length_cons, List.length_nil, List.length_take, maxLen]; omega) | (simp only [List.length_append, List.length_cons, List.length_nil, List.length_take]; omega))) rfl ?_
    refine wpl_on rfl rfl ?_
    refine wpl_q (q_fieldPo 5 Try.underlying66 rfl Try.ti4 rfl rfl rfl) rfl ?_
    refine wpl_on rfl rfl ?_
    refine wpl_q (q_ldWF Try.underlying4 rfl rfl (fun w h => h.seen_old hs.k) (kcs_get hjl rfl)) rfl ?_
    refine wpl_q (q_pure rfl) rfl ?_
    refine wpl_nil ?_
    refine ex_then ?_
    refine wpc_cond rfl (fun hc25 => ?_) (fun hc25 => ?_)
    ·
     refine wpc_seq ?_
     refine wpc_region ?_
     refine wpl_q (q_pure rfl) rfl ?_
     refine wpl_q (q_pure rfl) rfl ?_
     refine wpl_nil ?_
     refine ex_then ?_
     refine wpc_ret ?_
     refine ex_then_ret ?_
     refine ret2 (.inl rfl) rfl rfl rfl ?_
     exact fun w h => ⟨by rw [th_6 hc9 (.inr hc25)], h.below⟩
    ·
     refine wpc_skip ?_
     refine ex_then ?_
     refine wpc_seq ?_
     refine wpc_region ?_
     refine wpl_q (q_pure rfl) rfl ?_
     refine wpl_q (q_pure rfl) rfl ?_
     refine wpl_q (q_pure rfl) rfl ?_
     refine wpl_nil ?_
     refine ex_then ?_
     refine wpc_ret ?_
     refine ret2 (.inl rfl) rfl rfl rfl ?_
     exact fun w h => ⟨by rw [th_ok hc9 (by rintro (hh | hh); exact hb18 hh; rw [hc25] at hh; cases hh)]; first | rfl | rw [← hej], h.below⟩

set_option maxRecDepth 100000 in
theorem cloneB0 (a : Option Addr) (cap : Nat) (xs : List UInt8) (w : World) (hav : Seen w.cell? (.slice a xs.length cap) xs.length 1 (v8s xs)) (hl : xs.length ≤ 2000) :
    Calls Try.prog 43 [.slice a xs.length cap].toArray w (GivesP w (fun v => SV v xs.length) (fun v => v) (fun v => [.row v xs.length 5 1 (v8s xs)]) (fun _ => [])) := by
  have sav := hav.sv
  refine enter (m := 8) (R := Mem w [] [] []) Try.func43 rfl rfl (Nat.le_of_ble_eq_true rfl) (Mem.start w) ?_
  refine wpc_seq ?_
  refine wpc_region ?_
  refine wpl_q (q_pure rfl) rfl ?_
  refine wpl_nil ?_
  refine ex_then ?_
  refine wpc_seq ?_
  refine wpc_seq ?_
  refine wpc_region ?_
  refine wpl_q (q_pure rfl) rfl ?_
  refine wpl_q (q_slNil Try.underlying24 rfl rfl (by kernel_rfl)) rfl ?_
  refine wpl_nil ?_
  refine ex_then ?_
  refine wpc_cond rfl (fun hc4 => ?_) (fun hc4 => ?_)
  ·
   have h0 := cl_nil hav hc4
   have hx0 := List.eq_nil_of_length_eq_zero h0
   subst hx0
   refine wpc_seq ?_
   refine wpc_region ?_
   refine wpl_q (q_pure rfl) rfl ?_
   refine wpl_nil ?_
   refine ex_then ?_
   refine wpc_ret ?_
   refine ex_then_ret ?_
   refine ret1 (.inl rfl) rfl rfl ?_
   exact fun w h => ⟨.slice none 0 0, SV.nil, rfl, h.below, (h.nilRow 5 1).made (by repeat (first | exact Sub.nil | exact Sub.refl _ | with_reducible refine Sub.keep ?_ | refine Sub.drop ?_)) .nil⟩
  ·
   refine wpc_skip ?_
   refine ex_then ?_
   refine wpc_seq ?_
   refine wpc_region ?_
   refine wpl_tp (t_bs0W Try.underlying24 Try.ti5) rfl (fun b5 p5 => ?_)
   refine wpl_q (q_pure rfl) rfl ?_
   refine wpl_tp (t_ap0 Try.underlying24 Try.ti5 rfl (by decide) rfl rfl (fun w h => h.seen_old hav) (v8s_one _) (by first | omega | (simp only [maxLen]; omega) | (simp only [List.length_append, List.length_cons, List.length_nil, List.length_take, maxLen]; omega) | (simp only [List.length_append, List.length_cons, List.length_nil, List.length_take]; omega)) (by first | omega | (simp only [maxLen]; omega) | (simp only [List.length_append, List.length_cons, List.length_nil, List.length_take, maxLen]; omega) | (simp only [List.length_append, List.length_cons, List.length_nil, List.length_take]; omega))) rfl (fun b7 p7 => ?_)
   refine wpl_q (q_pure rfl) rfl ?_
   refine wpl_nil ?_
   refine ex_then ?_
   refine wpc_ret ?_
   refine ret1 (.inl rfl) rfl rfl ?_
   exact fun w h => ⟨b7, p7, rfl, h.below, h.made SubC.h .nil⟩

set_option maxRecDepth 100000 in
theorem cloneK0 (a : Option Addr) (cap : Nat) (ks : List KE) (w : World) (hav : Seen w.cell? (.slice a ks.length cap) ks.length 6 (kcs ks)) (hl : ks.length ≤ 100) :
    Calls Try.prog 58 [.slice a ks.length cap].toArray w (GivesP w (fun v => SV v ks.length) (fun v => v) (fun v => [.row v ks.length 66 6 (kcs ks)]) (fun _ => [])) := by
  have sav := hav.sv
  refine enter (m := 8) (R := Mem w [] [] []) Try.func58 rfl rfl (Nat.le_of_ble_eq_true rfl) (Mem.start w) ?_
  refine wpc_seq ?_
  refine wpc_region ?_
  refine wpl_q (q_pure rfl) rfl ?_
  refine wpl_nil ?_
  refine ex_then ?_
  refine wpc_seq ?_
  refine wpc_seq ?_
  refine wpc_region ?_
  refine wpl_q (q_pure rfl) rfl ?_
  refine wpl_q (q_slNil Try.underlying25 rfl rfl (by kernel_rfl)) rfl ?_
  refine wpl_nil ?_
  refine ex_then ?_
  refine wpc_cond rfl (fun hc4 => ?_) (fun hc4 => ?_)
  ·
   have h0 := cl_nil hav hc4
   have hx0 := List.eq_nil_of_length_eq_zero h0
   subst hx0
   refine wpc_seq ?_
   refine wpc_region ?_
   refine wpl_q (q_pure rfl) rfl ?_
   refine wpl_nil ?_
   refine ex_then ?_
   refine wpc_ret ?_
   refine ex_then_ret ?_
   refine ret1 (.inl rfl) rfl rfl ?_
   exact fun w h => ⟨.slice none 0 0, SV.nil, rfl, h.below, (h.nilRow 66 6).made (by repeat (first | exact Sub.nil | exact Sub.refl _ | with_reducible refine Sub.keep ?_ | refine Sub.drop ?_)) .nil⟩
  ·
   refine wpc_skip ?_
   refine ex_then ?_
   refine wpc_seq ?_
   refine wpc_region ?_
   refine wpl_tp (t_bs0W Try.underlying25 Try.ti66) rfl (fun b5 p5 => ?_)
   refine wpl_q (q_pure rfl) rfl ?_
   refine wpl_tp (t_ap0 Try.underlying25 Try.ti66 rfl (by decide) rfl rfl (fun w h => h.seen_old hav) (kcs_one _) (by first | omega | (simp only [maxLen]; omega) | (simp only [List.length_append, List.length_cons, List.length_nil, List.length_take, maxLen]; omega) | (simp only [List.length_append, List.length_cons, List.length_nil, List.length_take]; omega)) (by first | omega | (simp only [maxLen]; omega) | (simp only [List.length_append, List.length_cons, List.length_nil, List.length_take, maxLen]; omega) | (simp only [List.length_append, List.length_cons, List.length_nil, List.length_take]; omega))) rfl (fun b7 p7 => ?_)
   refine wpl_q (q_pure rfl) rfl ?_
   refine wpl_nil ?_
   refine ex_then ?_
   refine wpc_ret ?_
   refine ret1 (.inl rfl) rfl rfl ?_
   exact fun w h => ⟨b7, p7, rfl, h.below, h.made SubC.h .nil⟩


theorem cloneB (v : Value) (xs : List UInt8) (w : World) (h : Seen w.cell? v xs.length 1 (v8s xs)) (hl : xs.length ≤ 2000) : Calls Try.prog 43 [v].toArray w (GivesP w (fun v => SV v xs.length) (fun v => v) (fun v => [.row v xs.length 5 1 (v8s xs)]) (fun _ => [])) := by
  obtain ⟨a, cap, rfl, _⟩ := h.sv
  exact cloneB0 a cap xs w h hl
theorem cloneK (v : Value) (ks : List KE) (w : World) (h : Seen w.cell? v ks.length 6 (kcs ks)) (hl : ks.length ≤ 100) : Calls Try.prog 58 [v].toArray w (GivesP w (fun v => SV v ks.length) (fun v => v) (fun v => [kRow v ks]) (fun _ => [])) := by
  obtain ⟨a, cap, rfl, _⟩ := h.sv
  exact cloneK0 a cap ks w h hl
theorem rev3 {w0 w : World} {Ln : List Nat} {a b c : Ent} {X : List Ent} {S : List Fact} (h : Mem w0 Ln (a :: b :: c :: X) S w) : Mem w0 Ln (c :: b :: a :: X) S w := h.perm ((List.reverse_perm [c, b, a]).append_right X)
abbrev V3 := Value × Value × Value
def St.sv (s : St) (x : V3) : Prop := SV x.1 s.dk.length ∧ SV x.2.1 s.pd.length ∧ SV x.2.2 s.ks.length
abbrev stV (s : St) (x : V3) : Value := .agg (s.c x.1 x.2.1 x.2.2).toArray
abbrev dRow (v : Value) (xs : List UInt8) : Ent := .row v xs.length 5 1 (v8s xs)
abbrev stE (s : St) (x : V3) : List Ent := [dRow x.1 s.dk, dRow x.2.1 s.pd, kRow x.2.2 s.ks]

set_option maxRecDepth 100000 in
theorem twin (s : St) (dv pv kv : Value) (w : World) (hs : StS w.cell? s dv pv kv)  :
    Calls Try.prog 38 [.agg (s.c dv pv kv).toArray].toArray w (GivesP w (fun x : V3 => s.sv x) (fun x => stV s x) (fun x => [dRow x.1 s.dk, dRow x.2.1 s.pd, kRow x.2.2 s.ks]) (fun _ => [])) := by
  have sdv := hs.d.sv
  have spv := hs.p.sv
  have skv := hs.k.sv
  have l1hs := hs.ld
  have l2hs := hs.lp
  have l3hs := hs.lk
  refine enter (m := 16) (R := Mem w [] [] []) Try.func38 rfl rfl (Nat.le_of_ble_eq_true rfl) (Mem.start w) ?_
  refine wpc_seq ?_
  refine wpc_region ?_
  refine wpl_t (t_box rfl (s.c dv pv kv) rfl) rfl (fun b1 => ?_)
  refine wpl_t (t_alloc Try.ti27 _ rfl) rfl (fun b2 => ?_)
  refine wpl_nil ?_
  refine ex_then ?_
  refine wpc_seq ?_
  refine wpc_draw 10 (by kernel_rfl) (fun _ h => h.drew) ?_
  refine wpd_p 0 rfl (by kernel_rfl) trivial (q_field Try.underlying27 rfl Try.ti24 rfl rfl _ rfl) rfl sk0 ?_
  refine wpd_q 1 rfl (by kernel_rfl) trivial (q_ld Try.underlying24 rfl rfl (by first | exact St.c_b hs.len | exact St.c_u hs.len | exact St.c_d hs.len | exact St.c_p hs.len | exact St.c_k hs.len)) rfl (fun _ h => h) ?_
  refine wpd_p 3 rfl (by kernel_rfl) trivial (q_field Try.underlying27 rfl Try.ti24 rfl rfl _ rfl) rfl sk0 ?_
  refine wpd_q 4 rfl (by kernel_rfl) trivial (q_ld Try.underlying24 rfl rfl (by first | exact St.c_b hs.len | exact St.c_u hs.len | exact St.c_d hs.len | exact St.c_p hs.len | exact St.c_k hs.len)) rfl (fun _ h => h) ?_
  refine wpd_p 6 rfl (by kernel_rfl) trivial (q_field Try.underlying27 rfl Try.ti25 rfl rfl _ rfl) rfl sk0 ?_
  refine wpd_q 7 rfl (by kernel_rfl) trivial (q_ld Try.underlying25 rfl rfl (by first | exact St.c_b hs.len | exact St.c_u hs.len | exact St.c_d hs.len | exact St.c_p hs.len | exact St.c_k hs.len)) rfl (fun _ h => h) ?_
  refine wpd_tp 2 rfl (by kernel_rfl) trivial (t_callP1 Try.hb43 rfl fun w h => cloneB _ _ w (by first | exact Seen.re8 h.seenV | exact h.seenV | exact h.seenA (by first | decide | (simp only [maxLen]; omega)) (by first | with_reducible rfl | (simp only [v8s_length, v32s_length, vis_length, vns_length, v64s_length, List.length_replicate]; first | done | with_reducible assumption | omega) | (rw [v8s_length]; (first | with_reducible assumption | with_reducible exact shortF_length _ | with_reducible exact stepF_length _ _ _ | with_reducible exact sumF_length _ | with_reducible exact climbF_length _ (by first | with_reducible assumption | with_reducible exact shortF_length _ | with_reducible exact beginF_length _ _ | with_reducible exact getD_mem_len (by assumption) (by omega)) _ _ _ | with_reducible exact beginF_length _ _ | with_reducible exact chainF_length _ _ _ | with_reducible exact recF_length _ _ | with_reducible exact publicF_length _ | with_reducible exact getD_mem_len (by assumption) (by omega) | (with_reducible exact List.length_replicate))) | rfl) | exact h.seen_old (by assumption) | exact h.seen_oldL (by assumption) (by assumption) | exact h.seen_old hs.d | exact h.seen_old hs.p | exact h.seen_old hs.k | exact Seen.re8 (h.seen_fact (by repeat (first | exact List.mem_cons_self .. | apply List.mem_cons_of_mem))) | exact h.seen_fact (by repeat (first | exact List.mem_cons_self .. | apply List.mem_cons_of_mem))) (by omega)) rfl (fun _ => (fun w h => .inr (h.sub SubC.h SubC.h))) (fun b5 p5 => ?_)
  refine wpd_p 9 rfl (by kernel_rfl) trivial (q_field Try.underlying27 rfl Try.ti24 rfl rfl _ rfl) rfl (fun w h => .inr (h.sub SubC.h SubC.h)) ?_
  refine wpd_tp 5 rfl (by kernel_rfl) trivial (t_callP1 Try.hb43 rfl fun w h => cloneB _ _ w (by first | exact Seen.re8 h.seenV | exact h.seenV | exact h.seenA (by first | decide | (simp only [maxLen]; omega)) (by first | with_reducible rfl | (simp only [v8s_length, v32s_length, vis_length, vns_length, v64s_length, List.length_replicate]; first | done | with_reducible assumption | omega) | (rw [v8s_length]; (first | with_reducible assumption | with_reducible exact shortF_length _ | with_reducible exact stepF_length _ _ _ | with_reducible exact sumF_length _ | with_reducible exact climbF_length _ (by first | with_reducible assumption | with_reducible exact shortF_length _ | with_reducible exact beginF_length _ _ | with_reducible exact getD_mem_len (by assumption) (by omega)) _ _ _ | with_reducible exact beginF_length _ _ | with_reducible exact chainF_length _ _ _ | with_reducible exact recF_length _ _ | with_reducible exact publicF_length _ | with_reducible exact getD_mem_len (by assumption) (by omega) | (with_reducible exact List.length_replicate))) | rfl) | exact h.seen_old (by assumption) | exact h.seen_oldL (by assumption) (by assumption) | exact h.seen_old hs.d | exact h.seen_old hs.p | exact h.seen_old hs.k | exact Seen.re8 (h.seen_fact (by repeat (first | exact List.mem_cons_self .. | apply List.mem_cons_of_mem))) | exact h.seen_fact (by repeat (first | exact List.mem_cons_self .. | apply List.mem_cons_of_mem))) (by omega)) rfl (fun _ => (fun w h => .inr (h.sub SubC.h SubC.h))) (fun b8 p8 => ?_)
  refine wpd_tp 8 rfl (by kernel_rfl) trivial (t_callP1 Try.hb58 rfl fun w h => cloneK _ _ w (by first | exact Seen.re8 h.seenV | exact h.seenV | exact h.seenA (by first | decide | (simp only [maxLen]; omega)) (by first | with_reducible rfl | (simp only [v8s_length, v32s_length, vis_length, vns_length, v64s_length, List.length_replicate]; first | done | with_reducible assumption | omega) | (rw [v8s_length]; (first | with_reducible assumption | with_reducible exact shortF_length _ | with_reducible exact stepF_length _ _ _ | with_reducible exact sumF_length _ | with_reducible exact climbF_length _ (by first | with_reducible assumption | with_reducible exact shortF_length _ | with_reducible exact beginF_length _ _ | with_reducible exact getD_mem_len (by assumption) (by omega)) _ _ _ | with_reducible exact beginF_length _ _ | with_reducible exact chainF_length _ _ _ | with_reducible exact recF_length _ _ | with_reducible exact publicF_length _ | with_reducible exact getD_mem_len (by assumption) (by omega) | (with_reducible exact List.length_replicate))) | rfl) | exact h.seen_old (by assumption) | exact h.seen_oldL (by assumption) (by assumption) | exact h.seen_old hs.d | exact h.seen_old hs.p | exact h.seen_old hs.k | exact Seen.re8 (h.seen_fact (by repeat (first | exact List.mem_cons_self .. | apply List.mem_cons_of_mem))) | exact h.seen_fact (by repeat (first | exact List.mem_cons_self .. | apply List.mem_cons_of_mem))) (by omega)) rfl (fun _ => (fun w h => .inr (h.sub SubC.h SubC.h))) (fun b11 p11 => ?_)
  refine wpd_t0 10 rfl (by kernel_rfl) trivial (t_st1 Try.ti24 rfl rfl (SV.one (by first | assumption | exact SV.nil | exact SV.slv (by assumption) (by omega) (by omega) | exact arv_sv (by first | decide | (simp only [maxLen]; omega)))) (by rw [St.c_length hs.len]; decide) _ (by first | exact St.s_d hs.len _ | exact St.s_p hs.len _ | exact St.s_k hs.len _)) (fun _ => skk rfl) (fun _ => ?_)
  refine wpd_p 11 rfl (by kernel_rfl) trivial (q_field Try.underlying27 rfl Try.ti24 rfl rfl _ rfl) rfl (skk rfl) ?_
  refine wpd_t0 12 rfl (by kernel_rfl) trivial (t_st1 Try.ti24 rfl rfl (SV.one (by first | assumption | exact SV.nil | exact SV.slv (by assumption) (by omega) (by omega) | exact arv_sv (by first | decide | (simp only [maxLen]; omega)))) (by rw [St.c_length hs.len]; decide) _ (by first | exact St.s_d hs.len _ | exact St.s_p hs.len _ | exact St.s_k hs.len _)) (fun _ => skk rfl) (fun _ => ?_)
  refine wpd_p 13 rfl (by kernel_rfl) trivial (q_field Try.underlying27 rfl Try.ti25 rfl rfl _ rfl) rfl (skk rfl) ?_
  refine wpd_t0 14 rfl (by kernel_rfl) trivial (t_st1 Try.ti25 rfl rfl (SV.one (by first | assumption | exact SV.nil | exact SV.slv (by assumption) (by omega) (by omega) | exact arv_sv (by first | decide | (simp only [maxLen]; omega)))) (by rw [St.c_length hs.len]; decide) _ (by first | exact St.s_d hs.len _ | exact St.s_p hs.len _ | exact St.s_k hs.len _)) (fun _ => skk rfl) (fun _ => ?_)
  refine wpd_done (by kernel_rfl) ?_
  refine ex_then ?_
  refine wpc_seq ?_
  refine wpc_region ?_
  refine wpl_q (q_ldN Try.underlying27 rfl Try.ti27 rfl (St.c_length hs.len)) rfl ?_
  refine wpl_t0 (t_stA Try.ti27 rfl rfl (St.c_length hs.len) (St.c_one p5 p8 p11) rfl) (fun _ => ?_)
  refine wpl_nil ?_
  refine ex_then ?_
  refine wpc_ret ?_
  refine retv1 (.inl rfl) rfl (rv_agg Try.underlying27 rfl Try.ti27 rfl (fun w h => h.atB) (St.c_length hs.len)) ?_
  exact fun w h => ⟨(b5, b8, b11), ⟨p5, p8, p11⟩, rfl, h.below, (rev3 h).made SubC.h .nil⟩

end Go.Proofs.Ytoaeklbenmlooaa
