/- Keys created. -/
import Derived.Test.YtoaeklbenmlooaaKP
namespace Go.Proofs.Ytoaeklbenmlooaa
set_option linter.unusedSimpArgs false
set_option linter.unusedVariables false
open Go Go.PL Go.RowKit

theorem kRow_snoc (v : Value) (ks : List KE) (k : KE) : kRow v (ks ++ [k]) = .row v (ks.length + 1) 66 6 (kcs (ks ++ [k])) := by rw [kRow, List.length_append]; rfl
theorem kRow_set (v : Value) (ks : List KE) (j : Nat) (k : KE) : kRow v (ks.set j k) = .row v ks.length 66 6 (kcs (ks.set j k)) := by rw [kRow, List.length_set]
theorem writeF_len {s : St} {bs : List UInt8} (h : s.ms.length = 32) : (writeF s bs).1.ms.length = 32 := by
  unfold writeF; split
  · rfl
  · exact h
def addK (s : St) (id : UInt32) (ht : Int) : St := { s with ks := s.ks ++ [⟨id, ht, 0, 0, 0, false⟩] }
def createF (s : St) (id : UInt32) (ht : Int) : St × Int :=
  if ¬ upF s true = 0 then (St.z, upF s true) else if ht < 0 ∨ 4 < ht then (St.z, 2) else if 0 ≤ placeF s.ks id then (St.z, 14) else if 8 ≤ s.ks.length then (St.z, 4)
  else writeF (addK s id ht) (recB ⟨1, of8 ht, 0, id⟩)
theorem createF_len {s : St} {id : UInt32} {ht : Int} (h : s.ms.length = 32) : (createF s id ht).1.ms.length = 32 := by
  unfold createF
  split
  · rfl
  · split
    · rfl
    · split
      · rfl
      · split
        · rfl
        · exact writeF_len h
theorem cr1 {s : St} {id : UInt32} {ht : Int} (h : ¬ upF s true = 0) : createF s id ht = (St.z, upF s true) := if_pos h
theorem cr2 {s : St} {id : UInt32} {ht : Int} (h : upF s true = 0) (h2 : ht < 0 ∨ 4 < ht) : createF s id ht = (St.z, 2) := by unfold createF; rw [if_neg (fun hh => hh h), if_pos h2]
theorem cr3 {s : St} {id : UInt32} {ht : Int} (h : upF s true = 0) (h2 : ¬ (ht < 0 ∨ 4 < ht)) (h3 : 0 ≤ placeF s.ks id) : createF s id ht = (St.z, 14) := by unfold createF; rw [if_neg (fun hh => hh h), if_neg h2, if_pos h3]
theorem cr4 {s : St} {id : UInt32} {ht : Int} (h : upF s true = 0) (h2 : ¬ (ht < 0 ∨ 4 < ht)) (h3 : ¬ 0 ≤ placeF s.ks id) (h4 : 8 ≤ s.ks.length) : createF s id ht = (St.z, 4) := by unfold createF; rw [if_neg (fun hh => hh h), if_neg h2, if_neg h3, if_pos h4]
theorem cr5 {s : St} {id : UInt32} {ht : Int} (h : upF s true = 0) (h2 : ¬ (ht < 0 ∨ 4 < ht)) (h3 : ¬ 0 ≤ placeF s.ks id) (h4 : ¬ 8 ≤ s.ks.length) : createF s id ht = writeF (addK s id ht) (recB ⟨1, of8 ht, 0, id⟩) := by unfold createF; rw [if_neg (fun hh => hh h), if_neg h2, if_neg h3, if_neg h4]
theorem key_ok {s : St} (h : upF s true = 0) {j : Nat} (hj : j < s.ks.length) : 0 ≤ (s.ks.getD j KE.z).ht ∧ (s.ks.getD j KE.z).ht ≤ 4 ∧ 0 ≤ (s.ks.getD j KE.z).ak ∧ (s.ks.getD j KE.z).ak ≤ 16 := by
  obtain ⟨h1, h2⟩ := upF_ok h
  have hu := h1.2.2.2.2 h2
  obtain ⟨_, e2, e3, _⟩ := okb (hu.2.2.2 j hj)
  rw [e2, e3]
  exact (scanR_ok _).get (by rw [hu.2.2.1]; exact hj)
theorem there_ok {s : St} {id : UInt32} (h : (thereF s id).2 = 0) : upF s true = 0 ∧ ∃ j, j < s.ks.length ∧ placeF s.ks id = ((j : Nat) : Int) ∧ thereF s id = (((j : Nat) : Int), 0) := by
  by_cases hu : upF s true = 0
  · refine ⟨hu, ?_⟩
    by_cases hc : placeF s.ks id < 0 ∨ (s.ks.getD (placeF s.ks id).toNat KE.z).dr = true
    · rw [th_6 hu hc] at h; cases h
    · rw [th_ok hu hc]
      rcases idxF_spec (isId id) KE.z s.ks with ⟨e, _⟩ | ⟨j, h1, h2, _⟩
      · exact absurd (.inl (show placeF s.ks id < 0 by rw [placeF, e]; decide)) hc
      · exact ⟨j, h1, h2, by rw [placeF, h2]⟩
  · rw [th_0 hu] at h; exact absurd h hu
abbrev kAt (s : St) (id : UInt32) : KE := s.ks.getD (placeF s.ks id).toNat KE.z
def putK (s : St) (id : UInt32) (k : KE) : St := { s with ks := s.ks.set (placeF s.ks id).toNat k }
def newA (s : St) (k : KE) : Nat := min (k.ak.toNat + s.bt.toNat) (2 ^ k.ht.toNat)
def reserveF (s : St) (id : UInt32) : St × Int :=
  if ¬ (thereF s id).2 = 0 then (St.z, (thereF s id).2) else if (kAt s id).ak = ((2 ^ (kAt s id).ht.toNat : Nat) : Int) then (St.z, 36)
  else writeF (putK s id { kAt s id with ak := (newA s (kAt s id) : Nat) }) (recB ⟨2, of8 ((kAt s id).ht.toNat : Nat), of16 (newA s (kAt s id) : Nat), id⟩)
def dropF (s : St) (id : UInt32) : St × Int :=
  if ¬ (thereF s id).2 = 0 then (St.z, (thereF s id).2)
  else writeF (putK s id { kAt s id with dr := true }) (recB ⟨3, of8 ((kAt s id).ht.toNat : Nat), of16 ((kAt s id).ak.toNat : Nat), id⟩)

set_option maxRecDepth 100000 in
theorem create (s : St) (dv pv kv : Value) (id : UInt32) (ht : Int) (w : World) (hs : StS w.cell? s dv pv kv)  :
    Calls Try.prog 21 [.agg (s.c dv pv kv).toArray, .int .u32 id.toNat, .int .i64 ht].toArray w (GivesP w (fun x : V3 => (createF s id ht).1.sv x) (fun x => .tuple #[stV (createF s id ht).1 x, .int .i64 (createF s id ht).2]) (fun x => [dRow x.1 (createF s id ht).1.dk, dRow x.2.1 (createF s id ht).1.pd, kRow x.2.2 (createF s id ht).1.ks]) (fun _ => [])) := by
  have sdv := hs.d.sv
  have spv := hs.p.sv
  have skv := hs.k.sv
  have l1hs := hs.ld
  have l2hs := hs.lp
  have l3hs := hs.lk
  refine enter (m := 56) (R := Mem w [] [] []) Try.func21 rfl rfl (Nat.le_of_ble_eq_true rfl) (Mem.start w) ?_
  refine wpc_seq ?_
  refine wpc_region ?_
  refine wpl_t (t_box rfl (s.c dv pv kv) rfl) rfl (fun b3 => ?_)
  refine wpl_t (t_alloc Try.ti27 (St.z.c nl nl nl) rfl) rfl (fun b6 => ?_)
  refine wpl_q (q_pure rfl) rfl ?_
  refine wpl_nil ?_
  refine ex_then ?_
  refine wpc_seq ?_
  refine wpc_region ?_
  refine wpl_q (q_ldN Try.underlying27 rfl Try.ti27 rfl (St.c_length hs.len)) rfl ?_
  refine wpl_t (t_pur Try.hb37 rfl fun w h => up_ _ _ _ _ _ w (by first | exact StS.old h hs | exact ⟨hs.len, h.seenV, h.seenV, h.seenV, by omega, by omega, by omega⟩)) rfl (fun b10 => ?_)
  refine wpl_q (q_pure rfl) rfl ?_
  refine wpl_nil ?_
  refine ex_then ?_
  refine wpc_seq ?_
  refine wpc_block ?_
  refine wpc_seq ?_
  refine wpc_region ?_
  refine wpl_q (q_pure rfl) rfl ?_
  refine wpl_q (q_pure rfl) rfl ?_
  refine wpl_q (q_pure rfl) rfl ?_
  refine wpl_nil ?_
  refine ex_then ?_
  refine wpc_cond rfl (fun hc11 => ?_) (fun hc11 => ?_)
  ·
   simp only [bne_iff_ne, ne_eq] at hc11
   refine wpc_seq ?_
   refine wpc_region ?_
   refine wpl_q (q_build (cs := St.z.c nl nl nl) rfl built_st0) rfl ?_
   refine wpl_q (q_pure rfl) rfl ?_
   refine wpl_t0 (t_stA Try.ti27 rfl rfl (St.c_length (by first | exact hs.len | rfl)) (by first | exact St.c_one SV.nil SV.nil SV.nil) (by first | exact St.c_length hs.len | exact St.c_length rfl)) (fun _ => ?_)
   refine wpl_q (q_pure rfl) rfl ?_
   refine wpl_nil ?_
   refine ex_then ?_
   refine wpc_ret ?_
   refine ex_block_ret ?_
   refine ex_then_ret ?_
   refine retv2 (.inl rfl) rfl (rv_agg Try.underlying27 rfl Try.ti27 rfl (fun w h => h.atB) (St.c_length (by first | rfl | exact writeF_len hs.len))) (rv_tmp rfl) ?_
   exact fun w h => ⟨(nl, nl, nl), by rw [cr1 hc11]; exact zSV, by rw [cr1 hc11]; first | done | rfl, h.below, by rw [cr1 hc11]; exact (zRows h).made SubC.h .nil⟩
  ·
   simp only [bne_eq_false_iff_eq] at hc11
   refine wpc_seq ?_
   refine wpc_region ?_
   refine wpl_q (q_pure rfl) rfl ?_
   refine wpl_q (q_pure rfl) rfl ?_
   refine wpl_q (q_pure rfl) rfl ?_
   refine wpl_bool2 19 18 rfl rfl (fun hb19 => ?_) (fun hb19 => ?_)
   ·
    try simp only [decide_eq_true_eq] at hb19
    refine wpl_off rfl rfl rfl rfl ?_
    refine wpl_off rfl rfl rfl rfl ?_
    refine wpl_q (q_pure rfl) rfl ?_
    refine wpl_q (q_pure rfl) rfl ?_
    refine wpl_nil ?_
    refine ex_then ?_
    refine wpc_cond_t rfl ?_
    refine wpc_seq ?_
    refine wpc_region ?_
    refine wpl_q (q_build (cs := St.z.c nl nl nl) rfl built_st0) rfl ?_
    refine wpl_t0 (t_stA Try.ti27 rfl rfl (St.c_length (by first | exact hs.len | rfl)) (by first | exact St.c_one SV.nil SV.nil SV.nil) (by first | exact St.c_length hs.len | exact St.c_length rfl)) (fun _ => ?_)
    refine wpl_q (q_pure rfl) rfl ?_
    refine wpl_nil ?_
    refine ex_then ?_
    refine wpc_ret ?_
    refine ex_block_ret ?_
    refine ex_then_ret ?_
    refine retv2 (.inl rfl) rfl (rv_agg Try.underlying27 rfl Try.ti27 rfl (fun w h => h.atB) (St.c_length (by first | rfl | exact writeF_len hs.len))) (rv_tmp rfl) ?_
    exact fun w h => ⟨(nl, nl, nl), by rw [cr2 hc11 (.inl hb19)]; exact zSV, by rw [cr2 hc11 (.inl hb19)]; first | done | rfl, h.below, by rw [cr2 hc11 (.inl hb19)]; exact (zRows h).made SubC.h .nil⟩
   ·
    try simp only [decide_eq_false_iff_not] at hb19
    refine wpl_on rfl rfl ?_
    refine wpl_q (q_pure rfl) rfl ?_
    refine wpl_on rfl rfl ?_
    refine wpl_q (q_pure rfl) rfl ?_
    refine wpl_q (q_pure rfl) rfl ?_
    refine wpl_q (q_pure rfl) rfl ?_
    refine wpl_nil ?_
    refine ex_then ?_
    refine wpc_cond rfl (fun hc16 => ?_) (fun hc16 => ?_)
    ·
     try simp only [decide_eq_true_eq] at hc16
     refine wpc_seq ?_
     refine wpc_region ?_
     refine wpl_q (q_build (cs := St.z.c nl nl nl) rfl built_st0) rfl ?_
     refine wpl_t0 (t_stA Try.ti27 rfl rfl (St.c_length (by first | exact hs.len | rfl)) (by first | exact St.c_one SV.nil SV.nil SV.nil) (by first | exact St.c_length hs.len | exact St.c_length rfl)) (fun _ => ?_)
     refine wpl_q (q_pure rfl) rfl ?_
     refine wpl_nil ?_
     refine ex_then ?_
     refine wpc_ret ?_
     refine ex_block_ret ?_
     refine ex_then_ret ?_
     refine retv2 (.inl rfl) rfl (rv_agg Try.underlying27 rfl Try.ti27 rfl (fun w h => h.atB) (St.c_length (by first | rfl | exact writeF_len hs.len))) (rv_tmp rfl) ?_
     exact fun w h => ⟨(nl, nl, nl), by rw [cr2 hc11 (.inr hc16)]; exact zSV, by rw [cr2 hc11 (.inr hc16)]; first | done | rfl, h.below, by rw [cr2 hc11 (.inr hc16)]; exact (zRows h).made SubC.h .nil⟩
    ·
     simp only [decide_eq_false_iff_not] at hc16
     refine wpc_seq ?_
     refine wpc_region ?_
     refine wpl_q (q_field Try.underlying27 rfl Try.ti25 rfl rfl _ rfl) rfl ?_
     refine wpl_q (q_ld Try.underlying25 rfl rfl (by first | exact St.c_b hs.len | exact St.c_u hs.len | exact St.c_d hs.len | exact St.c_p hs.len | exact St.c_k hs.len)) rfl ?_
     refine wpl_q (q_pure rfl) rfl ?_
     refine wpl_t (t_pur Try.hb49 rfl fun w h => place _ _ _ w (by first | exact Seen.re8 h.seenV | exact h.seenV | exact h.seenA (by first | decide | (simp only [maxLen]; omega)) (by first | with_reducible rfl | (simp only [v8s_length, v32s_length, vis_length, vns_length, v64s_length, List.length_replicate]; first | done | with_reducible assumption | omega) | (rw [v8s_length]; (first | with_reducible assumption | with_reducible exact shortF_length _ | with_reducible exact stepF_length _ _ _ | with_reducible exact sumF_length _ | with_reducible exact climbF_length _ (by first | with_reducible assumption | with_reducible exact shortF_length _ | with_reducible exact beginF_length _ _ | with_reducible exact getD_mem_len (by assumption) (by omega)) _ _ _ | with_reducible exact beginF_length _ _ | with_reducible exact chainF_length _ _ _ | with_reducible exact recF_length _ _ | with_reducible exact publicF_length _ | with_reducible exact getD_mem_len (by assumption) (by omega) | (with_reducible exact List.length_replicate))) | rfl) | exact h.seen_old (by assumption) | exact h.seen_oldL (by assumption) (by assumption) | exact h.seen_old hs.d | exact h.seen_old hs.p | exact h.seen_old hs.k | exact Seen.re8 (h.seen_fact (by repeat (first | exact List.mem_cons_self .. | apply List.mem_cons_of_mem))) | exact h.seen_fact (by repeat (first | exact List.mem_cons_self .. | apply List.mem_cons_of_mem)))) rfl (fun b28 => ?_)
     refine wpl_q (q_pure rfl) rfl ?_
     refine wpl_q (q_pure rfl) rfl ?_
     refine wpl_nil ?_
     refine ex_then ?_
     refine wpc_cond rfl (fun hc24 => ?_) (fun hc24 => ?_)
     ·
      simp only [decide_eq_true_eq, ge_iff_le] at hc24
      refine wpc_seq ?_
      refine wpc_region ?_
      refine wpl_q (q_build (cs := St.z.c nl nl nl) rfl built_st0) rfl ?_
      refine wpl_t0 (t_stA Try.ti27 rfl rfl (St.c_length (by first | exact hs.len | rfl)) (by first | exact St.c_one SV.nil SV.nil SV.nil) (by first | exact St.c_length hs.len | exact St.c_length rfl)) (fun _ => ?_)
      refine wpl_q (q_pure rfl) rfl ?_
      refine wpl_nil ?_
      refine ex_then ?_
      refine wpc_ret ?_
      refine ex_block_ret ?_
      refine ex_then_ret ?_
      refine retv2 (.inl rfl) rfl (rv_agg Try.underlying27 rfl Try.ti27 rfl (fun w h => h.atB) (St.c_length (by first | rfl | exact writeF_len hs.len))) (rv_tmp rfl) ?_
      exact fun w h => ⟨(nl, nl, nl), by rw [cr3 hc11 (by omega) hc24]; exact zSV, by rw [cr3 hc11 (by omega) hc24]; first | done | rfl, h.below, by rw [cr3 hc11 (by omega) hc24]; exact (zRows h).made SubC.h .nil⟩
     ·
      simp only [decide_eq_false_iff_not, ge_iff_le] at hc24
      refine wpc_seq ?_
      refine wpc_region ?_
      refine wpl_q (q_field Try.underlying27 rfl Try.ti25 rfl rfl _ rfl) rfl ?_
      refine wpl_q (q_ld Try.underlying25 rfl rfl (by first | exact St.c_b hs.len | exact St.c_u hs.len | exact St.c_d hs.len | exact St.c_p hs.len | exact St.c_k hs.len)) rfl ?_
      refine wpl_q (q_lenW Try.underlying25 rfl (by first | assumption | exact SV.nil | exact SV.slv (by assumption) (by omega) (by omega) | exact arv_sv (by first | decide | (simp only [maxLen]; omega)))) rfl ?_
      refine wpl_q (q_pure rfl) rfl ?_
      refine wpl_q (q_pure rfl) rfl ?_
      refine wpl_nil ?_
      refine ex_then ?_
      refine wpc_cond rfl (fun hc31 => ?_) (fun hc31 => ?_)
      ·
       simp only [decide_eq_true_eq, ge_iff_le] at hc31
       refine wpc_seq ?_
       refine wpc_region ?_
       refine wpl_q (q_build (cs := St.z.c nl nl nl) rfl built_st0) rfl ?_
       refine wpl_t0 (t_stA Try.ti27 rfl rfl (St.c_length (by first | exact hs.len | rfl)) (by first | exact St.c_one SV.nil SV.nil SV.nil) (by first | exact St.c_length hs.len | exact St.c_length rfl)) (fun _ => ?_)
       refine wpl_q (q_pure rfl) rfl ?_
       refine wpl_nil ?_
       refine ex_then ?_
       refine wpc_ret ?_
       refine ex_block_ret ?_
       refine ex_then_ret ?_
       refine retv2 (.inl rfl) rfl (rv_agg Try.underlying27 rfl Try.ti27 rfl (fun w h => h.atB) (St.c_length (by first | rfl | exact writeF_len hs.len))) (rv_tmp rfl) ?_
       exact fun w h => ⟨(nl, nl, nl), by rw [cr4 hc11 (by omega) hc24 (by omega)]; exact zSV, by rw [cr4 hc11 (by omega) hc24 (by omega)]; first | done | rfl, h.below, by rw [cr4 hc11 (by omega) hc24 (by omega)]; exact (zRows h).made SubC.h .nil⟩
      ·
       simp only [decide_eq_false_iff_not, ge_iff_le] at hc31
       have hcr := cr5 hc11 (show ¬ (ht < 0 ∨ 4 < ht) by omega) hc24 (by omega)
       have hht0 : 0 ≤ ht := by omega
       have hht4 : ht ≤ 4 := by omega
       obtain ⟨n, rfl⟩ := Int.eq_ofNat_of_zero_le hht0
       refine wpc_skip ?_
       refine ex_block ?_
       refine ex_then ?_
       refine wpc_seq ?_
       refine wpc_region ?_
       refine wpl_q (q_ldN Try.underlying27 rfl Try.ti27 rfl (St.c_length hs.len)) rfl ?_
       refine wpl_tp (t_callP3 Try.hb38 rfl fun w h => twin s dv pv kv w (by first | exact StS.old h hs | exact ⟨hs.len, h.seenV, h.seenV, h.seenV, by omega, by omega, by omega⟩)) rfl (fun b38 p38 => ?_)
       refine wpl_t0 (t_stA Try.ti27 rfl rfl (St.c_length (by first | exact hs.len | rfl)) (by first | exact St.c_one SV.nil SV.nil SV.nil | exact St.c_one p38.1 p38.2.1 p38.2.2) (by first | exact St.c_length hs.len | exact St.c_length rfl)) (fun _ => ?_)
       refine wpl_nil ?_
       refine ex_then ?_
       refine wpc_seq ?_
       refine wpc_region ?_
       refine wpl_q (q_field Try.underlying27 rfl Try.ti25 rfl rfl _ rfl) rfl ?_
       refine wpl_q (q_ld Try.underlying25 rfl rfl (by first | exact St.c_b hs.len | exact St.c_u hs.len | exact St.c_d hs.len | exact St.c_p hs.len | exact St.c_k hs.len)) rfl ?_
       refine wpl_q (q_pure rfl) rfl ?_
       refine wpl_q (q_pure rfl) rfl ?_
       refine wpl_q (q_build (cs := (KE.mk id ((n : Nat) : Int) 0 0 0 false).c) rfl (built_key id ((n : Nat) : Int))) rfl ?_
       refine wpl_tp (t_bsG [.agg (KE.mk id ((n : Nat) : Int) 0 0 0 false).c.toArray] (KE.mk id ((n : Nat) : Int) 0 0 0 false).c Try.underlying25 Try.ti66 rfl (by decide) rfl (by decide) (by decide) rfl (by intro v hv; rw [List.mem_singleton] at hv; subst hv; rfl) (List.append_nil _)) rfl (fun b44 p44 => ?_)
       refine wpl_tp (t_apW Try.underlying25 Try.ti66 rfl (by decide) rfl rfl (fun w h => by first | exact h.seenV | exact h.seenA (by first | decide | (simp only [maxLen]; omega)) (by first | with_reducible rfl | (simp only [v8s_length, v32s_length, vis_length, vns_length, v64s_length, List.length_replicate]; first | done | with_reducible assumption | omega) | (rw [v8s_length]; (first | with_reducible assumption | with_reducible exact shortF_length _ | with_reducible exact stepF_length _ _ _ | with_reducible exact sumF_length _ | with_reducible exact climbF_length _ (by first | with_reducible assumption | with_reducible exact shortF_length _ | with_reducible exact beginF_length _ _ | with_reducible exact getD_mem_len (by assumption) (by omega)) _ _ _ | with_reducible exact beginF_length _ _ | with_reducible exact chainF_length _ _ _ | with_reducible exact recF_length _ _ | with_reducible exact publicF_length _ | with_reducible exact getD_mem_len (by assumption) (by omega) | (with_reducible exact List.length_replicate))) | rfl) | exact h.seen_old (by assumption) | exact h.seen_oldL (by assumption) (by assumption) | exact h.seen_fact (by repeat (first | exact List.mem_cons_self .. | apply List.mem_cons_of_mem))) (ke_one _) (by first | omega | (simp only [maxLen]; omega) | (simp only [List.length_append, List.length_cons, List.length_nil, List.length_take, maxLen]; omega) | (simp only [List.length_append, List.length_cons, List.length_nil, List.length_take]; omega)) (by first | omega | (simp only [maxLen]; omega) | (simp only [List.length_append, List.length_cons, List.length_nil, List.length_take, maxLen]; omega) | (simp only [List.length_append, List.length_cons, List.length_nil, List.length_take]; omega)) (kcs (s.ks ++ [(KE.mk id ((n : Nat) : Int) 0 0 0 false)])) (kcs_snoc _ _)) rfl (fun b45 p45 => ?_)
       refine wpl_q (q_field Try.underlying27 rfl Try.ti25 rfl rfl _ rfl) rfl ?_
       refine wpl_t0 (t_st1 Try.ti25 rfl rfl (SV.one (by first | assumption | exact SV.nil | exact SV.slv (by assumption) (by omega) (by omega) | exact arv_sv (by first | decide | (simp only [maxLen]; omega)))) (St.c_lt hs.len (by decide)) _ (by first | exact St.s_d hs.len _ | exact St.s_p hs.len _ | exact St.s_k hs.len _)) (fun _ => ?_)
       refine wpl_nil ?_
       refine ex_then ?_
       refine wpc_seq ?_
       refine wpc_region ?_
       refine wpl_q (q_ldN Try.underlying27 rfl Try.ti27 rfl (St.c_length hs.len)) rfl ?_
       refine wpl_q (q_pure rfl) rfl ?_
       refine wpl_q (q8_conv Try.underlying3 Try.underlying5 rfl) rfl ?_
       refine wpl_q (q_pure rfl) rfl ?_
       refine wpl_q (q_build (cs := (Rec.mk 1 (of8 ((n : Nat) : Int)) 0 id).c) rfl (built_rec (Rec.mk 1 (of8 ((n : Nat) : Int)) 0 id))) rfl ?_
       refine wpl_q (q_fn (us := [.agg (Rec.mk 1 (of8 ((n : Nat) : Int)) 0 id).c.toArray]) (vs := []) rfl rfl) rfl ?_
       refine wpl_tp (t_callF [dRow b38.1 s.dk, dRow b38.2.1 s.pd, kRow b45 (s.ks ++ [(KE.mk id ((n : Nat) : Int) 0 0 0 false)])] [.blk b6 27 (St.z.c nl nl nl), .blk b3 27 (s.c b38.1 b38.2.1 b45)] (fun x => [dRow x.1 (writeF (addK s id ((n : Nat) : Int)) (recB (Rec.mk 1 (of8 ((n : Nat) : Int)) 0 id))).1.dk, dRow x.2.1 (writeF (addK s id ((n : Nat) : Int)) (recB (Rec.mk 1 (of8 ((n : Nat) : Int)) 0 id))).1.pd, kRow x.2.2 (writeF (addK s id ((n : Nat) : Int)) (recB (Rec.mk 1 (of8 ((n : Nat) : Int)) 0 id))).1.ks, .blk b6 27 (St.z.c nl nl nl), .blk b3 27 (s.c b38.1 b38.2.1 b45)]) (by rw [kRow_snoc]; exact (by repeat (first | exact Sub.nil | exact Sub.refl _ | with_reducible refine Sub.keep ?_ | refine Sub.drop ?_))) (fun _ => rfl) Try.hb50 rfl fun w h h2 => write_ (addK s id ((n : Nat) : Int)) b38.1 b38.2.1 b45 (Rec.mk 1 (of8 ((n : Nat) : Int)) 0 id) w h2 hs.len ⟨p38.1, p38.2.1, by show SV b45 (s.ks ++ [(KE.mk id ((n : Nat) : Int) 0 0 0 false)]).length; rw [List.length_append]; exact p45⟩ hs.ld hs.lp) rfl (fun b53 p53 => ?_)
       refine wpl_q (q_pure rfl) rfl ?_
       refine wpl_q (q_pure rfl) rfl ?_
       refine wpl_t0 (t_stA Try.ti27 rfl rfl (St.c_length (writeF_len hs.len)) (by first | exact St.c_one SV.nil SV.nil SV.nil | exact St.c_one p53.1 p53.2.1 p53.2.2) (by first | exact St.c_length hs.len | exact St.c_length rfl)) (fun _ => ?_)
       refine wpl_q (q_pure rfl) rfl ?_
       refine wpl_nil ?_
       refine ex_then ?_
       refine wpc_ret ?_
       refine retv2 (.inl rfl) rfl (rv_agg Try.underlying27 rfl Try.ti27 rfl (fun w h => h.atB) (St.c_length (by first | rfl | exact writeF_len hs.len))) (rv_tmp rfl) ?_
       exact fun w h => ⟨b53, by rw [hcr]; exact p53, by rw [hcr]; rfl, h.below, by rw [hcr]; exact h.made SubC.h .nil⟩

end Go.Proofs.Ytoaeklbenmlooaa
