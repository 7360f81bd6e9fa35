/- A record read. -/
import Derived.Test.YtoaeklbenmlooaaKC
namespace Go.Proofs.Ytoaeklbenmlooaa
set_option linter.unusedSimpArgs false
set_option linter.unusedVariables false
open Go Go.PL Go.RowKit

abbrev kRow (v : Value) (ks : List KE) : Ent := .row v ks.length 66 6 (kcs ks)
abbrev ReadPost (w : World) (kv : Value) (ks : List KE) (r : Rec) : Ending → World → Prop :=
  GivesA w [kRow kv ks] (fun v' => SV v' (readK ks r).length ∧ (readF ks r = none → v' = kv)) (fun v' => .tuple #[v', .bool (readF ks r).isSome]) (fun v' => [kRow v' (readK ks r)])
theorem read_none {w0 w : World} {kv : Value} {ks : List KE} {r : Rec} (hn : readF ks r = none) (skv : SV kv ks.length) (h : Mem w0 (nums [kRow kv ks]) [kRow kv ks] [] w) : ReadPost w0 kv ks r (.returned (.tuple #[kv, .bool false])) w := by
  have e : readK ks r = ks := by rw [readK, hn]; rfl
  refine ⟨kv, ⟨by rw [e]; exact skv, fun _ => rfl⟩, by rw [hn]; rfl, ?_⟩
  rw [e]; exact h
theorem read_some {w0 w : World} {kv v : Value} {ks k' : List KE} {r : Rec} {m : Nat} {xs : List Value} (hn : readF ks r = some k') (hm : k'.length = m) (hc : xs = kcs k') (sv : SV v m) (h : Mem w0 (nums [kRow kv ks]) [.row v m 66 6 xs] [] w) : ReadPost w0 kv ks r (.returned (.tuple #[v, .bool true])) w := by
  subst hm hc
  have e : readK ks r = k' := by rw [readK, hn]; rfl
  refine ⟨v, ⟨by rw [e]; exact sv, fun h => by rw [hn] at h; cases h⟩, by rw [hn]; rfl, ?_⟩
  rw [e]; exact h
theorem ke_one (k : KE) : ∀ u ∈ k.c, u.oneCell' = true := by
  intro u hu
  simp only [KE.c, List.mem_cons, List.not_mem_nil, or_false] at hu
  rcases hu with rfl | rfl | rfl | rfl | rfl | rfl <;> rfl
theorem kcs_snoc (ks : List KE) (k : KE) : kcs ks ++ k.c = kcs (ks ++ [k]) := by rw [kcs_append]; simp [kcs]
theorem getD_set_self (ks : List KE) (k : KE) {j : Nat} (h : j < ks.length) : (ks.set j k).getD j KE.z = k := by
  rw [List.getD_eq_getElem?_getD, List.getElem?_set_self h]; rfl
theorem kcs_upd {ks : List KE} {j : Nat} (n : Int) (h : j < ks.length) : (((kcs ks).set (j * 6 + 2) (.int .i64 n)).set (j * 6 + 3) (.int .i64 n)).set (j * 6 + 4) (.int .i64 n) = kcs (ks.set j { ks.getD j KE.z with nx := n, du := n, ak := n }) := by
  rw [kcs_set { ks.getD j KE.z with nx := n } h rfl (by decide), kcs_set { ks.getD j KE.z with nx := n, du := n } (by rw [List.length_set]; exact h) (by rw [getD_set_self _ _ h]; rfl) (by decide), List.set_set,
    kcs_set { ks.getD j KE.z with nx := n, du := n, ak := n } (by rw [List.length_set]; exact h) (by rw [getD_set_self _ _ h]; rfl) (by decide), List.set_set]
theorem kcs_drp {ks : List KE} {j : Nat} (h : j < ks.length) : (kcs ks).set (j * 6 + 5) (.bool true) = kcs (ks.set j { ks.getD j KE.z with dr := true }) := kcs_set _ h rfl (by decide)
theorem readF_1 {ks : List KE} {r : Rec} (h1 : r.k = 1) (h2 : ¬ (0 ≤ placeF ks r.id ∨ 8 ≤ ks.length ∨ 4 < r.h.toNat ∨ r.v ≠ 0)) : readF ks r = some (ks ++ [⟨r.id, ((r.h.toNat : Nat) : Int), 0, 0, 0, false⟩]) := by
  unfold readF; rw [if_pos h1, if_neg h2]
theorem readF_1n {ks : List KE} {r : Rec} (h1 : r.k = 1) (h2 : 0 ≤ placeF ks r.id ∨ 8 ≤ ks.length ∨ 4 < r.h.toNat ∨ r.v ≠ 0) : readF ks r = none := by
  unfold readF; rw [if_pos h1, if_pos h2]
theorem readF_0n {ks : List KE} {r : Rec} (h1 : r.k ≠ 1) (h2 : placeF ks r.id < 0) : readF ks r = none := by
  unfold readF; rw [if_neg h1, if_pos (.inl h2)]
/-- What the rest of readF looks at. -/
theorem readF_j {ks : List KE} {r : Rec} {j : Nat} (h1 : r.k ≠ 1) (h2 : placeF ks r.id = (j : Int)) : readF ks r =
    if (ks.getD j KE.z).dr = true ∨ (ks.getD j KE.z).ht ≠ ((r.h.toNat : Nat) : Int) then none
    else if r.k = 2 then
      if ((r.v.toNat : Nat) : Int) ≤ (ks.getD j KE.z).ak ∨ 2 ^ r.h.toNat < r.v.toNat then none else some (ks.set j { ks.getD j KE.z with nx := (r.v.toNat : Nat), du := (r.v.toNat : Nat), ak := (r.v.toNat : Nat) })
    else if r.k = 3 then
      if ((r.v.toNat : Nat) : Int) ≠ (ks.getD j KE.z).ak then none else some (ks.set j { ks.getD j KE.z with dr := true })
    else none := by
  unfold readF
  rw [if_neg h1, h2]
  dsimp only
  rw [show ((j : Nat) : Int).toNat = j from Int.toNat_natCast j]
  by_cases hc : (ks.getD j KE.z).dr = true ∨ (ks.getD j KE.z).ht ≠ ((r.h.toNat : Nat) : Int)
  · rw [if_pos (.inr hc), if_pos hc]
  · rw [if_neg (fun h => by rcases h with h | h; omega; exact hc h), if_neg hc]

set_option maxRecDepth 100000 in
theorem read_ (kv : Value) (ks : List KE) (r : Rec) (w : World) (hb : Mem w (nums [kRow kv ks]) [kRow kv ks] [] w) (skv : SV kv ks.length) (hko : KOk ks)  :
    Calls Try.prog 61 [kv, .agg r.c.toArray].toArray w (ReadPost w kv ks r) := by
  have lkv := skv.le
  simp only [maxLen] at lkv
  have hk8 := hko.1
  have hkl := kcs_length ks
  refine enter (m := 116) (R := Mem w (nums [kRow kv ks]) [kRow kv ks] []) Try.func61 rfl rfl (Nat.le_of_ble_eq_true rfl) hb ?_
  refine wpc_seq ?_
  refine wpc_region ?_
  refine wpl_t (t_box rfl r.c rfl) rfl (fun b3 => ?_)
  refine wpl_q (q_pure rfl) rfl ?_
  refine wpl_q (q_pure rfl) rfl ?_
  refine wpl_nil ?_
  refine ex_then ?_
  refine wpc_seq ?_
  refine wpc_region ?_
  refine wpl_q (q_pure rfl) rfl ?_
  refine wpl_q (q_field Try.underlying89 rfl Try.ti28 rfl rfl _ rfl) rfl ?_
  refine wpl_q (q_ld Try.underlying28 rfl rfl (by first | exact v32s_get (by first | decide | omega | exact Nat.zero_lt_one | (simp; omega) | (simp; done) | (simp only [v8s_length, v32s_length, vis_length, vns_length, v64s_length]; omega)) | rfl)) rfl ?_
  refine wpl_t (t_pur Try.hb49 rfl fun w h => place _ _ _ w (by first | exact Seen.re8 h.seenV | exact h.seenV | exact h.seenA (by first | decide | (simp only [maxLen]; omega)) (by first | with_reducible rfl | (simp only [v8s_length, v32s_length, vis_length, vns_length, v64s_length, List.length_replicate]; first | done | with_reducible assumption | omega) | (rw [v8s_length]; (first | with_reducible assumption | with_reducible exact shortF_length _ | with_reducible exact stepF_length _ _ _ | with_reducible exact sumF_length _ | with_reducible exact climbF_length _ (by first | with_reducible assumption | with_reducible exact shortF_length _ | with_reducible exact beginF_length _ _ | with_reducible exact getD_mem_len (by assumption) (by omega)) _ _ _ | with_reducible exact beginF_length _ _ | with_reducible exact chainF_length _ _ _ | with_reducible exact recF_length _ _ | with_reducible exact publicF_length _ | with_reducible exact getD_mem_len (by assumption) (by omega) | (with_reducible exact List.length_replicate))) | rfl) | exact h.seen_old (by assumption) | exact h.seen_oldL (by assumption) (by assumption) | exact h.seen_old hs.d | exact h.seen_old hs.p | exact h.seen_old hs.k | exact Seen.re8 (h.seen_fact (by repeat (first | exact List.mem_cons_self .. | apply List.mem_cons_of_mem))) | exact h.seen_fact (by repeat (first | exact List.mem_cons_self .. | apply List.mem_cons_of_mem)))) rfl (fun b12 => ?_)
  refine wpl_q (q_pure rfl) rfl ?_
  refine wpl_nil ?_
  refine ex_then ?_
  refine wpc_seq ?_
  refine wpc_seq ?_
  refine wpc_region ?_
  refine wpl_q (q_field Try.underlying89 rfl Try.ti5 rfl rfl _ rfl) rfl ?_
  refine wpl_q (q_ld Try.underlying5 rfl rfl (by first | exact v8s_get (by first | decide | omega | exact Nat.zero_lt_one | (simp; omega) | (simp; done) | (simp only [v8s_length, v32s_length, vis_length, vns_length, v64s_length]; omega)) | rfl)) rfl ?_
  refine wpl_q (q8_eql (b := (1 : UInt8)) rfl rfl) rfl ?_
  refine wpl_nil ?_
  refine ex_then ?_
  refine wpc_cond rfl (fun hc15 => ?_) (fun hc15 => ?_)
  ·
   simp only [decide_eq_true_eq] at hc15
   refine wpc_seq ?_
   refine wpc_seq ?_
   refine wpc_region ?_
   refine wpl_q (q_pure rfl) rfl ?_
   refine wpl_q (q_pure rfl) rfl ?_
   refine wpl_q (q_pure rfl) rfl ?_
   refine wpl_bool2 18 17 rfl rfl (fun hb18 => ?_) (fun hb18 => ?_)
   ·
    try simp only [decide_eq_true_eq, decide_eq_false_iff_not, Bool.and_eq_true, Bool.or_eq_true, beq_iff_eq, bne_iff_ne, ne_eq, Bool.not_eq_true', Bool.not_eq_false', Decidable.not_not] at hb18
    refine wpl_off rfl rfl rfl rfl ?_
    refine wpl_off rfl rfl rfl rfl ?_
    refine wpl_off rfl rfl rfl rfl ?_
    refine wpl_q (q_pure rfl) rfl ?_
    refine wpl_q (q_pure rfl) rfl ?_
    refine wpl_off rfl rfl rfl rfl ?_
    refine wpl_off rfl rfl rfl rfl ?_
    refine wpl_off rfl rfl rfl rfl ?_
    refine wpl_q (q_pure rfl) rfl ?_
    refine wpl_q (q_pure rfl) rfl ?_
    refine wpl_off rfl rfl rfl rfl ?_
    refine wpl_off rfl rfl rfl rfl ?_
    refine wpl_off rfl rfl rfl rfl ?_
    refine wpl_q (q_pure rfl) rfl ?_
    refine wpl_nil ?_
    refine ex_then ?_
    refine wpc_cond_t rfl ?_
    refine wpc_seq ?_
    refine wpc_region ?_
    refine wpl_q (q_pure rfl) rfl ?_
    refine wpl_q (q_pure rfl) rfl ?_
    refine wpl_q (q_pure rfl) rfl ?_
    refine wpl_nil ?_
    refine ex_then ?_
    refine wpc_ret ?_
    refine ex_then_ret ?_
    refine ex_then_ret ?_
    refine ret2 (.inl rfl) rfl rfl rfl ?_
    exact fun w h => read_none (readF_1n hc15 (by first | (exact .inl (by omega)) | (exact .inr (.inl (by omega))) | (exact .inr (.inr (.inl (by omega)))) | (exact .inr (.inr (.inr (by assumption)))))) skv (h.sub SubC.h .nil)
   ·
    try simp only [decide_eq_true_eq, decide_eq_false_iff_not, Bool.and_eq_true, Bool.or_eq_true, beq_iff_eq, bne_iff_ne, ne_eq, Bool.not_eq_true', Bool.not_eq_false', Decidable.not_not] at hb18
    refine wpl_on rfl rfl ?_
    refine wpl_q (q_pure rfl) rfl ?_
    refine wpl_on rfl rfl ?_
    refine wpl_q (q_lenW Try.underlying25 rfl (by first | assumption | exact SV.nil | exact SV.slv (by assumption) (by omega) (by omega) | exact arv_sv (by first | decide | (simp only [maxLen]; omega)))) rfl ?_
    refine wpl_on rfl rfl ?_
    refine wpl_q (q_pure rfl) rfl ?_
    refine wpl_q (q_pure rfl) rfl ?_
    refine wpl_q (q_pure rfl) rfl ?_
    refine wpl_bool2 23 21 rfl rfl (fun hb23 => ?_) (fun hb23 => ?_)
    ·
     try simp only [decide_eq_true_eq, decide_eq_false_iff_not, Bool.and_eq_true, Bool.or_eq_true, beq_iff_eq, bne_iff_ne, ne_eq, Bool.not_eq_true', Bool.not_eq_false', Decidable.not_not] at hb23
     refine wpl_off rfl rfl rfl rfl ?_
     refine wpl_off rfl rfl rfl rfl ?_
     refine wpl_off rfl rfl rfl rfl ?_
     refine wpl_q (q_pure rfl) rfl ?_
     refine wpl_q (q_pure rfl) rfl ?_
     refine wpl_off rfl rfl rfl rfl ?_
     refine wpl_off rfl rfl rfl rfl ?_
     refine wpl_off rfl rfl rfl rfl ?_
     refine wpl_q (q_pure rfl) rfl ?_
     refine wpl_nil ?_
     refine ex_then ?_
     refine wpc_cond_t rfl ?_
     refine wpc_seq ?_
     refine wpc_region ?_
     refine wpl_q (q_pure rfl) rfl ?_
     refine wpl_q (q_pure rfl) rfl ?_
     refine wpl_q (q_pure rfl) rfl ?_
     refine wpl_nil ?_
     refine ex_then ?_
     refine wpc_ret ?_
     refine ex_then_ret ?_
     refine ex_then_ret ?_
     refine ret2 (.inl rfl) rfl rfl rfl ?_
     exact fun w h => read_none (readF_1n hc15 (by first | (exact .inl (by omega)) | (exact .inr (.inl (by omega))) | (exact .inr (.inr (.inl (by omega)))) | (exact .inr (.inr (.inr (by assumption)))))) skv (h.sub SubC.h .nil)
    ·
     try simp only [decide_eq_true_eq, decide_eq_false_iff_not, Bool.and_eq_true, Bool.or_eq_true, beq_iff_eq, bne_iff_ne, ne_eq, Bool.not_eq_true', Bool.not_eq_false', Decidable.not_not] at hb23
     refine wpl_on rfl rfl ?_
     refine wpl_q (q_field Try.underlying89 rfl Try.ti5 rfl rfl _ rfl) rfl ?_
     refine wpl_on rfl rfl ?_
     refine wpl_q (q_ld Try.underlying5 rfl rfl (by first | exact v8s_get (by first | decide | omega | exact Nat.zero_lt_one | (simp; omega) | (simp; done) | (simp only [v8s_length, v32s_length, vis_length, vns_length, v64s_length]; omega)) | rfl)) rfl ?_
     refine wpl_on rfl rfl ?_
     refine wpl_q (q_pure rfl) rfl ?_
     refine wpl_q (q_pure rfl) rfl ?_
     refine wpl_q (q_pure rfl) rfl ?_
     refine wpl_bool2 28 26 rfl rfl (fun hb28 => ?_) (fun hb28 => ?_)
     ·
      try simp only [decide_eq_true_eq, decide_eq_false_iff_not, Bool.and_eq_true, Bool.or_eq_true, beq_iff_eq, bne_iff_ne, ne_eq, Bool.not_eq_true', Bool.not_eq_false', Decidable.not_not] at hb28
      refine wpl_off rfl rfl rfl rfl ?_
      refine wpl_off rfl rfl rfl rfl ?_
      refine wpl_off rfl rfl rfl rfl ?_
      refine wpl_q (q_pure rfl) rfl ?_
      refine wpl_nil ?_
      refine ex_then ?_
      refine wpc_cond_t rfl ?_
      refine wpc_seq ?_
      refine wpc_region ?_
      refine wpl_q (q_pure rfl) rfl ?_
      refine wpl_q (q_pure rfl) rfl ?_
      refine wpl_q (q_pure rfl) rfl ?_
      refine wpl_nil ?_
      refine ex_then ?_
      refine wpc_ret ?_
      refine ex_then_ret ?_
      refine ex_then_ret ?_
      refine ret2 (.inl rfl) rfl rfl rfl ?_
      exact fun w h => read_none (readF_1n hc15 (by first | (exact .inl (by omega)) | (exact .inr (.inl (by omega))) | (exact .inr (.inr (.inl (by omega)))) | (exact .inr (.inr (.inr (by assumption)))))) skv (h.sub SubC.h .nil)
     ·
      try simp only [decide_eq_true_eq, decide_eq_false_iff_not, Bool.and_eq_true, Bool.or_eq_true, beq_iff_eq, bne_iff_ne, ne_eq, Bool.not_eq_true', Bool.not_eq_false', Decidable.not_not] at hb28
      refine wpl_on rfl rfl ?_
      refine wpl_q (q_field Try.underlying89 rfl Try.ti87 rfl rfl _ rfl) rfl ?_
      refine wpl_on rfl rfl ?_
      refine wpl_q (q_ld Try.underlying87 rfl rfl (by first | exact v16s_get (by first | decide | omega | exact Nat.zero_lt_one | (simp; omega) | (simp; done) | (simp only [v8s_length, v32s_length, vis_length, vns_length, v64s_length]; omega)) | rfl)) rfl ?_
      refine wpl_on rfl rfl ?_
      refine wpl_q (q16_neq (b := (0 : UInt16)) rfl rfl) rfl ?_
      refine wpl_q (q_pure rfl) rfl ?_
      refine wpl_nil ?_
      refine ex_then ?_
      refine wpc_cond rfl (fun hc32 => ?_) (fun hc32 => ?_)
      ·
       simp only [Bool.not_eq_true', decide_eq_false_iff_not] at hc32
       refine wpc_seq ?_
       refine wpc_region ?_
       refine wpl_q (q_pure rfl) rfl ?_
       refine wpl_q (q_pure rfl) rfl ?_
       refine wpl_q (q_pure rfl) rfl ?_
       refine wpl_nil ?_
       refine ex_then ?_
       refine wpc_ret ?_
       refine ex_then_ret ?_
       refine ex_then_ret ?_
       refine ret2 (.inl rfl) rfl rfl rfl ?_
       exact fun w h => read_none (readF_1n hc15 (by first | (exact .inl (by omega)) | (exact .inr (.inl (by omega))) | (exact .inr (.inr (.inl (by omega)))) | (exact .inr (.inr (.inr (by assumption)))))) skv (h.sub SubC.h .nil)
      ·
       simp only [Bool.not_eq_false', decide_eq_true_eq] at hc32
       refine wpc_skip ?_
       refine ex_then ?_
       refine wpc_seq ?_
       refine wpc_region ?_
       refine wpl_q (q_pure rfl) rfl ?_
       refine wpl_q (q_field Try.underlying89 rfl Try.ti28 rfl rfl _ rfl) rfl ?_
       refine wpl_q (q_ld Try.underlying28 rfl rfl (by first | exact v32s_get (by first | decide | omega | exact Nat.zero_lt_one | (simp; omega) | (simp; done) | (simp only [v8s_length, v32s_length, vis_length, vns_length, v64s_length]; omega)) | rfl)) rfl ?_
       refine wpl_q (q_field Try.underlying89 rfl Try.ti5 rfl rfl _ rfl) rfl ?_
       refine wpl_q (q_ld Try.underlying5 rfl rfl (by first | exact v8s_get (by first | decide | omega | exact Nat.zero_lt_one | (simp; omega) | (simp; done) | (simp only [v8s_length, v32s_length, vis_length, vns_length, v64s_length]; omega)) | rfl)) rfl ?_
       refine wpl_q (q8_int Try.underlying5 Try.underlying3 rfl) rfl ?_
       refine wpl_q (q_build (cs := (KE.mk r.id ((r.h.toNat : Nat) : Int) 0 0 0 false).c) rfl (built_key r.id ((r.h.toNat : Nat) : Int))) rfl ?_
       refine wpl_tp (t_bsG [.agg (KE.mk r.id ((r.h.toNat : Nat) : Int) 0 0 0 false).c.toArray] (KE.mk r.id ((r.h.toNat : Nat) : Int) 0 0 0 false).c Try.underlying25 Try.ti66 rfl (by decide) rfl (by decide) (by decide) rfl (by intro v hv; rw [List.mem_singleton] at hv; subst hv; rfl) (List.append_nil _)) rfl (fun b41 p41 => ?_)
       refine wpl_tp (t_apW Try.underlying25 Try.ti66 rfl (by decide) rfl rfl (fun w h => by first | exact h.seenV | exact h.seenA (by first | decide | (simp only [maxLen]; omega)) (by first | with_reducible rfl | (simp only [v8s_length, v32s_length, vis_length, vns_length, v64s_length, List.length_replicate]; first | done | with_reducible assumption | omega) | (rw [v8s_length]; (first | with_reducible assumption | with_reducible exact shortF_length _ | with_reducible exact stepF_length _ _ _ | with_reducible exact sumF_length _ | with_reducible exact climbF_length _ (by first | with_reducible assumption | with_reducible exact shortF_length _ | with_reducible exact beginF_length _ _ | with_reducible exact getD_mem_len (by assumption) (by omega)) _ _ _ | with_reducible exact beginF_length _ _ | with_reducible exact chainF_length _ _ _ | with_reducible exact recF_length _ _ | with_reducible exact publicF_length _ | with_reducible exact getD_mem_len (by assumption) (by omega) | (with_reducible exact List.length_replicate))) | rfl) | exact h.seen_old (by assumption) | exact h.seen_oldL (by assumption) (by assumption) | exact h.seen_fact (by repeat (first | exact List.mem_cons_self .. | apply List.mem_cons_of_mem))) (ke_one _) (by first | omega | (simp only [maxLen]; omega) | (simp only [List.length_append, List.length_cons, List.length_nil, List.length_take, maxLen]; omega) | (simp only [List.length_append, List.length_cons, List.length_nil, List.length_take]; omega)) (by first | omega | (simp only [maxLen]; omega) | (simp only [List.length_append, List.length_cons, List.length_nil, List.length_take, maxLen]; omega) | (simp only [List.length_append, List.length_cons, List.length_nil, List.length_take]; omega)) (kcs (ks ++ [(KE.mk r.id ((r.h.toNat : Nat) : Int) 0 0 0 false)])) (kcs_snoc _ _)) rfl (fun b42 p42 => ?_)
       refine wpl_q (q_pure rfl) rfl ?_
       refine wpl_q (q_pure rfl) rfl ?_
       refine wpl_nil ?_
       refine ex_then ?_
       refine wpc_ret ?_
       refine ex_then_ret ?_
       refine ret2 (.inl rfl) rfl rfl rfl ?_
       exact fun w h => read_some (readF_1 hc15 (fun hh => by rcases hh with hh | hh | hh | hh; omega; omega; omega; exact absurd hc32 hh)) (List.length_append) rfl p42 (h.sub SubC.h .nil)
  ·
   simp only [decide_eq_false_iff_not] at hc15
   have hk1 : r.k ≠ 1 := hc15
   refine wpc_skip ?_
   refine ex_then ?_
   refine wpc_seq ?_
   refine wpc_seq ?_
   refine wpc_draw 20 (by kernel_rfl) (fun _ h => h.drew) ?_
   refine wpd_p 0 rfl (by kernel_rfl) trivial (q_pure rfl) rfl sk0 ?_
   refine wpd_p 1 rfl (by kernel_rfl) trivial (q_pure rfl) rfl sk0 ?_
   refine wpd_p 2 rfl (by kernel_rfl) trivial (q_pure rfl) rfl sk0 ?_
   refine wpd_bool2 45 44 rfl rfl (fun hb45 => ?_) (fun hb45 => ?_)
   ·
    simp only [decide_eq_true_eq] at hb45
    have hnn := readF_0n hk1 hb45
    refine wpd_off 3 rfl (by kernel_rfl) ⟨_, _, rfl, rfl, rfl⟩ rfl sk0 ?_
    refine wpd_off 4 rfl (by kernel_rfl) ⟨_, _, rfl, rfl, rfl⟩ rfl sk0 ?_
    refine wpd_off 5 rfl (by kernel_rfl) ⟨_, _, rfl, rfl, rfl⟩ rfl sk0 ?_
    refine wpd_off 6 rfl (by kernel_rfl) ⟨_, _, rfl, rfl, rfl⟩ rfl sk0 ?_
    refine wpd_off 7 rfl (by kernel_rfl) ⟨_, _, rfl, rfl, rfl⟩ rfl sk0 ?_
    refine wpd_p 8 rfl (by kernel_rfl) trivial (q_pure rfl) rfl sk0 ?_
    refine wpd_p 9 rfl (by kernel_rfl) trivial (q_pure rfl) rfl sk0 ?_
    refine wpd_off 10 rfl (by kernel_rfl) ⟨_, _, rfl, rfl, rfl⟩ rfl sk0 ?_
    refine wpd_off 11 rfl (by kernel_rfl) ⟨_, _, rfl, rfl, rfl⟩ rfl sk0 ?_
    refine wpd_off 12 rfl (by kernel_rfl) ⟨_, _, rfl, rfl, rfl⟩ rfl sk0 ?_
    refine wpd_off 13 rfl (by kernel_rfl) ⟨_, _, rfl, rfl, rfl⟩ rfl sk0 ?_
    refine wpd_off 14 rfl (by kernel_rfl) ⟨_, _, rfl, rfl, rfl⟩ rfl sk0 ?_
    refine wpd_off 15 rfl (by kernel_rfl) ⟨_, _, rfl, rfl, rfl⟩ rfl sk0 ?_
    refine wpd_off 16 rfl (by kernel_rfl) ⟨_, _, rfl, rfl, rfl⟩ rfl sk0 ?_
    refine wpd_off 17 rfl (by kernel_rfl) ⟨_, _, rfl, rfl, rfl⟩ rfl sk0 ?_
    refine wpd_off 18 rfl (by kernel_rfl) ⟨_, _, rfl, rfl, rfl⟩ rfl sk0 ?_
    refine wpd_p 19 rfl (by kernel_rfl) trivial (q_pure rfl) rfl sk0 ?_
    refine wpd_done (by kernel_rfl) ?_
    refine ex_then ?_
    refine wpc_cond_t rfl ?_
    refine wpc_seq ?_
    refine wpc_region ?_
    refine wpl_q (q_pure rfl) rfl ?_
    refine wpl_q (q_pure rfl) rfl ?_
    refine wpl_q (q_pure rfl) rfl ?_
    refine wpl_nil ?_
    refine ex_then ?_
    refine wpc_ret ?_
    refine ex_then_ret ?_
    refine ret2 (.inl rfl) rfl rfl rfl ?_
    exact fun w h => read_none hnn skv (h.sub SubC.h .nil)
   ·
    simp only [decide_eq_false_iff_not] at hb45
    obtain ⟨j, hjl, hej⟩ : ∃ j, j < ks.length ∧ placeF ks r.id = (j : Int) := by
      rcases idxF_spec (isId r.id) KE.z ks with ⟨e, _⟩ | ⟨j, h1, h2, _⟩
      · exact absurd (show placeF ks r.id < 0 by rw [placeF, e]; decide) hb45
      · exact ⟨j, h1, h2⟩
    have hgo := hko.get hjl
    refine wpd_re 6 rfl (congrArg (Value.int .i64) hej) ?_
    refine wpd_p 3 rfl (by kernel_rfl) ⟨_, rfl, rfl⟩ (q_pure rfl) rfl sk0 ?_
    refine wpd_p 4 rfl (by kernel_rfl) ⟨_, rfl, rfl⟩ (q_pure rfl) rfl sk0 ?_
    refine wpd_p 5 rfl (by kernel_rfl) ⟨_, rfl, rfl⟩ (q_idxW Try.underlying25 Try.ti66 rfl rfl (by first | assumption | exact SV.nil | exact SV.slv (by assumption) (by omega) (by omega) | exact arv_sv (by first | decide | (simp only [maxLen]; omega))) (by first | omega | (simp only [maxLen]; omega) | (simp only [List.length_append, List.length_cons, List.length_nil, List.length_take, maxLen]; omega) | (simp only [List.length_append, List.length_cons, List.length_nil, List.length_take]; omega))) rfl sk0 ?_
    refine wpd_p 6 rfl (by kernel_rfl) ⟨_, rfl, rfl⟩ (q_fieldPo 5 Try.underlying66 rfl Try.ti4 rfl rfl rfl) rfl sk0 ?_
    refine wpd_q 7 rfl (by kernel_rfl) ⟨_, rfl, rfl⟩ (q_ldWF Try.underlying4 rfl rfl (fun w h => by first | exact h.seenV | exact h.seenA (by first | decide | (simp only [maxLen]; omega)) (by first | with_reducible rfl | (simp only [v8s_length, v32s_length, vis_length, vns_length, v64s_length, List.length_replicate]; first | done | with_reducible assumption | omega) | (rw [v8s_length]; (first | with_reducible assumption | with_reducible exact shortF_length _ | with_reducible exact stepF_length _ _ _ | with_reducible exact sumF_length _ | with_reducible exact climbF_length _ (by first | with_reducible assumption | with_reducible exact shortF_length _ | with_reducible exact beginF_length _ _ | with_reducible exact getD_mem_len (by assumption) (by omega)) _ _ _ | with_reducible exact beginF_length _ _ | with_reducible exact chainF_length _ _ _ | with_reducible exact recF_length _ _ | with_reducible exact publicF_length _ | with_reducible exact getD_mem_len (by assumption) (by omega) | (with_reducible exact List.length_replicate))) | rfl) | exact h.seen_old (by assumption) | exact h.seen_oldL (by assumption) (by assumption) | exact h.seen_fact (by repeat (first | exact List.mem_cons_self .. | apply List.mem_cons_of_mem))) (kcs_get hjl rfl)) rfl (fun _ h => h) ?_
    refine wpd_p 8 rfl (by kernel_rfl) trivial (q_pure rfl) rfl sk0 ?_
    refine wpd_p 9 rfl (by kernel_rfl) trivial (q_pure rfl) rfl sk0 ?_
    refine wpd_bool2 52 50 rfl rfl (fun hb52 => ?_) (fun hb52 => ?_)
    ·
     refine wpd_off 10 rfl (by kernel_rfl) ⟨_, _, rfl, rfl, rfl⟩ rfl sk0 ?_
     refine wpd_off 11 rfl (by kernel_rfl) ⟨_, _, rfl, rfl, rfl⟩ rfl sk0 ?_
     refine wpd_off 12 rfl (by kernel_rfl) ⟨_, _, rfl, rfl, rfl⟩ rfl sk0 ?_
     refine wpd_off 13 rfl (by kernel_rfl) ⟨_, _, rfl, rfl, rfl⟩ rfl sk0 ?_
     refine wpd_off 14 rfl (by kernel_rfl) ⟨_, _, rfl, rfl, rfl⟩ rfl sk0 ?_
     refine wpd_off 15 rfl (by kernel_rfl) ⟨_, _, rfl, rfl, rfl⟩ rfl sk0 ?_
     refine wpd_off 16 rfl (by kernel_rfl) ⟨_, _, rfl, rfl, rfl⟩ rfl sk0 ?_
     refine wpd_off 17 rfl (by kernel_rfl) ⟨_, _, rfl, rfl, rfl⟩ rfl sk0 ?_
     refine wpd_off 18 rfl (by kernel_rfl) ⟨_, _, rfl, rfl, rfl⟩ rfl sk0 ?_
     refine wpd_p 19 rfl (by kernel_rfl) trivial (q_pure rfl) rfl sk0 ?_
     refine wpd_done (by kernel_rfl) ?_
     refine ex_then ?_
     refine wpc_cond_t rfl ?_
     refine wpc_seq ?_
     refine wpc_region ?_
     refine wpl_q (q_pure rfl) rfl ?_
     refine wpl_q (q_pure rfl) rfl ?_
     refine wpl_q (q_pure rfl) rfl ?_
     refine wpl_nil ?_
     refine ex_then ?_
     refine wpc_ret ?_
     refine ex_then_ret ?_
     refine ret2 (.inl rfl) rfl rfl rfl ?_
     exact fun w h => read_none (by rw [readF_j hk1 hej]; rw [if_pos (.inl hb52)]) skv (h.sub SubC.h .nil)
    ·
     refine wpd_p 10 rfl (by kernel_rfl) ⟨_, rfl, rfl⟩ (q_pure rfl) rfl sk0 ?_
     refine wpd_p 11 rfl (by kernel_rfl) ⟨_, rfl, rfl⟩ (q_pure rfl) rfl sk0 ?_
     refine wpd_p 12 rfl (by kernel_rfl) ⟨_, rfl, rfl⟩ (q_idxW Try.underlying25 Try.ti66 rfl rfl (by first | assumption | exact SV.nil | exact SV.slv (by assumption) (by omega) (by omega) | exact arv_sv (by first | decide | (simp only [maxLen]; omega))) (by first | omega | (simp only [maxLen]; omega) | (simp only [List.length_append, List.length_cons, List.length_nil, List.length_take, maxLen]; omega) | (simp only [List.length_append, List.length_cons, List.length_nil, List.length_take]; omega))) rfl sk0 ?_
     refine wpd_p 13 rfl (by kernel_rfl) ⟨_, rfl, rfl⟩ (q_fieldPo 1 Try.underlying66 rfl Try.ti3 rfl rfl rfl) rfl sk0 ?_
     refine wpd_q 14 rfl (by kernel_rfl) ⟨_, rfl, rfl⟩ (q_ldWF Try.underlying3 rfl rfl (fun w h => by first | exact h.seenV | exact h.seenA (by first | decide | (simp only [maxLen]; omega)) (by first | with_reducible rfl | (simp only [v8s_length, v32s_length, vis_length, vns_length, v64s_length, List.length_replicate]; first | done | with_reducible assumption | omega) | (rw [v8s_length]; (first | with_reducible assumption | with_reducible exact shortF_length _ | with_reducible exact stepF_length _ _ _ | with_reducible exact sumF_length _ | with_reducible exact climbF_length _ (by first | with_reducible assumption | with_reducible exact shortF_length _ | with_reducible exact beginF_length _ _ | with_reducible exact getD_mem_len (by assumption) (by omega)) _ _ _ | with_reducible exact beginF_length _ _ | with_reducible exact chainF_length _ _ _ | with_reducible exact recF_length _ _ | with_reducible exact publicF_length _ | with_reducible exact getD_mem_len (by assumption) (by omega) | (with_reducible exact List.length_replicate))) | rfl) | exact h.seen_old (by assumption) | exact h.seen_oldL (by assumption) (by assumption) | exact h.seen_fact (by repeat (first | exact List.mem_cons_self .. | apply List.mem_cons_of_mem))) (kcs_get hjl rfl)) rfl (fun _ h => h) ?_
     refine wpd_p 15 rfl (by kernel_rfl) ⟨_, rfl, rfl⟩ (q_field Try.underlying89 rfl Try.ti5 rfl rfl _ rfl) rfl sk0 ?_
     refine wpd_q 16 rfl (by kernel_rfl) ⟨_, rfl, rfl⟩ (q_ld Try.underlying5 rfl rfl (by first | exact v8s_get (by first | decide | omega | exact Nat.zero_lt_one | (simp; omega) | (simp; done) | (simp only [v8s_length, v32s_length, vis_length, vns_length, v64s_length]; omega)) | rfl)) rfl (fun _ h => h) ?_
     refine wpd_p 17 rfl (by kernel_rfl) ⟨_, rfl, rfl⟩ (q8_int Try.underlying5 Try.underlying3 rfl) rfl sk0 ?_
     refine wpd_p 18 rfl (by kernel_rfl) ⟨_, rfl, rfl⟩ (q_pure rfl) rfl sk0 ?_
     refine wpd_p 19 rfl (by kernel_rfl) trivial (q_pure rfl) rfl sk0 ?_
     refine wpd_done (by kernel_rfl) ?_
     refine ex_then ?_
     refine wpc_cond rfl (fun hc62 => ?_) (fun hc62 => ?_)
     ·
      simp only [bne_iff_ne, ne_eq] at hc62
      refine wpc_seq ?_
      refine wpc_region ?_
      refine wpl_q (q_pure rfl) rfl ?_
      refine wpl_q (q_pure rfl) rfl ?_
      refine wpl_q (q_pure rfl) rfl ?_
      refine wpl_nil ?_
      refine ex_then ?_
      refine wpc_ret ?_
      refine ex_then_ret ?_
      refine ret2 (.inl rfl) rfl rfl rfl ?_
      exact fun w h => read_none (by rw [readF_j hk1 hej]; rw [if_pos (.inr hc62)]) skv (h.sub SubC.h .nil)
     ·
      simp only [bne_eq_false_iff_eq] at hc62
      have hht : (ks.getD j KE.z).ht = ((r.h.toNat : Nat) : Int) := hc62
      have hdr : (ks.getD j KE.z).dr = false := hb52
      have hh4 : r.h.toNat ≤ 4 := by omega
      have hpw := pow_le hh4
      have hvl := r.v.toNat_lt
      have hng : ¬ ((ks.getD j KE.z).dr = true ∨ (ks.getD j KE.z).ht ≠ ((r.h.toNat : Nat) : Int)) := fun hh => by rcases hh with hh | hh; rw [hdr] at hh; cases hh; exact hh hht
      refine wpc_skip ?_
      refine ex_then ?_
      refine wpc_seq ?_
      refine wpc_draw 8 (by kernel_rfl) (fun _ h => h.drew) ?_
      refine wpd_p 0 rfl (by kernel_rfl) trivial (q_pure rfl) rfl sk0 ?_
      refine wpd_p 1 rfl (by kernel_rfl) trivial (q_pure rfl) rfl sk0 ?_
      refine wpd_p 2 rfl (by kernel_rfl) trivial (q_idxW Try.underlying25 Try.ti66 rfl rfl (by first | assumption | exact SV.nil | exact SV.slv (by assumption) (by omega) (by omega) | exact arv_sv (by first | decide | (simp only [maxLen]; omega))) (by first | omega | (simp only [maxLen]; omega) | (simp only [List.length_append, List.length_cons, List.length_nil, List.length_take, maxLen]; omega) | (simp only [List.length_append, List.length_cons, List.length_nil, List.length_take]; omega))) rfl sk0 ?_
      refine wpd_p 3 rfl (by kernel_rfl) trivial (q_field Try.underlying89 rfl Try.ti87 rfl rfl _ rfl) rfl sk0 ?_
      refine wpd_q 4 rfl (by kernel_rfl) trivial (q_ld Try.underlying87 rfl rfl (by first | exact v16s_get (by first | decide | omega | exact Nat.zero_lt_one | (simp; omega) | (simp; done) | (simp only [v8s_length, v32s_length, vis_length, vns_length, v64s_length]; omega)) | rfl)) rfl (fun _ h => h) ?_
      refine wpd_p 5 rfl (by kernel_rfl) trivial (q16_int Try.underlying87 Try.underlying3 rfl) rfl sk0 ?_
      refine wpd_p 6 rfl (by kernel_rfl) trivial (q_pure rfl) rfl sk0 ?_
      refine wpd_p 7 rfl (by kernel_rfl) trivial (q_pure rfl) rfl sk0 ?_
      refine wpd_done (by kernel_rfl) ?_
      refine ex_then ?_
      refine wpc_seq ?_
      refine wpc_seq ?_
      refine wpc_region ?_
      refine wpl_q (q_field Try.underlying89 rfl Try.ti5 rfl rfl _ rfl) rfl ?_
      refine wpl_q (q_ld Try.underlying5 rfl rfl (by first | exact v8s_get (by first | decide | omega | exact Nat.zero_lt_one | (simp; omega) | (simp; done) | (simp only [v8s_length, v32s_length, vis_length, vns_length, v64s_length]; omega)) | rfl)) rfl ?_
      refine wpl_nil ?_
      refine ex_then ?_
      refine wpc_block ?_
      refine wpc_seq ?_
      refine wpc_region ?_
      refine wpl_q (q8_eql (b := (2 : UInt8)) rfl rfl) rfl ?_
      refine wpl_q (q_pure rfl) rfl ?_
      refine wpl_nil ?_
      refine ex_then ?_
      refine wpc_cond rfl (fun hc73 => ?_) (fun hc73 => ?_)
      ·
       simp only [decide_eq_true_eq] at hc73
       refine wpc_seq ?_
       refine wpc_seq ?_
       refine wpc_region ?_
       refine wpl_q (q_pure rfl) rfl ?_
       refine wpl_q (q_pure rfl) rfl ?_
       refine wpl_q (q_pure rfl) rfl ?_
       refine wpl_q (q_fieldPo 4 Try.underlying66 rfl Try.ti3 rfl rfl rfl) rfl ?_
       refine wpl_q (q_ldWF Try.underlying3 rfl rfl (fun w h => by first | exact h.seenV | exact h.seenA (by first | decide | (simp only [maxLen]; omega)) (by first | with_reducible rfl | (simp only [v8s_length, v32s_length, vis_length, vns_length, v64s_length, List.length_replicate]; first | done | with_reducible assumption | omega) | (rw [v8s_length]; (first | with_reducible assumption | with_reducible exact shortF_length _ | with_reducible exact stepF_length _ _ _ | with_reducible exact sumF_length _ | with_reducible exact climbF_length _ (by first | with_reducible assumption | with_reducible exact shortF_length _ | with_reducible exact beginF_length _ _ | with_reducible exact getD_mem_len (by assumption) (by omega)) _ _ _ | with_reducible exact beginF_length _ _ | with_reducible exact chainF_length _ _ _ | with_reducible exact recF_length _ _ | with_reducible exact publicF_length _ | with_reducible exact getD_mem_len (by assumption) (by omega) | (with_reducible exact List.length_replicate))) | rfl) | exact h.seen_old (by assumption) | exact h.seen_oldL (by assumption) (by assumption) | exact h.seen_fact (by repeat (first | exact List.mem_cons_self .. | apply List.mem_cons_of_mem))) (kcs_get hjl rfl)) rfl ?_
       refine wpl_q (q_pure rfl) rfl ?_
       refine wpl_q (q_pure rfl) rfl ?_
       refine wpl_bool2 81 80 rfl rfl (fun hb81 => ?_) (fun hb81 => ?_)
       ·
        try simp only [decide_eq_true_eq] at hb81
        refine wpl_off rfl rfl rfl rfl ?_
        refine wpl_off rfl rfl rfl rfl ?_
        refine wpl_off rfl rfl rfl rfl ?_
        refine wpl_off rfl rfl rfl rfl ?_
        refine wpl_off rfl rfl rfl rfl ?_
        refine wpl_off rfl rfl rfl rfl ?_
        refine wpl_off rfl rfl rfl rfl ?_
        refine wpl_q (q_pure rfl) rfl ?_
        refine wpl_nil ?_
        refine ex_then ?_
        refine wpc_cond_t rfl ?_
        refine wpc_seq ?_
        refine wpc_region ?_
        refine wpl_q (q_pure rfl) rfl ?_
        refine wpl_q (q_pure rfl) rfl ?_
        refine wpl_q (q_pure rfl) rfl ?_
        refine wpl_nil ?_
        refine ex_then ?_
        refine wpc_ret ?_
        refine ex_then_ret ?_
        refine ex_block_ret ?_
        refine ex_then_ret ?_
        refine ret2 (.inl rfl) rfl rfl rfl ?_
        exact fun w h => read_none (by rw [readF_j hk1 hej]; rw [if_neg hng, if_pos hc73, if_pos (by first | (exact .inl (by omega)) | (exact .inr (by omega)))]) skv (h.sub SubC.h .nil)
       ·
        try simp only [decide_eq_false_iff_not] at hb81
        refine wpl_on rfl rfl ?_
        refine wpl_q (q_pure rfl) rfl ?_
        refine wpl_on rfl rfl ?_
        refine wpl_q (q_pure rfl) rfl ?_
        refine wpl_on rfl rfl ?_
        refine wpl_q (q_pure rfl) rfl ?_
        refine wpl_on rfl rfl ?_
        refine wpl_q (q_fieldPo 1 Try.underlying66 rfl Try.ti3 rfl rfl rfl) rfl ?_
        refine wpl_on rfl rfl ?_
        refine wpl_q (q_ldWF Try.underlying3 rfl rfl (fun w h => by first | exact h.seenV | exact h.seenA (by first | decide | (simp only [maxLen]; omega)) (by first | with_reducible rfl | (simp only [v8s_length, v32s_length, vis_length, vns_length, v64s_length, List.length_replicate]; first | done | with_reducible assumption | omega) | (rw [v8s_length]; (first | with_reducible assumption | with_reducible exact shortF_length _ | with_reducible exact stepF_length _ _ _ | with_reducible exact sumF_length _ | with_reducible exact climbF_length _ (by first | with_reducible assumption | with_reducible exact shortF_length _ | with_reducible exact beginF_length _ _ | with_reducible exact getD_mem_len (by assumption) (by omega)) _ _ _ | with_reducible exact beginF_length _ _ | with_reducible exact chainF_length _ _ _ | with_reducible exact recF_length _ _ | with_reducible exact publicF_length _ | with_reducible exact getD_mem_len (by assumption) (by omega) | (with_reducible exact List.length_replicate))) | rfl) | exact h.seen_old (by assumption) | exact h.seen_oldL (by assumption) (by assumption) | exact h.seen_fact (by repeat (first | exact List.mem_cons_self .. | apply List.mem_cons_of_mem))) (kcs_get hjl rfl)) rfl ?_
        refine wpl_re 86 rfl (congrArg (Value.int .i64) hht) ?_
        refine wpl_on rfl rfl ?_
        refine wpl_q (q_shlN (a := 1) rfl rfl (by first | decide | omega) (by omega)) rfl ?_
        refine wpl_on rfl rfl ?_
        refine wpl_q (q_pure rfl) rfl ?_
        refine wpl_q (q_pure rfl) rfl ?_
        refine wpl_nil ?_
        refine ex_then ?_
        refine wpc_cond rfl (fun hc89 => ?_) (fun hc89 => ?_)
        ·
         simp only [decide_eq_true_eq] at hc89
         refine wpc_seq ?_
         refine wpc_region ?_
         refine wpl_q (q_pure rfl) rfl ?_
         refine wpl_q (q_pure rfl) rfl ?_
         refine wpl_q (q_pure rfl) rfl ?_
         refine wpl_nil ?_
         refine ex_then ?_
         refine wpc_ret ?_
         refine ex_then_ret ?_
         refine ex_block_ret ?_
         refine ex_then_ret ?_
         refine ret2 (.inl rfl) rfl rfl rfl ?_
         exact fun w h => read_none (by rw [readF_j hk1 hej]; rw [if_neg hng, if_pos hc73, if_pos (by first | (exact .inl (by omega)) | (exact .inr (by omega)))]) skv (h.sub SubC.h .nil)
        ·
         simp only [decide_eq_false_iff_not] at hc89
         refine wpc_skip ?_
         refine ex_then ?_
         refine wpc_region ?_
         refine wpl_q (q_pure rfl) rfl ?_
         refine wpl_q (q_pure rfl) rfl ?_
         refine wpl_q (q_pure rfl) rfl ?_
         refine wpl_q (q_pure rfl) rfl ?_
         refine wpl_q (q_pure rfl) rfl ?_
         refine wpl_q (q_pure rfl) rfl ?_
         refine wpl_q (q_pure rfl) rfl ?_
         refine wpl_q (q_fieldPo 2 Try.underlying66 rfl Try.ti3 rfl rfl rfl) rfl ?_
         refine wpl_t0 (t_stWF Try.ti3 rfl rfl rfl (by (try simp only [List.length_set]); omega) _ rfl) (fun _ => ?_)
         refine wpl_q (q_pure rfl) rfl ?_
         refine wpl_q (q_fieldPo 3 Try.underlying66 rfl Try.ti3 rfl rfl rfl) rfl ?_
         refine wpl_t0 (t_stWF Try.ti3 rfl rfl rfl (by (try simp only [List.length_set]); omega) _ rfl) (fun _ => ?_)
         refine wpl_q (q_pure rfl) rfl ?_
         refine wpl_q (q_fieldPo 4 Try.underlying66 rfl Try.ti3 rfl rfl rfl) rfl ?_
         refine wpl_t0 (t_stWF Try.ti3 rfl rfl rfl (by (try simp only [List.length_set]); omega) _ rfl) (fun _ => ?_)
         refine wpl_nil ?_
         refine ex_block ?_
         refine ex_then ?_
         refine wpc_seq ?_
         refine wpc_region ?_
         refine wpl_q (q_pure rfl) rfl ?_
         refine wpl_q (q_pure rfl) rfl ?_
         refine wpl_q (q_pure rfl) rfl ?_
         refine wpl_nil ?_
         refine ex_then ?_
         refine wpc_ret ?_
         refine ret2 (.inl rfl) rfl rfl rfl ?_
         exact fun w h => read_some (by rw [readF_j hk1 hej, if_neg hng, if_pos hc73, if_neg (fun hh => by rcases hh with hh | hh <;> omega)]) List.length_set (kcs_upd _ hjl) skv (h.sub SubC.h .nil)
      ·
       simp only [decide_eq_false_iff_not] at hc73
       refine wpc_seq ?_
       refine wpc_region ?_
       refine wpl_q (q8_eql (b := (3 : UInt8)) rfl rfl) rfl ?_
       refine wpl_q (q_pure rfl) rfl ?_
       refine wpl_nil ?_
       refine ex_then ?_
       refine wpc_cond rfl (fun hc103 => ?_) (fun hc103 => ?_)
       ·
        simp only [decide_eq_true_eq] at hc103
        refine wpc_seq ?_
        refine wpc_seq ?_
        refine wpc_region ?_
        refine wpl_q (q_pure rfl) rfl ?_
        refine wpl_q (q_pure rfl) rfl ?_
        refine wpl_q (q_pure rfl) rfl ?_
        refine wpl_q (q_fieldPo 4 Try.underlying66 rfl Try.ti3 rfl rfl rfl) rfl ?_
        refine wpl_q (q_ldWF Try.underlying3 rfl rfl (fun w h => by first | exact h.seenV | exact h.seenA (by first | decide | (simp only [maxLen]; omega)) (by first | with_reducible rfl | (simp only [v8s_length, v32s_length, vis_length, vns_length, v64s_length, List.length_replicate]; first | done | with_reducible assumption | omega) | (rw [v8s_length]; (first | with_reducible assumption | with_reducible exact shortF_length _ | with_reducible exact stepF_length _ _ _ | with_reducible exact sumF_length _ | with_reducible exact climbF_length _ (by first | with_reducible assumption | with_reducible exact shortF_length _ | with_reducible exact beginF_length _ _ | with_reducible exact getD_mem_len (by assumption) (by omega)) _ _ _ | with_reducible exact beginF_length _ _ | with_reducible exact chainF_length _ _ _ | with_reducible exact recF_length _ _ | with_reducible exact publicF_length _ | with_reducible exact getD_mem_len (by assumption) (by omega) | (with_reducible exact List.length_replicate))) | rfl) | exact h.seen_old (by assumption) | exact h.seen_oldL (by assumption) (by assumption) | exact h.seen_fact (by repeat (first | exact List.mem_cons_self .. | apply List.mem_cons_of_mem))) (kcs_get hjl rfl)) rfl ?_
        refine wpl_q (q_pure rfl) rfl ?_
        refine wpl_nil ?_
        refine ex_then ?_
        refine wpc_cond rfl (fun hc110 => ?_) (fun hc110 => ?_)
        ·
         simp only [bne_iff_ne, ne_eq] at hc110
         refine wpc_seq ?_
         refine wpc_region ?_
         refine wpl_q (q_pure rfl) rfl ?_
         refine wpl_q (q_pure rfl) rfl ?_
         refine wpl_q (q_pure rfl) rfl ?_
         refine wpl_nil ?_
         refine ex_then ?_
         refine wpc_ret ?_
         refine ex_then_ret ?_
         refine ex_block_ret ?_
         refine ex_then_ret ?_
         refine ret2 (.inl rfl) rfl rfl rfl ?_
         exact fun w h => read_none (by rw [readF_j hk1 hej]; rw [if_neg hng, if_neg hc73, if_pos hc103, if_pos hc110]) skv (h.sub SubC.h .nil)
        ·
         simp only [bne_eq_false_iff_eq] at hc110
         refine wpc_skip ?_
         refine ex_then ?_
         refine wpc_region ?_
         refine wpl_q (q_pure rfl) rfl ?_
         refine wpl_q (q_pure rfl) rfl ?_
         refine wpl_q (q_fieldPo 5 Try.underlying66 rfl Try.ti4 rfl rfl rfl) rfl ?_
         refine wpl_t0 (t_stWF Try.ti4 rfl rfl rfl (by (try simp only [List.length_set]); omega) _ rfl) (fun _ => ?_)
         refine wpl_nil ?_
         refine ex_block ?_
         refine ex_then ?_
         refine wpc_seq ?_
         refine wpc_region ?_
         refine wpl_q (q_pure rfl) rfl ?_
         refine wpl_q (q_pure rfl) rfl ?_
         refine wpl_q (q_pure rfl) rfl ?_
         refine wpl_nil ?_
         refine ex_then ?_
         refine wpc_ret ?_
         refine ret2 (.inl rfl) rfl rfl rfl ?_
         exact fun w h => read_some (by rw [readF_j hk1 hej, if_neg hng, if_neg hc73, if_pos hc103, if_neg (fun hh => hh hc110)]) List.length_set (kcs_drp hjl) skv (h.sub SubC.h .nil)
       ·
        simp only [decide_eq_false_iff_not] at hc103
        refine wpc_seq ?_
        refine wpc_region ?_
        refine wpl_q (q_pure rfl) rfl ?_
        refine wpl_q (q_pure rfl) rfl ?_
        refine wpl_q (q_pure rfl) rfl ?_
        refine wpl_nil ?_
        refine ex_then ?_
        refine wpc_ret ?_
        refine ex_block_ret ?_
        refine ex_then_ret ?_
        refine ret2 (.inl rfl) rfl rfl rfl ?_
        exact fun w h => read_none (by rw [readF_j hk1 hej]; rw [if_neg hng, if_neg hc73, if_neg hc103]) skv (h.sub SubC.h .nil)

end Go.Proofs.Ytoaeklbenmlooaa
