/- The law of encoding and decoding. -/
import Derived.Test.YtommkigkkeailaaOAK
import Derived.Test.YtommkigkkeailaaOM
namespace Go.Proofs.Ytommkigkkeailaa
set_option linter.unusedSimpArgs false
set_option linter.unusedVariables false
open Go Go.PL Go.RowKit

theorem checkF_ok {t : Tr} (h : checkF t = 0) : t.cnt ≤ 4000 ∧ t.dep ≤ 12 ∧ t.shp = true ∧ t.siz ≤ 65536 := by
  unfold checkF at h
  split at h
  · cases h
  · split at h
    · cases h
    · split at h
      · cases h
      · rename_i h1 h2 h3
        exact ⟨by omega, by omega, by simpa using h2, by omega⟩
/-- What was encoded is decoded to itself. -/
theorem dec_enc {t : Tr} (hs : Sm t) (h : checkF t = 0) : decF (enc t) = (t, 0) := by
  obtain ⟨_, h2, h3, h4⟩ := checkF_ok h
  have q := take_enc t hs h3 12 [] h2
  rw [List.append_nil] at q
  rw [decF, if_neg (by rw [enc_len t hs]; omega), q]
  exact if_pos ⟨rfl, h⟩
theorem decF_sm (xs : List UInt8) : Sm (decF xs).1 ∧ (decF xs).1.dep ≤ 12 := by
  unfold decF
  split
  · exact ⟨by unfold Sm; decide, by decide⟩
  · split
    · rename_i t m e
      have q := takeF_size _ _ _ _ e
      have q2 := takeF_le e
      split
      · exact ⟨by show t.byt + 5 * t.cnt ≤ _; omega, q.2⟩
      · exact ⟨by unfold Sm; decide, by decide⟩
    · exact ⟨by unfold Sm; decide, by decide⟩
/-- What is decoded was encoded so. -/
theorem dec_inv {xs : List UInt8} (h : (decF xs).2 = 0) : checkF (decF xs).1 = 0 ∧ enc (decF xs).1 = xs := by
  unfold decF at h ⊢
  split at h
  · cases h
  · rename_i h1
    rw [if_neg h1]
    split at h
    · rename_i t m e
      split at h
      · rename_i h2
        rw [if_pos h2]
        refine ⟨h2.2, ?_⟩
        have q := (take_inv _ _ _ _ (by omega) e).1
        rw [← q, h2.1, List.take_length]
      · cases h
    · cases h
theorem dec_bad {xs : List UInt8} (h : ¬ (decF xs).2 = 0) : (decF xs).1 = Tr.z ∧ ((decF xs).2 = 12 ∧ ¬ 65536 < xs.length ∨ (decF xs).2 = 4 ∧ 65536 < xs.length) := by
  unfold decF at h ⊢
  split at h
  · exact ⟨by rw [if_pos ‹_›], .inr ⟨by rw [if_pos ‹_›], ‹_›⟩⟩
  · rename_i h1
    rw [if_neg h1]
    split at h
    · rename_i t m e
      split at h
      · exact absurd rfl h
      · rename_i h2
        rw [if_neg h2]
        exact ⟨rfl, .inl ⟨rfl, h1⟩⟩
    · exact ⟨rfl, .inl ⟨rfl, h1⟩⟩
theorem encF_ok {t : Tr} (h : checkF t = 0) : encF t = (enc t, 0) := by rw [encF, if_pos h]
theorem encF_bad {t : Tr} (h : ¬ checkF t = 0) : encF t = ([], checkF t) := by rw [encF, if_neg h]
theorem encF_iff {t : Tr} : (encF t).2 = 0 ↔ checkF t = 0 := by
  by_cases h : checkF t = 0
  · rw [encF_ok h]; exact ⟨fun _ => h, fun _ => rfl⟩
  · rw [encF_bad h]
theorem encF_le (t : Tr) (hs : Sm t) : (encF t).1.length ≤ 65536 := by
  by_cases h : checkF t = 0
  · rw [encF_ok h]; show (enc t).length ≤ _; rw [enc_len t hs]; exact (checkF_ok h).2.2.2
  · rw [encF_bad h]; exact Nat.zero_le _

set_option maxRecDepth 100000 in
theorem octetCodes (t : HT) (av : Value) (xs : List UInt8) (w : World) (ht : HSeen w.cell? t) (hav : Seen w.cell? av xs.length 1 (v8s xs)) (hlt : Lens t) :
    Calls Try.prog 5 [.agg t.c.toArray, av].toArray w (Pur w (.bool true)) := by
  haveI := ht.sv.one
  have sav := hav.sv
  have lav := sav.le
  simp only [maxLen] at lav
  refine enter (m := 92) (R := Mem w [] [] []) Try.func5 rfl rfl (Nat.le_of_ble_eq_true rfl) (Mem.start w) ?_
  refine wpc_seq ?_
  refine wpc_region ?_
  refine wpl_t (t_box rfl t.c rfl) rfl (fun b2 => ?_)
  refine wpl_q (q_pure rfl) rfl ?_
  refine wpl_nil ?_
  refine ex_then ?_
  refine wpc_seq ?_
  refine wpc_seq ?_
  refine wpc_region ?_
  refine wpl_q (q_ldN Try.underlying25 rfl Try.ti25 rfl LenC.h) rfl ?_
  refine wpl_t (t_pur Try.hb12 rfl fun w h => great t w (ht.old h) hlt) rfl (fun b18 => ?_)
  refine wpl_q (q_pure rfl) rfl ?_
  refine wpl_bool2 19 18 rfl rfl (fun hb19 => ?_) (fun hb19 => ?_)
  ·
   refine wpl_off rfl rfl rfl rfl ?_
   refine wpl_off rfl rfl rfl rfl ?_
   refine wpl_off rfl rfl rfl rfl ?_
   refine wpl_q (q_pure rfl) rfl ?_
   refine wpl_nil ?_
   refine ex_then ?_
   refine wpc_cond_t rfl ?_
   refine wpc_seq ?_
   refine wpc_region ?_
   refine wpl_q (q_pure rfl) rfl ?_
   refine wpl_nil ?_
   refine ex_then ?_
   refine wpc_ret ?_
   refine ex_then_ret ?_
   refine ret1 (.inl rfl) rfl rfl ?_
   exact fun w h => ⟨rfl, h.below⟩
  ·
   have g1 : ¬ GreatT t.tr := by simpa using hb19
   have s1 := great_sm g1
   have n1 := great_no g1
   refine wpl_on rfl rfl ?_
   refine wpl_q (q_pure rfl) rfl ?_
   refine wpl_on rfl rfl ?_
   refine wpl_q (q_lenW Try.underlying22 rfl (by first | assumption | exact SV.nil | exact SV.slv (by assumption) (by omega) (by omega) | exact arv_sv (by first | decide | (simp only [maxLen]; omega)))) rfl ?_
   refine wpl_on rfl rfl ?_
   refine wpl_q (q_pure rfl) rfl ?_
   refine wpl_q (q_pure rfl) rfl ?_
   refine wpl_nil ?_
   refine ex_then ?_
   refine wpc_cond rfl (fun hc23 => ?_) (fun hc23 => ?_)
   ·
    refine wpc_seq ?_
    refine wpc_region ?_
    refine wpl_q (q_pure rfl) rfl ?_
    refine wpl_nil ?_
    refine ex_then ?_
    refine wpc_ret ?_
    refine ex_then_ret ?_
    refine ret1 (.inl rfl) rfl rfl ?_
    exact fun w h => ⟨rfl, h.below⟩
   ·
    have hEl := encF_le t.tr s1
    simp only [decide_eq_false_iff_not] at hc23
    have hxl : xs.length ≤ 70000 := by omega
    refine wpc_skip ?_
    refine ex_then ?_
    refine wpc_seq ?_
    refine wpc_region ?_
    refine wpl_q (q_ldN Try.underlying25 rfl Try.ti25 rfl LenC.h) rfl ?_
    refine wpl_tp (t_callPT Try.hb13 rfl fun w h => frz (refTwin t w (ht.old h) s1)) rfl (fun b25 p25 => ?_)
    haveI := p25.2.one
    refine wpl_tp (t_bs0W Try.underlying22 Try.ti5) rfl (fun b26 p26 => ?_)
    refine wpl_q (q_pure rfl) rfl ?_
    refine wpl_tp (t_ap0 Try.underlying22 Try.ti5 rfl (by decide) rfl rfl (fun w h => h.seen_old hav) (v8s_one _) (by first | omega | (simp only [maxLen]; omega) | (simp only [List.length_append, List.length_cons, List.length_nil, List.length_take, maxLen]; omega) | (simp only [List.length_append, List.length_cons, List.length_nil, List.length_take]; omega)) (by first | omega | (simp only [maxLen]; omega) | (simp only [List.length_append, List.length_cons, List.length_nil, List.length_take, maxLen]; omega) | (simp only [List.length_append, List.length_cons, List.length_nil, List.length_take]; omega))) rfl (fun b28 p28 => ?_)
    refine wpl_t (t_alloc Try.ti25 HT.z.c rfl) rfl (fun b5 => ?_)
    refine wpl_t0 (t_stA Try.ti25 rfl rfl LenC.h OneC.h LenC.h) (fun _ => ?_)
    refine wpl_q (q_pure rfl) rfl ?_
    refine wpl_nil ?_
    refine ex_then ?_
    refine wpc_seq ?_
    refine wpc_region ?_
    refine wpl_q (q_ldN Try.underlying25 rfl Try.ti25 rfl LenC.h) rfl ?_
    refine wpl_tp (t_callP1 Try.hb33 rfl fun w h => octEncode t w (ht.old h) s1 (by omega)) rfl (fun b31 p31 => ?_)
    refine wpl_q (q_pure rfl) rfl ?_
    refine wpl_q (q_pure rfl) rfl ?_
    refine wpl_q (q_pure rfl) rfl ?_
    refine wpl_q (q_pure rfl) rfl ?_
    refine wpl_q (q_pure rfl) rfl ?_
    refine wpl_nil ?_
    refine ex_then ?_
    refine wpc_seq ?_
    refine wpc_region ?_
    refine wpl_q (q_ldN Try.underlying25 rfl Try.ti25 rfl LenC.h) rfl ?_
    refine wpl_tp (t_callP1 Try.hb34 rfl fun w h => refEncode t w (ht.old h) s1 (by omega)) rfl (fun b36 p36 => ?_)
    refine wpl_q (q_pure rfl) rfl ?_
    refine wpl_q (q_pure rfl) rfl ?_
    refine wpl_q (q_pure rfl) rfl ?_
    refine wpl_q (q_pure rfl) rfl ?_
    refine wpl_q (q_pure rfl) rfl ?_
    refine wpl_nil ?_
    refine ex_then ?_
    refine wpc_seq ?_
    refine wpc_region ?_
    refine wpl_q (q_pure rfl) rfl ?_
    refine wpl_tp (t_callE (fun y : HT => .row b36 (encF t.tr).1.length 5 1 (v8s (encF t.tr).1) :: .row b31 (encF t.tr).1.length 5 1 (v8s (encF t.tr).1) :: .blk b5 25 b25.c :: .row b28 xs.length 5 1 (v8s xs) :: .blk b2 25 t.c :: y.ents) (fun y => List.perm_append_comm) Try.hb35 rfl fun w h => decode av xs w (h.seen_old hav)) rfl (fun b41 p41 => ?_)
    haveI := p41.2.one
    refine wpl_q (q_pure rfl) rfl ?_
    refine wpl_q (q_pure rfl) rfl ?_
    refine wpl_q (q_pure rfl) rfl ?_
    refine wpl_t (t_alloc Try.ti25 HT.z.c rfl) rfl (fun b11 => ?_)
    refine wpl_t0 (t_stA Try.ti25 rfl rfl LenC.h OneC.h LenC.h) (fun _ => ?_)
    refine wpl_q (q_pure rfl) rfl ?_
    refine wpl_nil ?_
    refine ex_then ?_
    refine wpc_seq ?_
    refine wpc_region ?_
    refine wpl_q (q_pure rfl) rfl ?_
    refine wpl_tp (t_callPT Try.hb36 rfl fun w h => frz (refDecode av xs w (h.seen_old hav))) rfl (fun b46 p46 => ?_)
    haveI := p46.2.one
    refine wpl_q (q_pure rfl) rfl ?_
    refine wpl_q (q_pure rfl) rfl ?_
    refine wpl_q (q_pure rfl) rfl ?_
    refine wpl_t (t_alloc Try.ti25 HT.z.c rfl) rfl (fun b13 => ?_)
    refine wpl_t0 (t_stA Try.ti25 rfl rfl LenC.h OneC.h LenC.h) (fun _ => ?_)
    refine wpl_q (q_pure rfl) rfl ?_
    refine wpl_nil ?_
    refine ex_then ?_
    refine wpc_seq ?_
    refine wpc_region ?_
    refine wpl_q (q_pure rfl) rfl ?_
    refine wpl_q (q_pure rfl) rfl ?_
    refine wpl_t (t_pur (v := .bool true) Try.hb37 rfl fun w h => by have q := sameB b31 (encF t.tr).1 b36 (encF t.tr).1 w (h.seenV) (h.seenV); rwa [decide_eq_true (show (encF t.tr).1 = (encF t.tr).1 from rfl)] at q) rfl (fun b51 => ?_)
    refine wpl_q (q_pure rfl) rfl ?_
    refine wpl_on rfl rfl ?_
    refine wpl_q (q_pure rfl) rfl ?_
    refine wpl_on rfl rfl ?_
    refine wpl_q (q_pure rfl) rfl ?_
    refine wpl_on rfl rfl ?_
    refine wpl_q (q_tru (q_eqI rfl rfl) (by simp)) rfl ?_
    refine wpl_q (q_pure rfl) rfl ?_
    refine wpl_q (q_pure rfl) rfl ?_
    refine wpl_on rfl rfl ?_
    refine wpl_q (q_ldN Try.underlying25 rfl Try.ti25 rfl LenC.h) rfl ?_
    refine wpl_on rfl rfl ?_
    refine wpl_q (q_ldN Try.underlying25 rfl Try.ti25 rfl LenC.h) rfl ?_
    refine wpl_on rfl rfl ?_
    refine wpl_t (t_pur (v := .bool true) Try.hb21 rfl fun w h => by have q := refSame b41 b46 w (Mem.hseen h) (Mem.hseenF h (by simp)); rwa [decide_eq_true (show b41.tr = b46.tr from p41.1.trans p46.1.symm)] at q) rfl (fun b60 => ?_)
    refine wpl_q (q_pure rfl) rfl ?_
    refine wpl_q (q_pure rfl) rfl ?_
    refine wpl_on rfl rfl ?_
    refine wpl_q (q_pure rfl) rfl ?_
    refine wpl_on rfl rfl ?_
    refine wpl_q (q_pure rfl) rfl ?_
    refine wpl_on rfl rfl ?_
    refine wpl_q (q_tru (q_eqI rfl rfl) (by simp)) rfl ?_
    refine wpl_q (q_pure rfl) rfl ?_
    refine wpl_q (q_pure rfl) rfl ?_
    refine wpl_nil ?_
    refine ex_then ?_
    refine wpc_seq ?_
    refine wpc_seq ?_
    refine wpc_region ?_
    refine wpl_q (q_pure rfl) rfl ?_
    refine wpl_nil ?_
    refine ex_then ?_
    refine wpc_block ?_
    refine wpc_loopc (ι := { x : Nat × List UInt8 // (x.1 ≤ (encF t.tr).1.length) ∧ (x.2.length = (encF t.tr).1.length) }) [(1, _), (2, _), (5, _), (6, _), (11, _), (15, _)] (fun x Lc => (16, .int .i64 ((x.1.1 : Nat) : Int)) :: (7, b31) :: Lc) (fun x => Mem w [] (.blk b13 25 b46.c :: .blk b11 25 b41.c :: .row b36 (encF t.tr).1.length 5 1 (v8s (encF t.tr).1) :: .row b31 (encF t.tr).1.length 5 1 (v8s x.1.2) :: .blk b5 25 b25.c :: .row b28 xs.length 5 1 (v8s xs) :: .blk b2 25 t.c :: b41.ents) [Go.Proofs.Ytommkigkkeailaa.hseen b46, Go.Proofs.Ytommkigkkeailaa.hseen b25]) (fun x => (encF t.tr).1.length - x.1.1) ⟨(0, (encF t.tr).1), ⟨Nat.zero_le _, rfl⟩⟩ (by repeat (first | exact trivial | refine ⟨rfl, ?_⟩)) ?_ ?_
    ·
     exact fun w h => h
    ·
     rintro ⟨⟨j, zs⟩, ⟨hi0, hi1⟩⟩; try dsimp only
     have hi0 : j ≤ (encF t.tr).1.length := hi0; have hi1 : zs.length = (encF t.tr).1.length := hi1
     refine wpc_seq ?_
     refine wpc_seq ?_
     refine wpc_region ?_
     refine wpl_q (q_pure rfl) rfl ?_
     refine wpl_q (q_pure rfl) rfl ?_
     refine wpl_q (q_lenW Try.underlying22 rfl (by first | assumption | exact SV.nil | exact SV.slv (by assumption) (by omega) (by omega) | exact arv_sv (by first | decide | (simp only [maxLen]; omega)))) rfl ?_
     refine wpl_q (q_pure rfl) rfl ?_
     refine wpl_nil ?_
     refine ex_then ?_
     refine wpc_cond rfl (fun hc70 => ?_) (fun hc70 => ?_)
     ·
      simp only [decide_eq_true_eq] at hc70
      have hjl : j < zs.length := by omega
      refine wpc_skip ?_
      refine ex_then ?_
      refine wpc_seq ?_
      refine wpc_block ?_
      refine wpc_region ?_
      refine wpl_q (q_pure rfl) rfl ?_
      refine wpl_q (q_pure rfl) rfl ?_
      refine wpl_q (q_idxW1 Try.underlying22 Try.ti5 rfl rfl (by first | assumption | exact SV.nil | exact SV.slv (by assumption) (by omega) (by omega) | exact arv_sv (by first | decide | (simp only [maxLen]; omega))) (by first | omega | (simp only [maxLen]; omega) | (simp only [List.length_append, List.length_cons, List.length_nil, List.length_take, maxLen]; omega) | (simp only [List.length_append, List.length_cons, List.length_nil, List.length_take]; omega))) rfl ?_
      refine wpl_q (q_ldW Try.underlying5 rfl rfl (fun w h => by first | exact h.seenV | exact h.seenA (by first | decide | (simp only [maxLen]; omega)) (by first | with_reducible rfl | (simp only [v8s_length, v32s_length, vis_length, vns_length, v64s_length, List.length_replicate]; first | done | with_reducible assumption | omega) | (rw [v8s_length]; (first | with_reducible assumption | with_reducible exact shortF_length _ | with_reducible exact stepF_length _ _ _ | with_reducible exact sumF_length _ | with_reducible exact climbF_length _ (by first | with_reducible assumption | with_reducible exact shortF_length _ | with_reducible exact beginF_length _ _ | with_reducible exact getD_mem_len (by assumption) (by omega)) _ _ _ | with_reducible exact beginF_length _ _ | with_reducible exact chainF_length _ _ _ | with_reducible exact recF_length _ _ | with_reducible exact publicF_length _ | with_reducible exact getD_mem_len (by assumption) (by omega) | (with_reducible exact List.length_replicate))) | rfl) | exact h.seen_old (by assumption) | exact h.seen_oldL (by assumption) (by assumption) | exact h.seen_fact (by repeat (first | exact List.mem_cons_self .. | apply List.mem_cons_of_mem))) (v8s_get hjl)) rfl ?_
      refine wpl_q (q8_add (b := (1 : UInt8)) rfl rfl) rfl ?_
      refine wpl_q (q_idxW1 Try.underlying22 Try.ti5 rfl rfl (by first | assumption | exact SV.nil | exact SV.slv (by assumption) (by omega) (by omega) | exact arv_sv (by first | decide | (simp only [maxLen]; omega))) (by first | omega | (simp only [maxLen]; omega) | (simp only [List.length_append, List.length_cons, List.length_nil, List.length_take, maxLen]; omega) | (simp only [List.length_append, List.length_cons, List.length_nil, List.length_take]; omega))) rfl ?_
      refine wpl_t0 (t_stW Try.ti5 rfl rfl rfl (by first | decide | omega | exact Nat.zero_lt_one | (simp; omega) | (simp; done) | (simp only [v8s_length, v32s_length, vis_length, vns_length, v64s_length]; omega)) _ (by first | exact v8s_set _ | rfl)) (fun _ => ?_)
      refine wpl_nil ?_
      refine ex_block ?_
      refine ex_then ?_
      refine wpc_region ?_
      refine wpl_q (q_pure rfl) rfl ?_
      refine wpl_q (q_addN (b := 1) rfl rfl (by first | omega | (simp only [maxLen]; omega) | (simp only [List.length_append, List.length_cons, List.length_nil, List.length_take, maxLen]; omega) | (simp only [List.length_append, List.length_cons, List.length_nil, List.length_take]; omega))) rfl ?_
      refine wpl_q (q_pure rfl) rfl ?_
      refine wpl_nil ?_
      refine ex_again ⟨(j + 1, zs.set j (zs.getD j 0 + 1)), ⟨by dsimp only; omega, by rw [List.length_set]; exact hi1⟩⟩ ?_ ?_ ?_
      ·
       exact (by repeat (first | exact trivial | refine ⟨rfl, ?_⟩))
      ·
       exact fun w h => h
      ·
       (show (encF t.tr).1.length - (j + 1) < (encF t.tr).1.length - j); omega
     ·
      refine wpc_exit ?_
      refine ex_then_exit ?_
      refine ex_then_exit ?_
      refine ex_block_hit ?_
      refine ex_then ?_
      refine wpc_seq ?_
      refine wpc_region ?_
      refine wpl_q (q_ldN Try.underlying25 rfl Try.ti25 rfl LenC.h) rfl ?_
      refine wpl_tp (t_callQ b41.ents [.blk b13 25 b46.c, .blk b11 25 b41.c, .row b36 (encF t.tr).1.length 5 1 (v8s (encF t.tr).1), .row b31 (encF t.tr).1.length 5 1 (v8s zs), .blk b5 25 b25.c, .row b28 xs.length 5 1 (v8s xs), .blk b2 25 t.c] (fun _ => [.blk b13 25 b46.c, .blk b11 25 b41.c, .row b36 (encF t.tr).1.length 5 1 (v8s (encF t.tr).1), .row b31 (encF t.tr).1.length 5 1 (v8s zs), .blk b5 25 b25.c, .row b28 xs.length 5 1 (v8s xs), .blk b2 25 t.c]) (by have q := List.perm_append_comm (l₁ := [.blk b13 25 b46.c, .blk b11 25 b41.c, .row b36 (encF t.tr).1.length 5 1 (v8s (encF t.tr).1), .row b31 (encF t.tr).1.length 5 1 (v8s zs), .blk b5 25 b25.c, .row b28 xs.length 5 1 (v8s xs), .blk b2 25 t.c]) (l₂ := b41.ents); exact q) (fun _ => List.Perm.refl _) Try.hb28 rfl fun w h h2 => spoil b41 w h2) rfl (fun b80 p80 => ?_)
      refine wpl_nil ?_
      refine ex_then ?_
      refine wpc_seq ?_
      refine wpc_region ?_
      refine wpl_q (q_pure rfl) rfl ?_
      refine wpl_q (q_pure rfl) rfl ?_
      refine wpl_on rfl rfl ?_
      refine wpl_q (q_ldN Try.underlying25 rfl Try.ti25 rfl LenC.h) rfl ?_
      refine wpl_on rfl rfl ?_
      refine wpl_q (q_ldN Try.underlying25 rfl Try.ti25 rfl LenC.h) rfl ?_
      refine wpl_on rfl rfl ?_
      refine wpl_t (t_pur (v := .bool true) Try.hb21 rfl fun w h => by have q := refSame t b25 w (ht.old h) (Mem.hseenF h (by simp)); rwa [decide_eq_true (show t.tr = b25.tr from rfl.trans p25.1.symm)] at q) rfl (fun b85 => ?_)
      refine wpl_q (q_pure rfl) rfl ?_
      refine wpl_q (q_pure rfl) rfl ?_
      refine wpl_on rfl rfl ?_
      refine wpl_q (q_pure rfl) rfl ?_
      refine wpl_on rfl rfl ?_
      refine wpl_q (q_pure rfl) rfl ?_
      refine wpl_on rfl rfl ?_
      refine wpl_t (t_pur (v := .bool true) Try.hb37 rfl fun w h => by have q := sameB av xs b28 xs w (h.seen_old hav) (h.seenV); rwa [decide_eq_true (show xs = xs from rfl)] at q) rfl (fun b90 => ?_)
      refine wpl_q (q_pure rfl) rfl ?_
      refine wpl_q (q_pure rfl) rfl ?_
      refine wpl_nil ?_
      refine ex_then ?_
      refine wpc_ret ?_
      refine ret1 (.inl rfl) rfl rfl ?_
      exact fun w h => ⟨rfl, h.below⟩

end Go.Proofs.Ytommkigkkeailaa
