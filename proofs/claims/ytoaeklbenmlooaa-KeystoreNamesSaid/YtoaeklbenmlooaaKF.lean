/- The reference scans. -/
import Derived.Test.YtoaeklbenmlooaaKE
namespace Go.Proofs.Ytoaeklbenmlooaa
set_option linter.unusedSimpArgs false
set_option linter.unusedVariables false
open Go Go.PL Go.RowKit

def thereB (ks : List KE) (r : Rec) : Bool := decide (0 ≤ placeF ks r.id) && decide ((ks.getD (placeF ks r.id).toNat KE.z).ht = ((r.h.toNat : Nat) : Int)) && !(ks.getD (placeF ks r.id).toNat KE.z).dr
def isNew (ks : List KE) (r : Rec) : Bool := decide (r.k = 1) && decide (placeF ks r.id < 0) && decide (ks.length < 8) && decide (r.h.toNat ≤ 4) && decide (r.v.toNat = 0)
def isRes (ks : List KE) (r : Rec) : Bool := decide (r.k = 2) && thereB ks r && decide ((ks.getD (placeF ks r.id).toNat KE.z).ak < ((r.v.toNat : Nat) : Int)) && decide (r.v.toNat ≤ 2 ^ r.h.toNat)
def isDrp (ks : List KE) (r : Rec) : Bool := decide (r.k = 3) && thereB ks r && decide (((r.v.toNat : Nat) : Int) = (ks.getD (placeF ks r.id).toNat KE.z).ak)
theorem place_nat {ks : List KE} {id : UInt32} (h : 0 ≤ placeF ks id) : (placeF ks id).toNat < ks.length ∧ placeF ks id = (((placeF ks id).toNat : Nat) : Int) := by
  rcases idxF_spec (isId id) KE.z ks with ⟨e, _⟩ | ⟨j, h1, h2, _⟩
  · rw [placeF, e] at h; exact absurd h (by decide)
  · rw [placeF, h2, Int.toNat_natCast]; exact ⟨h1, rfl⟩
theorem read_new {ks : List KE} {r : Rec} (h : isNew ks r = true) : readF ks r = some (ks ++ [⟨r.id, ((r.h.toNat : Nat) : Int), 0, 0, 0, false⟩]) := by
  simp only [isNew, Bool.and_eq_true, decide_eq_true_eq] at h
  obtain ⟨⟨⟨⟨h1, h2⟩, h3⟩, h4⟩, h5⟩ := h
  exact readF_1 h1 (fun hh => by rcases hh with hh | hh | hh | hh; omega; omega; omega; exact hh (UInt16.toNat_inj.1 h5))
theorem there_spec {ks : List KE} {r : Rec} (h : thereB ks r = true) : 0 ≤ placeF ks r.id ∧ (ks.getD (placeF ks r.id).toNat KE.z).ht = ((r.h.toNat : Nat) : Int) ∧ (ks.getD (placeF ks r.id).toNat KE.z).dr = false := by
  simp only [thereB, Bool.and_eq_true, decide_eq_true_eq, Bool.not_eq_true'] at h
  exact ⟨h.1.1, h.1.2, h.2⟩
theorem there_ng {ks : List KE} {r : Rec} (h : thereB ks r = true) : ¬ ((ks.getD (placeF ks r.id).toNat KE.z).dr = true ∨ (ks.getD (placeF ks r.id).toNat KE.z).ht ≠ ((r.h.toNat : Nat) : Int)) := by
  obtain ⟨h1, h2, h3⟩ := there_spec h
  rintro (hh | hh)
  · rw [h3] at hh; cases hh
  · exact hh h2
theorem read_res {ks : List KE} {r : Rec} (h : isRes ks r = true) : readF ks r = some (ks.set (placeF ks r.id).toNat { ks.getD (placeF ks r.id).toNat KE.z with nx := (r.v.toNat : Nat), du := (r.v.toNat : Nat), ak := (r.v.toNat : Nat) }) := by
  simp only [isRes, Bool.and_eq_true, decide_eq_true_eq] at h
  obtain ⟨⟨⟨h1, h2⟩, h3⟩, h4⟩ := h
  rw [readF_j (by rw [h1]; decide) (place_nat (there_spec h2).1).2, if_neg (there_ng h2), if_pos h1, if_neg (fun hh => by rcases hh with hh | hh <;> omega)]
theorem read_drp {ks : List KE} {r : Rec} (h : isDrp ks r = true) : readF ks r = some (ks.set (placeF ks r.id).toNat { ks.getD (placeF ks r.id).toNat KE.z with dr := true }) := by
  simp only [isDrp, Bool.and_eq_true, decide_eq_true_eq] at h
  obtain ⟨⟨h1, h2⟩, h3⟩ := h
  rw [readF_j (by rw [h1]; decide) (place_nat (there_spec h2).1).2, if_neg (there_ng h2), if_neg (by rw [h1]; decide), if_pos h1, if_neg (fun hh => hh h3)]
theorem read_def {ks : List KE} {r : Rec} (h1 : isNew ks r = false) (h2 : isRes ks r = false) (h3 : isDrp ks r = false) : readF ks r = none := by
  by_cases k1 : r.k = 1
  · refine readF_1n k1 ?_
    by_cases hc : 0 ≤ placeF ks r.id ∨ 8 ≤ ks.length ∨ 4 < r.h.toNat ∨ r.v ≠ 0
    · exact hc
    · exfalso
      have : isNew ks r = true := by
        simp only [isNew, Bool.and_eq_true, decide_eq_true_eq]
        refine ⟨⟨⟨⟨k1, ?_⟩, ?_⟩, ?_⟩, ?_⟩
        · apply Int.not_le.1; exact fun hh => hc (.inl hh)
        · apply Nat.not_le.1; exact fun hh => hc (.inr (.inl hh))
        · apply Nat.not_lt.1; exact fun hh => hc (.inr (.inr (.inl hh)))
        · by_cases hv : r.v = 0
          · rw [hv]; rfl
          · exact absurd (.inr (.inr (.inr hv))) hc
      rw [h1] at this; cases this
  · by_cases hp : 0 ≤ placeF ks r.id
    · rw [readF_j k1 (place_nat hp).2]
      by_cases hn : (ks.getD (placeF ks r.id).toNat KE.z).dr = true ∨ (ks.getD (placeF ks r.id).toNat KE.z).ht ≠ ((r.h.toNat : Nat) : Int)
      · rw [if_pos hn]
      · have ht : thereB ks r = true := by
          simp only [thereB, Bool.and_eq_true, decide_eq_true_eq, Bool.not_eq_true']
          refine ⟨⟨hp, ?_⟩, ?_⟩
          · by_cases hh : (ks.getD (placeF ks r.id).toNat KE.z).ht = ((r.h.toNat : Nat) : Int)
            · exact hh
            · exact absurd (.inr hh) hn
          · cases hh : (ks.getD (placeF ks r.id).toNat KE.z).dr
            · rfl
            · exact absurd (.inl hh) hn
        rw [if_neg hn]
        by_cases k2 : r.k = 2
        · rw [if_pos k2]
          by_cases hc : ((r.v.toNat : Nat) : Int) ≤ (ks.getD (placeF ks r.id).toNat KE.z).ak ∨ 2 ^ r.h.toNat < r.v.toNat
          · rw [if_pos hc]
          · exfalso
            have : isRes ks r = true := by
              simp only [isRes, Bool.and_eq_true, decide_eq_true_eq]
              exact ⟨⟨⟨k2, ht⟩, by omega⟩, by omega⟩
            rw [h2] at this; cases this
        · rw [if_neg k2]
          by_cases k3 : r.k = 3
          · rw [if_pos k3]
            by_cases hc : ((r.v.toNat : Nat) : Int) ≠ (ks.getD (placeF ks r.id).toNat KE.z).ak
            · rw [if_pos hc]
            · exfalso
              have : isDrp ks r = true := by
                simp only [isDrp, Bool.and_eq_true, decide_eq_true_eq]
                exact ⟨⟨k3, ht⟩, by omega⟩
              rw [h3] at this; cases this
          · rw [if_neg k3]
    · exact readF_0n k1 (by omega)
theorem or16 (a b : UInt8) : (sl16 (of16 (a.toNat : Int)) 8 ||| of16 (b.toNat : Int)).toNat = 256 * a.toNat + b.toNat := by
  have ha := a.toNat_lt
  have hb := b.toNat_lt
  have e1 : (of16 (a.toNat : Int)).toNat = a.toNat := by simp only [of16, UInt16.toNat_ofNat']; omega
  have e2 : (of16 (b.toNat : Int)).toNat = b.toNat := by simp only [of16, UInt16.toNat_ofNat']; omega
  have e3 : (sl16 (of16 (a.toNat : Int)) 8).toNat = a.toNat * 2 ^ 8 := by
    simp only [sl16, UInt16.toNat_ofNat', e1]
    have : min 8 16 = 8 := rfl
    rw [this]; omega
  rw [UInt16.toNat_or, e2, e3, Nat.mul_comm, ← Nat.two_pow_add_eq_or_of_lt (by omega)]
theorem recAt_k (bs : List UInt8) (n : Nat) : (recAt (bs.drop n)).k = bs.getD n 0 := getD_drop0 bs n 0
theorem recAt_h (bs : List UInt8) (n : Nat) : (recAt (bs.drop n)).h = bs.getD (n + 1) 0 := getD_drop0 bs n 1
theorem recAt_v (bs : List UInt8) (n : Nat) : (recAt (bs.drop n)).v.toNat = 256 * (bs.getD (n + 2) 0).toNat + (bs.getD (n + 3) 0).toNat := by
  show (sl16 (of16 ((bs.drop n).getD 2 0).toNat) 8 ||| of16 ((bs.drop n).getD 3 0).toNat).toNat = _
  rw [or16, getD_drop0, getD_drop0]
theorem recAt_id (bs : List UInt8) (n : Nat) : (recAt (bs.drop n)).id = ((sl32 (of32 (bs.getD (n + 4) 0).toNat) 24 ||| sl32 (of32 (bs.getD (n + 5) 0).toNat) 16) ||| sl32 (of32 (bs.getD (n + 6) 0).toNat) 8) ||| of32 (bs.getD (n + 7) 0).toNat := by
  rw [← getD_drop0 bs n 4, ← getD_drop0 bs n 5, ← getD_drop0 bs n 6, ← getD_drop0 bs n 7]; rfl
theorem ref_ok (bs : List UInt8) (n : Nat) (r : Rec) (hr : recAt (bs.drop n) = r) : decide (recN r.k r.h.toNat r.v.toNat r.id = (bs.drop n).take (n + 10 - n)) = okRec (bs.drop n) := by
  rw [recN_eq, ← hr, show n + 10 - n = 10 by omega]; rfl
theorem scan_next {bs : List UInt8} {ks k' : List KE} {n : Nat} {r : Rec} (hs : scanR bs = ((scanF ks (recs (bs.drop n))).1, n + (scanF ks (recs (bs.drop n))).2)) (hl : 10 ≤ (bs.drop n).length) (hk : okRec (bs.drop n) = true) (hr : recAt (bs.drop n) = r) (hf : readF ks r = some k') :
    scanR bs = ((scanF k' (recs (bs.drop (n + 10)))).1, n + 10 + (scanF k' (recs (bs.drop (n + 10)))).2) := by
  rw [hs, recs_cons hl hk, hr, scanF, hf, List.drop_drop]
  simp only [Prod.mk.injEq, true_and]; omega
theorem scan_end {bs : List UInt8} {ks : List KE} {n : Nat} (hs : scanR bs = ((scanF ks (recs (bs.drop n))).1, n + (scanF ks (recs (bs.drop n))).2)) (hn : recs (bs.drop n) = []) : scanR bs = (ks, n) := by
  rw [hs, hn, scanF, Nat.add_zero]
theorem scan_none {bs : List UInt8} {ks : List KE} {n : Nat} {r : Rec} (hs : scanR bs = ((scanF ks (recs (bs.drop n))).1, n + (scanF ks (recs (bs.drop n))).2)) (hl : 10 ≤ (bs.drop n).length) (hk : okRec (bs.drop n) = true) (hr : recAt (bs.drop n) = r) (hf : readF ks r = none) : scanR bs = (ks, n) := by
  rw [hs, recs_cons hl hk, hr, scanF, hf]; simp
theorem kcs_updB {ks : List KE} {j : Nat} (n : Int) (h : j < ks.length) : (((kcs ks).set (j * 6 + 4) (.int .i64 n)).set (j * 6 + 2) (.int .i64 n)).set (j * 6 + 3) (.int .i64 n) = kcs (ks.set j { ks.getD j KE.z with nx := n, du := n, ak := n }) := by
  rw [List.set_comm _ _ (show j * 6 + 4 ≠ j * 6 + 2 by omega), List.set_comm _ _ (show j * 6 + 4 ≠ j * 6 + 3 by omega), kcs_upd n h]

set_option maxRecDepth 100000 in
theorem refScan (bv : Value) (bs : List UInt8) (w : World) (hbv : Seen w.cell? bv bs.length 1 (v8s bs)) (hle : bs.length ≤ 4611686018427387904) :
    Calls Try.prog 44 [bv].toArray w (GivesP w (fun v => SV v (scanR bs).1.length) (fun v => .tuple #[v, .int .i64 (((scanR bs).2 : Nat) : Int)]) (fun v => [kRow v (scanR bs).1]) (fun _ => [])) := by
  have sbv := hbv.sv
  have lbv := sbv.le
  simp only [maxLen] at lbv
  refine enter (m := 194) (R := Mem w [] [] []) Try.func44 rfl rfl (Nat.le_of_ble_eq_true rfl) (Mem.start w) ?_
  refine wpc_seq ?_
  refine wpc_region ?_
  refine wpl_q (q_pure rfl) rfl ?_
  refine wpl_q (q_pure rfl) rfl ?_
  refine wpl_nil ?_
  refine ex_then ?_
  refine wpc_seq ?_
  refine wpc_region ?_
  refine wpl_q (q_pure rfl) rfl ?_
  refine wpl_nil ?_
  refine ex_then ?_
  refine wpc_seq ?_
  refine wpc_region ?_
  refine wpl_q (q_pure rfl) rfl ?_
  refine wpl_nil ?_
  refine ex_then ?_
  refine wpc_seq ?_
  refine wpc_block ?_
  refine wpc_loopc (ι := { x : Nat × List KE × Value // (x.1 ≤ bs.length) ∧ (SV x.2.2 x.2.1.length) ∧ (KOk x.2.1) ∧ (scanR bs = ((scanF x.2.1 (recs (bs.drop x.1))).1, x.1 + (scanF x.2.1 (recs (bs.drop x.1))).2)) }) [(0, _)] (fun x Lc => (5, .int .i64 ((x.1.1 : Nat) : Int)) :: (4, x.1.2.2) :: Lc) (fun x => Mem w [] [kRow x.1.2.2 x.1.2.1] []) (fun x => bs.length - x.1.1) ⟨(0, [], .slice none 0 0), ⟨Nat.zero_le _, SV.nil, KOk.nil, by rw [List.drop_zero, Nat.zero_add]; rfl⟩⟩ (by repeat (first | exact trivial | refine ⟨rfl, ?_⟩)) ?_ ?_
  ·
   exact fun w h => h.nilRow 66 6
  ·
   rintro ⟨⟨n, ks, v⟩, ⟨hi0, hi1, hi2, hi3⟩⟩; try dsimp only
   have hi0 : n ≤ bs.length := hi0; have hi1 : SV v ks.length := hi1; have hi2 : KOk ks := hi2; have hi3 : scanR bs = ((scanF ks (recs (bs.drop n))).1, n + (scanF ks (recs (bs.drop n))).2) := hi3
   have hdl : (bs.drop n).length = bs.length - n := List.length_drop
   obtain ⟨r, hr⟩ : ∃ r, recAt (bs.drop n) = r := ⟨_, rfl⟩
   have hrk := recAt_k bs n
   have hrh := recAt_h bs n
   have hrv := recAt_v bs n
   have hrid := recAt_id bs n
   rw [hr] at hrk hrh hrv hrid
   have hb1 := r.h.toNat_lt
   have hb2 := r.v.toNat_lt
   have hkl := kcs_length ks
   have hk8 := hi2.1
   have hx2 := (bs.getD (n + 2) 0).toNat_lt
   have hx3 := (bs.getD (n + 3) 0).toNat_lt
   refine wpc_seq ?_
   refine wpc_seq ?_
   refine wpc_region ?_
   refine wpl_q (q_pure rfl) rfl ?_
   refine wpl_q (q_addN (b := 10) rfl rfl (by first | omega | (simp only [maxLen]; omega) | (simp only [List.length_append, List.length_cons, List.length_nil, List.length_take, maxLen]; omega) | (simp only [List.length_append, List.length_cons, List.length_nil, List.length_take]; omega))) rfl ?_
   refine wpl_q (q_pure rfl) rfl ?_
   refine wpl_q (q_lenW Try.underlying24 rfl (by first | assumption | exact SV.nil | exact SV.slv (by assumption) (by omega) (by omega) | exact arv_sv (by first | decide | (simp only [maxLen]; omega)))) rfl ?_
   refine wpl_q (q_pure rfl) rfl ?_
   refine wpl_nil ?_
   refine ex_then ?_
   refine wpc_cond rfl (fun hc16 => ?_) (fun hc16 => ?_)
   ·
    simp only [decide_eq_true_eq] at hc16
    have hlen : 10 ≤ (bs.drop n).length := by omega
    refine wpc_skip ?_
    refine ex_then ?_
    refine wpc_block ?_
    refine wpc_seq ?_
    refine wpc_draw 27 (by kernel_rfl) (fun _ h => h.drew) ?_
    refine wpd_p 0 rfl (by kernel_rfl) trivial (q_pure rfl) rfl sk0 ?_
    refine wpd_p 1 rfl (by kernel_rfl) trivial (q_pure rfl) rfl sk0 ?_
    refine wpd_p 2 rfl (by kernel_rfl) trivial (q_idxW1 Try.underlying24 Try.ti5 rfl rfl (by first | assumption | exact SV.nil | exact SV.slv (by assumption) (by omega) (by omega) | exact arv_sv (by first | decide | (simp only [maxLen]; omega))) (by first | omega | (simp only [maxLen]; omega) | (simp only [List.length_append, List.length_cons, List.length_nil, List.length_take, maxLen]; omega) | (simp only [List.length_append, List.length_cons, List.length_nil, List.length_take]; omega))) rfl sk0 ?_
    refine wpd_q 3 rfl (by kernel_rfl) trivial (q_ldW Try.underlying5 rfl rfl (fun w h => by first | exact h.seenV | exact h.seenA (by first | decide | (simp only [maxLen]; omega)) (by first | with_reducible rfl | (simp only [v8s_length, v32s_length, vis_length, vns_length, v64s_length, List.length_replicate]; first | done | with_reducible assumption | omega) | (rw [v8s_length]; (first | with_reducible assumption | with_reducible exact shortF_length _ | with_reducible exact stepF_length _ _ _ | with_reducible exact sumF_length _ | with_reducible exact climbF_length _ (by first | with_reducible assumption | with_reducible exact shortF_length _ | with_reducible exact beginF_length _ _ | with_reducible exact getD_mem_len (by assumption) (by omega)) _ _ _ | with_reducible exact beginF_length _ _ | with_reducible exact chainF_length _ _ _ | with_reducible exact recF_length _ _ | with_reducible exact publicF_length _ | with_reducible exact getD_mem_len (by assumption) (by omega) | (with_reducible exact List.length_replicate))) | rfl) | exact h.seen_old (by assumption) | exact h.seen_oldL (by assumption) (by assumption) | exact h.seen_fact (by repeat (first | exact List.mem_cons_self .. | apply List.mem_cons_of_mem))) (by first | exact v8s_get (by first | decide | omega | exact Nat.zero_lt_one | (simp; omega) | (simp; done) | (simp only [v8s_length, v32s_length, vis_length, vns_length, v64s_length]; omega)) | rfl)) rfl (fun _ h => h) ?_
    refine wpd_p 4 rfl (by kernel_rfl) trivial (q_pure rfl) rfl sk0 ?_
    refine wpd_p 5 rfl (by kernel_rfl) trivial (q_pure rfl) rfl sk0 ?_
    refine wpd_p 6 rfl (by kernel_rfl) trivial (q_addN (b := 1) rfl rfl (by first | omega | (simp only [maxLen]; omega) | (simp only [List.length_append, List.length_cons, List.length_nil, List.length_take, maxLen]; omega) | (simp only [List.length_append, List.length_cons, List.length_nil, List.length_take]; omega))) rfl sk0 ?_
    refine wpd_p 7 rfl (by kernel_rfl) trivial (q_idxW1 Try.underlying24 Try.ti5 rfl rfl (by first | assumption | exact SV.nil | exact SV.slv (by assumption) (by omega) (by omega) | exact arv_sv (by first | decide | (simp only [maxLen]; omega))) (by first | omega | (simp only [maxLen]; omega) | (simp only [List.length_append, List.length_cons, List.length_nil, List.length_take, maxLen]; omega) | (simp only [List.length_append, List.length_cons, List.length_nil, List.length_take]; omega))) rfl sk0 ?_
    refine wpd_q 8 rfl (by kernel_rfl) trivial (q_ldW Try.underlying5 rfl rfl (fun w h => by first | exact h.seenV | exact h.seenA (by first | decide | (simp only [maxLen]; omega)) (by first | with_reducible rfl | (simp only [v8s_length, v32s_length, vis_length, vns_length, v64s_length, List.length_replicate]; first | done | with_reducible assumption | omega) | (rw [v8s_length]; (first | with_reducible assumption | with_reducible exact shortF_length _ | with_reducible exact stepF_length _ _ _ | with_reducible exact sumF_length _ | with_reducible exact climbF_length _ (by first | with_reducible assumption | with_reducible exact shortF_length _ | with_reducible exact beginF_length _ _ | with_reducible exact getD_mem_len (by assumption) (by omega)) _ _ _ | with_reducible exact beginF_length _ _ | with_reducible exact chainF_length _ _ _ | with_reducible exact recF_length _ _ | with_reducible exact publicF_length _ | with_reducible exact getD_mem_len (by assumption) (by omega) | (with_reducible exact List.length_replicate))) | rfl) | exact h.seen_old (by assumption) | exact h.seen_oldL (by assumption) (by assumption) | exact h.seen_fact (by repeat (first | exact List.mem_cons_self .. | apply List.mem_cons_of_mem))) (by first | exact v8s_get (by first | decide | omega | exact Nat.zero_lt_one | (simp; omega) | (simp; done) | (simp only [v8s_length, v32s_length, vis_length, vns_length, v64s_length]; omega)) | rfl)) rfl (fun _ h => h) ?_
    refine wpd_p 9 rfl (by kernel_rfl) trivial (q8_int Try.underlying5 Try.underlying3 rfl) rfl sk0 ?_
    refine wpd_p 10 rfl (by kernel_rfl) trivial (q_pure rfl) rfl sk0 ?_
    refine wpd_p 11 rfl (by kernel_rfl) trivial (q_pure rfl) rfl sk0 ?_
    refine wpd_p 12 rfl (by kernel_rfl) trivial (q_addN (b := 2) rfl rfl (by first | omega | (simp only [maxLen]; omega) | (simp only [List.length_append, List.length_cons, List.length_nil, List.length_take, maxLen]; omega) | (simp only [List.length_append, List.length_cons, List.length_nil, List.length_take]; omega))) rfl sk0 ?_
    refine wpd_p 13 rfl (by kernel_rfl) trivial (q_idxW1 Try.underlying24 Try.ti5 rfl rfl (by first | assumption | exact SV.nil | exact SV.slv (by assumption) (by omega) (by omega) | exact arv_sv (by first | decide | (simp only [maxLen]; omega))) (by first | omega | (simp only [maxLen]; omega) | (simp only [List.length_append, List.length_cons, List.length_nil, List.length_take, maxLen]; omega) | (simp only [List.length_append, List.length_cons, List.length_nil, List.length_take]; omega))) rfl sk0 ?_
    refine wpd_q 14 rfl (by kernel_rfl) trivial (q_ldW Try.underlying5 rfl rfl (fun w h => by first | exact h.seenV | exact h.seenA (by first | decide | (simp only [maxLen]; omega)) (by first | with_reducible rfl | (simp only [v8s_length, v32s_length, vis_length, vns_length, v64s_length, List.length_replicate]; first | done | with_reducible assumption | omega) | (rw [v8s_length]; (first | with_reducible assumption | with_reducible exact shortF_length _ | with_reducible exact stepF_length _ _ _ | with_reducible exact sumF_length _ | with_reducible exact climbF_length _ (by first | with_reducible assumption | with_reducible exact shortF_length _ | with_reducible exact beginF_length _ _ | with_reducible exact getD_mem_len (by assumption) (by omega)) _ _ _ | with_reducible exact beginF_length _ _ | with_reducible exact chainF_length _ _ _ | with_reducible exact recF_length _ _ | with_reducible exact publicF_length _ | with_reducible exact getD_mem_len (by assumption) (by omega) | (with_reducible exact List.length_replicate))) | rfl) | exact h.seen_old (by assumption) | exact h.seen_oldL (by assumption) (by assumption) | exact h.seen_fact (by repeat (first | exact List.mem_cons_self .. | apply List.mem_cons_of_mem))) (by first | exact v8s_get (by first | decide | omega | exact Nat.zero_lt_one | (simp; omega) | (simp; done) | (simp only [v8s_length, v32s_length, vis_length, vns_length, v64s_length]; omega)) | rfl)) rfl (fun _ h => h) ?_
    refine wpd_p 15 rfl (by kernel_rfl) trivial (q8_int Try.underlying5 Try.underlying3 rfl) rfl sk0 ?_
    refine wpd_p 16 rfl (by kernel_rfl) trivial (q_mulN (a := 256) rfl rfl (by first | omega | (simp only [maxLen]; omega) | (simp only [List.length_append, List.length_cons, List.length_nil, List.length_take, maxLen]; omega) | (simp only [List.length_append, List.length_cons, List.length_nil, List.length_take]; omega))) rfl sk0 ?_
    refine wpd_p 17 rfl (by kernel_rfl) trivial (q_pure rfl) rfl sk0 ?_
    refine wpd_p 18 rfl (by kernel_rfl) trivial (q_pure rfl) rfl sk0 ?_
    refine wpd_p 19 rfl (by kernel_rfl) trivial (q_addN (b := 3) rfl rfl (by first | omega | (simp only [maxLen]; omega) | (simp only [List.length_append, List.length_cons, List.length_nil, List.length_take, maxLen]; omega) | (simp only [List.length_append, List.length_cons, List.length_nil, List.length_take]; omega))) rfl sk0 ?_
    refine wpd_p 20 rfl (by kernel_rfl) trivial (q_idxW1 Try.underlying24 Try.ti5 rfl rfl (by first | assumption | exact SV.nil | exact SV.slv (by assumption) (by omega) (by omega) | exact arv_sv (by first | decide | (simp only [maxLen]; omega))) (by first | omega | (simp only [maxLen]; omega) | (simp only [List.length_append, List.length_cons, List.length_nil, List.length_take, maxLen]; omega) | (simp only [List.length_append, List.length_cons, List.length_nil, List.length_take]; omega))) rfl sk0 ?_
    refine wpd_q 21 rfl (by kernel_rfl) trivial (q_ldW Try.underlying5 rfl rfl (fun w h => by first | exact h.seenV | exact h.seenA (by first | decide | (simp only [maxLen]; omega)) (by first | with_reducible rfl | (simp only [v8s_length, v32s_length, vis_length, vns_length, v64s_length, List.length_replicate]; first | done | with_reducible assumption | omega) | (rw [v8s_length]; (first | with_reducible assumption | with_reducible exact shortF_length _ | with_reducible exact stepF_length _ _ _ | with_reducible exact sumF_length _ | with_reducible exact climbF_length _ (by first | with_reducible assumption | with_reducible exact shortF_length _ | with_reducible exact beginF_length _ _ | with_reducible exact getD_mem_len (by assumption) (by omega)) _ _ _ | with_reducible exact beginF_length _ _ | with_reducible exact chainF_length _ _ _ | with_reducible exact recF_length _ _ | with_reducible exact publicF_length _ | with_reducible exact getD_mem_len (by assumption) (by omega) | (with_reducible exact List.length_replicate))) | rfl) | exact h.seen_old (by assumption) | exact h.seen_oldL (by assumption) (by assumption) | exact h.seen_fact (by repeat (first | exact List.mem_cons_self .. | apply List.mem_cons_of_mem))) (by first | exact v8s_get (by first | decide | omega | exact Nat.zero_lt_one | (simp; omega) | (simp; done) | (simp only [v8s_length, v32s_length, vis_length, vns_length, v64s_length]; omega)) | rfl)) rfl (fun _ h => h) ?_
    refine wpd_p 22 rfl (by kernel_rfl) trivial (q8_int Try.underlying5 Try.underlying3 rfl) rfl sk0 ?_
    refine wpd_p 23 rfl (by kernel_rfl) trivial (q_addN rfl rfl (by first | omega | (simp only [maxLen]; omega) | (simp only [List.length_append, List.length_cons, List.length_nil, List.length_take, maxLen]; omega) | (simp only [List.length_append, List.length_cons, List.length_nil, List.length_take]; omega))) rfl sk0 ?_
    refine wpd_p 24 rfl (by kernel_rfl) trivial (q_pure rfl) rfl sk0 ?_
    refine wpd_re 6 rfl (by rw [← hrk] : _ = Value.int .u8 (r.k.toNat : Int)) ?_
    refine wpd_p 25 rfl (by kernel_rfl) trivial (q_pure rfl) rfl sk0 ?_
    refine wpd_re 7 rfl (by rw [← hrh] : _ = Value.int .i64 ((r.h.toNat : Nat) : Int)) ?_
    refine wpd_p 26 rfl (by kernel_rfl) trivial (q_pure rfl) rfl sk0 ?_
    refine wpd_re 8 rfl (by rw [← hrv] : _ = Value.int .i64 ((r.v.toNat : Nat) : Int)) ?_
    refine wpd_done (by kernel_rfl) ?_
    refine ex_then ?_
    refine wpc_seq ?_
    refine wpc_draw 31 (by kernel_rfl) (fun _ h => h.drew) ?_
    refine wpd_p 0 rfl (by kernel_rfl) trivial (q_pure rfl) rfl sk0 ?_
    refine wpd_p 1 rfl (by kernel_rfl) trivial (q_pure rfl) rfl sk0 ?_
    refine wpd_p 2 rfl (by kernel_rfl) trivial (q_addN (b := 4) rfl rfl (by first | omega | (simp only [maxLen]; omega) | (simp only [List.length_append, List.length_cons, List.length_nil, List.length_take, maxLen]; omega) | (simp only [List.length_append, List.length_cons, List.length_nil, List.length_take]; omega))) rfl sk0 ?_
    refine wpd_p 3 rfl (by kernel_rfl) trivial (q_idxW1 Try.underlying24 Try.ti5 rfl rfl (by first | assumption | exact SV.nil | exact SV.slv (by assumption) (by omega) (by omega) | exact arv_sv (by first | decide | (simp only [maxLen]; omega))) (by first | omega | (simp only [maxLen]; omega) | (simp only [List.length_append, List.length_cons, List.length_nil, List.length_take, maxLen]; omega) | (simp only [List.length_append, List.length_cons, List.length_nil, List.length_take]; omega))) rfl sk0 ?_
    refine wpd_q 4 rfl (by kernel_rfl) trivial (q_ldW Try.underlying5 rfl rfl (fun w h => by first | exact h.seenV | exact h.seenA (by first | decide | (simp only [maxLen]; omega)) (by first | with_reducible rfl | (simp only [v8s_length, v32s_length, vis_length, vns_length, v64s_length, List.length_replicate]; first | done | with_reducible assumption | omega) | (rw [v8s_length]; (first | with_reducible assumption | with_reducible exact shortF_length _ | with_reducible exact stepF_length _ _ _ | with_reducible exact sumF_length _ | with_reducible exact climbF_length _ (by first | with_reducible assumption | with_reducible exact shortF_length _ | with_reducible exact beginF_length _ _ | with_reducible exact getD_mem_len (by assumption) (by omega)) _ _ _ | with_reducible exact beginF_length _ _ | with_reducible exact chainF_length _ _ _ | with_reducible exact recF_length _ _ | with_reducible exact publicF_length _ | with_reducible exact getD_mem_len (by assumption) (by omega) | (with_reducible exact List.length_replicate))) | rfl) | exact h.seen_old (by assumption) | exact h.seen_oldL (by assumption) (by assumption) | exact h.seen_fact (by repeat (first | exact List.mem_cons_self .. | apply List.mem_cons_of_mem))) (by first | exact v8s_get (by first | decide | omega | exact Nat.zero_lt_one | (simp; omega) | (simp; done) | (simp only [v8s_length, v32s_length, vis_length, vns_length, v64s_length]; omega)) | rfl)) rfl (fun _ h => h) ?_
    refine wpd_p 5 rfl (by kernel_rfl) trivial (q32_conv Try.underlying5 Try.underlying28 rfl) rfl sk0 ?_
    refine wpd_p 6 rfl (by kernel_rfl) trivial (q32_shl rfl rfl (by first | decide | omega) 24 rfl) rfl sk0 ?_
    refine wpd_p 7 rfl (by kernel_rfl) trivial (q_pure rfl) rfl sk0 ?_
    refine wpd_p 8 rfl (by kernel_rfl) trivial (q_pure rfl) rfl sk0 ?_
    refine wpd_p 9 rfl (by kernel_rfl) trivial (q_addN (b := 5) rfl rfl (by first | omega | (simp only [maxLen]; omega) | (simp only [List.length_append, List.length_cons, List.length_nil, List.length_take, maxLen]; omega) | (simp only [List.length_append, List.length_cons, List.length_nil, List.length_take]; omega))) rfl sk0 ?_
    refine wpd_p 10 rfl (by kernel_rfl) trivial (q_idxW1 Try.underlying24 Try.ti5 rfl rfl (by first | assumption | exact SV.nil | exact SV.slv (by assumption) (by omega) (by omega) | exact arv_sv (by first | decide | (simp only [maxLen]; omega))) (by first | omega | (simp only [maxLen]; omega) | (simp only [List.length_append, List.length_cons, List.length_nil, List.length_take, maxLen]; omega) | (simp only [List.length_append, List.length_cons, List.length_nil, List.length_take]; omega))) rfl sk0 ?_
    refine wpd_q 11 rfl (by kernel_rfl) trivial (q_ldW Try.underlying5 rfl rfl (fun w h => by first | exact h.seenV | exact h.seenA (by first | decide | (simp only [maxLen]; omega)) (by first | with_reducible rfl | (simp only [v8s_length, v32s_length, vis_length, vns_length, v64s_length, List.length_replicate]; first | done | with_reducible assumption | omega) | (rw [v8s_length]; (first | with_reducible assumption | with_reducible exact shortF_length _ | with_reducible exact stepF_length _ _ _ | with_reducible exact sumF_length _ | with_reducible exact climbF_length _ (by first | with_reducible assumption | with_reducible exact shortF_length _ | with_reducible exact beginF_length _ _ | with_reducible exact getD_mem_len (by assumption) (by omega)) _ _ _ | with_reducible exact beginF_length _ _ | with_reducible exact chainF_length _ _ _ | with_reducible exact recF_length _ _ | with_reducible exact publicF_length _ | with_reducible exact getD_mem_len (by assumption) (by omega) | (with_reducible exact List.length_replicate))) | rfl) | exact h.seen_old (by assumption) | exact h.seen_oldL (by assumption) (by assumption) | exact h.seen_fact (by repeat (first | exact List.mem_cons_self .. | apply List.mem_cons_of_mem))) (by first | exact v8s_get (by first | decide | omega | exact Nat.zero_lt_one | (simp; omega) | (simp; done) | (simp only [v8s_length, v32s_length, vis_length, vns_length, v64s_length]; omega)) | rfl)) rfl (fun _ h => h) ?_
    refine wpd_p 12 rfl (by kernel_rfl) trivial (q32_conv Try.underlying5 Try.underlying28 rfl) rfl sk0 ?_
    refine wpd_p 13 rfl (by kernel_rfl) trivial (q32_shl rfl rfl (by first | decide | omega) 16 rfl) rfl sk0 ?_
    refine wpd_p 14 rfl (by kernel_rfl) trivial (q32_or rfl rfl) rfl sk0 ?_
    refine wpd_p 15 rfl (by kernel_rfl) trivial (q_pure rfl) rfl sk0 ?_
    refine wpd_p 16 rfl (by kernel_rfl) trivial (q_pure rfl) rfl sk0 ?_
    refine wpd_p 17 rfl (by kernel_rfl) trivial (q_addN (b := 6) rfl rfl (by first | omega | (simp only [maxLen]; omega) | (simp only [List.length_append, List.length_cons, List.length_nil, List.length_take, maxLen]; omega) | (simp only [List.length_append, List.length_cons, List.length_nil, List.length_take]; omega))) rfl sk0 ?_
    refine wpd_p 18 rfl (by kernel_rfl) trivial (q_idxW1 Try.underlying24 Try.ti5 rfl rfl (by first | assumption | exact SV.nil | exact SV.slv (by assumption) (by omega) (by omega) | exact arv_sv (by first | decide | (simp only [maxLen]; omega))) (by first | omega | (simp only [maxLen]; omega) | (simp only [List.length_append, List.length_cons, List.length_nil, List.length_take, maxLen]; omega) | (simp only [List.length_append, List.length_cons, List.length_nil, List.length_take]; omega))) rfl sk0 ?_
    refine wpd_q 19 rfl (by kernel_rfl) trivial (q_ldW Try.underlying5 rfl rfl (fun w h => by first | exact h.seenV | exact h.seenA (by first | decide | (simp only [maxLen]; omega)) (by first | with_reducible rfl | (simp only [v8s_length, v32s_length, vis_length, vns_length, v64s_length, List.length_replicate]; first | done | with_reducible assumption | omega) | (rw [v8s_length]; (first | with_reducible assumption | with_reducible exact shortF_length _ | with_reducible exact stepF_length _ _ _ | with_reducible exact sumF_length _ | with_reducible exact climbF_length _ (by first | with_reducible assumption | with_reducible exact shortF_length _ | with_reducible exact beginF_length _ _ | with_reducible exact getD_mem_len (by assumption) (by omega)) _ _ _ | with_reducible exact beginF_length _ _ | with_reducible exact chainF_length _ _ _ | with_reducible exact recF_length _ _ | with_reducible exact publicF_length _ | with_reducible exact getD_mem_len (by assumption) (by omega) | (with_reducible exact List.length_replicate))) | rfl) | exact h.seen_old (by assumption) | exact h.seen_oldL (by assumption) (by assumption) | exact h.seen_fact (by repeat (first | exact List.mem_cons_self .. | apply List.mem_cons_of_mem))) (by first | exact v8s_get (by first | decide | omega | exact Nat.zero_lt_one | (simp; omega) | (simp; done) | (simp only [v8s_length, v32s_length, vis_length, vns_length, v64s_length]; omega)) | rfl)) rfl (fun _ h => h) ?_
    refine wpd_p 20 rfl (by kernel_rfl) trivial (q32_conv Try.underlying5 Try.underlying28 rfl) rfl sk0 ?_
    refine wpd_p 21 rfl (by kernel_rfl) trivial (q32_shl rfl rfl (by first | decide | omega) 8 rfl) rfl sk0 ?_
    refine wpd_p 22 rfl (by kernel_rfl) trivial (q32_or rfl rfl) rfl sk0 ?_
    refine wpd_p 23 rfl (by kernel_rfl) trivial (q_pure rfl) rfl sk0 ?_
    refine wpd_p 24 rfl (by kernel_rfl) trivial (q_pure rfl) rfl sk0 ?_
    refine wpd_p 25 rfl (by kernel_rfl) trivial (q_addN (b := 7) rfl rfl (by first | omega | (simp only [maxLen]; omega) | (simp only [List.length_append, List.length_cons, List.length_nil, List.length_take, maxLen]; omega) | (simp only [List.length_append, List.length_cons, List.length_nil, List.length_take]; omega))) rfl sk0 ?_
    refine wpd_p 26 rfl (by kernel_rfl) trivial (q_idxW1 Try.underlying24 Try.ti5 rfl rfl (by first | assumption | exact SV.nil | exact SV.slv (by assumption) (by omega) (by omega) | exact arv_sv (by first | decide | (simp only [maxLen]; omega))) (by first | omega | (simp only [maxLen]; omega) | (simp only [List.length_append, List.length_cons, List.length_nil, List.length_take, maxLen]; omega) | (simp only [List.length_append, List.length_cons, List.length_nil, List.length_take]; omega))) rfl sk0 ?_
    refine wpd_q 27 rfl (by kernel_rfl) trivial (q_ldW Try.underlying5 rfl rfl (fun w h => by first | exact h.seenV | exact h.seenA (by first | decide | (simp only [maxLen]; omega)) (by first | with_reducible rfl | (simp only [v8s_length, v32s_length, vis_length, vns_length, v64s_length, List.length_replicate]; first | done | with_reducible assumption | omega) | (rw [v8s_length]; (first | with_reducible assumption | with_reducible exact shortF_length _ | with_reducible exact stepF_length _ _ _ | with_reducible exact sumF_length _ | with_reducible exact climbF_length _ (by first | with_reducible assumption | with_reducible exact shortF_length _ | with_reducible exact beginF_length _ _ | with_reducible exact getD_mem_len (by assumption) (by omega)) _ _ _ | with_reducible exact beginF_length _ _ | with_reducible exact chainF_length _ _ _ | with_reducible exact recF_length _ _ | with_reducible exact publicF_length _ | with_reducible exact getD_mem_len (by assumption) (by omega) | (with_reducible exact List.length_replicate))) | rfl) | exact h.seen_old (by assumption) | exact h.seen_oldL (by assumption) (by assumption) | exact h.seen_fact (by repeat (first | exact List.mem_cons_self .. | apply List.mem_cons_of_mem))) (by first | exact v8s_get (by first | decide | omega | exact Nat.zero_lt_one | (simp; omega) | (simp; done) | (simp only [v8s_length, v32s_length, vis_length, vns_length, v64s_length]; omega)) | rfl)) rfl (fun _ h => h) ?_
    refine wpd_p 28 rfl (by kernel_rfl) trivial (q32_conv Try.underlying5 Try.underlying28 rfl) rfl sk0 ?_
    refine wpd_p 29 rfl (by kernel_rfl) trivial (q32_or rfl rfl) rfl sk0 ?_
    refine wpd_p 30 rfl (by kernel_rfl) trivial (q_pure rfl) rfl sk0 ?_
    refine wpd_re 9 rfl (by rw [← hrid] : _ = Value.int .u32 (r.id.toNat : Int)) ?_
    refine wpd_done (by kernel_rfl) ?_
    refine ex_then ?_
    refine wpc_seq ?_
    refine wpc_seq ?_
    refine wpc_draw 12 (by kernel_rfl) (fun _ h => h.drew) ?_
    refine wpd_p 0 rfl (by kernel_rfl) trivial (q_pure rfl) rfl sk0 ?_
    refine wpd_p 1 rfl (by kernel_rfl) trivial (q_pure rfl) rfl sk0 ?_
    refine wpd_p 2 rfl (by kernel_rfl) trivial (q_pure rfl) rfl sk0 ?_
    refine wpd_p 3 rfl (by kernel_rfl) trivial (q_pure rfl) rfl sk0 ?_
    refine wpd_p 5 rfl (by kernel_rfl) trivial (q_pure rfl) rfl sk0 ?_
    refine wpd_p 6 rfl (by kernel_rfl) trivial (q_pure rfl) rfl sk0 ?_
    refine wpd_p 7 rfl (by kernel_rfl) trivial (q_pure rfl) rfl sk0 ?_
    refine wpd_p 8 rfl (by kernel_rfl) trivial (q_addN (b := 10) rfl rfl (by first | omega | (simp only [maxLen]; omega) | (simp only [List.length_append, List.length_cons, List.length_nil, List.length_take, maxLen]; omega) | (simp only [List.length_append, List.length_cons, List.length_nil, List.length_take]; omega))) rfl sk0 ?_
    refine wpd_p 9 rfl (by kernel_rfl) trivial (q_slWlh Try.underlying24 Try.ti5 rfl rfl rfl (by first | assumption | exact SV.nil | exact SV.slv (by assumption) (by omega) (by omega) | exact arv_sv (by first | decide | (simp only [maxLen]; omega))) (by omega) (by omega)) rfl sk0 ?_
    refine wpd_tp 4 rfl (by kernel_rfl) trivial (t_callP1 Try.hb54 rfl fun w h => refRecord _ _ _ _ w (by omega) (by omega)) rfl (fun _ => (fun w h => .inr (h.sub SubC.h SubC.h))) (fun b75 p75 => ?_)
    refine wpd_t 10 rfl (by kernel_rfl) trivial (t_pur (v := .bool (okRec (bs.drop n))) Try.hb35 rfl fun w h => by rw [← ref_ok bs n r hr]; exact refSameB b75 _ (slv bv n (n + 10) 1) _ w (h.seenV (m := 10)) (Seen.re8 ((h.seen_old hbv).slv8 n (n + 10) (by omega) (by omega)))) rfl (fun _ => (fun w h => .inr (h.sub SubC.h SubC.h))) (fun b81 => ?_)
    refine wpd_p 11 rfl (by kernel_rfl) trivial (q_pure rfl) rfl (fun w h => .inr (h.sub SubC.h SubC.h)) ?_
    refine wpd_done (by kernel_rfl) ?_
    refine ex_then ?_
    refine wpc_cond rfl (fun hc82 => ?_) (fun hc82 => ?_)
    ·
     have hok : okRec (bs.drop n) = false := by simpa using hc82
     have hsc := scan_end hi3 (recs_bad hok)
     refine wpc_seq ?_
     refine wpc_region ?_
     refine wpl_q (q_pure rfl) rfl ?_
     refine wpl_q (q_pure rfl) rfl ?_
     refine wpl_q (q_pure rfl) rfl ?_
     refine wpl_q (q_pure rfl) rfl ?_
     refine wpl_nil ?_
     refine ex_then ?_
     refine wpc_ret ?_
     refine ex_then_ret ?_
     refine ex_block_ret ?_
     refine ex_then_ret ?_
     refine ex_block_ret ?_
     refine ex_then_ret ?_
     refine ret2 (.inl rfl) rfl rfl rfl ?_
     exact fun w h => ⟨v, by rw [hsc]; exact hi1, by rw [hsc], h.below, by rw [hsc]; exact h.made SubC.h .nil⟩
    ·
     have hok : okRec (bs.drop n) = true := by simpa using hc82
     refine wpc_skip ?_
     refine ex_then ?_
     refine wpc_seq ?_
     refine wpc_region ?_
     refine wpl_q (q_pure rfl) rfl ?_
     refine wpl_q (q_pure rfl) rfl ?_
     refine wpl_t (t_pur Try.hb52 rfl fun w h => refPlace _ _ _ w (by first | exact Seen.re8 h.seenV | exact h.seenV | exact h.seenA (by first | decide | (simp only [maxLen]; omega)) (by first | with_reducible rfl | (simp only [v8s_length, v32s_length, vis_length, vns_length, v64s_length, List.length_replicate]; first | done | with_reducible assumption | omega) | (rw [v8s_length]; (first | with_reducible assumption | with_reducible exact shortF_length _ | with_reducible exact stepF_length _ _ _ | with_reducible exact sumF_length _ | with_reducible exact climbF_length _ (by first | with_reducible assumption | with_reducible exact shortF_length _ | with_reducible exact beginF_length _ _ | with_reducible exact getD_mem_len (by assumption) (by omega)) _ _ _ | with_reducible exact beginF_length _ _ | with_reducible exact chainF_length _ _ _ | with_reducible exact recF_length _ _ | with_reducible exact publicF_length _ | with_reducible exact getD_mem_len (by assumption) (by omega) | (with_reducible exact List.length_replicate))) | rfl) | exact h.seen_old (by assumption) | exact h.seen_oldL (by assumption) (by assumption) | exact h.seen_old hs.d | exact h.seen_old hs.p | exact h.seen_old hs.k | exact Seen.re8 (h.seen_fact (by repeat (first | exact List.mem_cons_self .. | apply List.mem_cons_of_mem))) | exact h.seen_fact (by repeat (first | exact List.mem_cons_self .. | apply List.mem_cons_of_mem)))) rfl (fun b87 => ?_)
     refine wpl_q (q_pure rfl) rfl ?_
     refine wpl_nil ?_
     refine ex_then ?_
     refine wpc_cutc ({ x : Unit // True }) [(0, bv), (4, v), (5, .int .i64 ((n : Nat) : Int)), (6, .int .u8 (r.k.toNat : Int)), (7, .int .i64 ((r.h.toNat : Nat) : Int)), (8, .int .i64 ((r.v.toNat : Nat) : Int)), (9, .int .u32 (r.id.toNat : Int)), (10, .int .i64 (placeF ks r.id))] (fun x Lc => (11, .bool (thereB ks r)) :: Lc) (fun x => Mem w [] [kRow v ks] []) ?_ ?_
     ·
      refine wpc_region ?_
      refine wpl_q (q_pure rfl) rfl ?_
      refine wpl_q (q_pure rfl) rfl ?_
      refine wpl_q (q_pure rfl) rfl ?_
      refine wpl_bool2 90 89 rfl rfl (fun hb90 => ?_) (fun hb90 => ?_)
      ·
       try simp only [decide_eq_true_eq, ge_iff_le] at hb90
       obtain ⟨hjl, hej⟩ := place_nat hb90
       refine wpl_re 10 rfl (congrArg (Value.int .i64) hej) ?_
       refine wpl_on rfl rfl ?_
       refine wpl_q (q_pure rfl) rfl ?_
       refine wpl_on rfl rfl ?_
       refine wpl_q (q_pure rfl) rfl ?_
       refine wpl_on rfl rfl ?_
       refine wpl_q (q_idxW Try.underlying25 Try.ti66 rfl rfl (by first | assumption | exact SV.nil | exact SV.slv (by assumption) (by omega) (by omega) | exact arv_sv (by first | decide | (simp only [maxLen]; omega))) (by first | omega | (simp only [maxLen]; omega) | (simp only [List.length_append, List.length_cons, List.length_nil, List.length_take, maxLen]; omega) | (simp only [List.length_append, List.length_cons, List.length_nil, List.length_take]; omega))) rfl ?_
       refine wpl_on rfl rfl ?_
       refine wpl_q (q_fieldPo 1 Try.underlying66 rfl Try.ti3 rfl rfl rfl) rfl ?_
       refine wpl_on rfl rfl ?_
       refine wpl_q (q_ldWF Try.underlying3 rfl rfl (fun w h => h.seenV) (kcs_get hjl rfl)) rfl ?_
       refine wpl_on rfl rfl ?_
       refine wpl_q (q_pure rfl) rfl ?_
       refine wpl_on rfl rfl ?_
       refine wpl_q (q_pure rfl) rfl ?_
       refine wpl_q (q_pure rfl) rfl ?_
       refine wpl_q (q_pure rfl) rfl ?_
       refine wpl_bool2 99 97 rfl rfl (fun hb99 => ?_) (fun hb99 => ?_)
       ·
        refine wpl_on rfl rfl ?_
        refine wpl_q (q_pure rfl) rfl ?_
        refine wpl_on rfl rfl ?_
        refine wpl_q (q_pure rfl) rfl ?_
        refine wpl_on rfl rfl ?_
        refine wpl_q (q_idxW Try.underlying25 Try.ti66 rfl rfl (by first | assumption | exact SV.nil | exact SV.slv (by assumption) (by omega) (by omega) | exact arv_sv (by first | decide | (simp only [maxLen]; omega))) (by first | omega | (simp only [maxLen]; omega) | (simp only [List.length_append, List.length_cons, List.length_nil, List.length_take, maxLen]; omega) | (simp only [List.length_append, List.length_cons, List.length_nil, List.length_take]; omega))) rfl ?_
        refine wpl_on rfl rfl ?_
        refine wpl_q (q_fieldPo 5 Try.underlying66 rfl Try.ti4 rfl rfl rfl) rfl ?_
        refine wpl_on rfl rfl ?_
        refine wpl_q (q_ldWF Try.underlying4 rfl rfl (fun w h => h.seenV) (kcs_get hjl rfl)) rfl ?_
        refine wpl_on rfl rfl ?_
        refine wpl_q (q_pure rfl) rfl ?_
        refine wpl_q (q_pure rfl) rfl ?_
        refine wpl_q (q_pure rfl) rfl ?_
        refine wpl_re 11 rfl (congrArg Value.bool (show _ = thereB ks r by
          rw [Bool.eq_iff_iff]; simp only [thereB, Bool.and_eq_true, decide_eq_true_eq, beq_iff_eq, Bool.not_eq_true', Bool.false_eq_true]
          first
          | exact ⟨fun h => ⟨⟨hb90, eq_of_beq hb99⟩, h⟩, fun h => h.2⟩
          | exact ⟨fun h => h.elim, fun h => by obtain ⟨⟨h1, h2⟩, h3⟩ := h; first | exact absurd h2 (beq_eq_false_iff_ne.1 hb99) | exact absurd h1 hb90⟩)) ?_
        first | refine wpl_re 10 rfl (congrArg (Value.int .i64) hej.symm) ?_ | skip
        refine wpl_nil ?_
        refine ex_mid ⟨(), trivial⟩ ?_ ?_
        ·
         exact (by repeat (first | exact trivial | refine ⟨rfl, ?_⟩))
        ·
         exact fun w h => by first | exact h | exact h.sub SubC.h SubC.h | exact h.sub (by repeat (first | exact Sub.nil | exact Sub.refl _ | with_reducible refine Sub.keep ?_ | refine Sub.drop ?_)) (by repeat (first | exact Sub.nil | exact Sub.refl _ | with_reducible refine Sub.keep ?_ | refine Sub.drop ?_))
       ·
        refine wpl_off rfl rfl rfl rfl ?_
        refine wpl_off rfl rfl rfl rfl ?_
        refine wpl_off rfl rfl rfl rfl ?_
        refine wpl_off rfl rfl rfl rfl ?_
        refine wpl_off rfl rfl rfl rfl ?_
        refine wpl_off rfl rfl rfl rfl ?_
        refine wpl_q (q_pure rfl) rfl ?_
        refine wpl_q (q_pure rfl) rfl ?_
        refine wpl_re 11 rfl (congrArg Value.bool (show _ = thereB ks r by
          rw [Bool.eq_iff_iff]; simp only [thereB, Bool.and_eq_true, decide_eq_true_eq, beq_iff_eq, Bool.not_eq_true', Bool.false_eq_true]
          first
          | exact ⟨fun h => ⟨⟨hb90, eq_of_beq hb99⟩, h⟩, fun h => h.2⟩
          | exact ⟨fun h => h.elim, fun h => by obtain ⟨⟨h1, h2⟩, h3⟩ := h; first | exact absurd h2 (beq_eq_false_iff_ne.1 hb99) | exact absurd h1 hb90⟩)) ?_
        first | refine wpl_re 10 rfl (congrArg (Value.int .i64) hej.symm) ?_ | skip
        refine wpl_nil ?_
        refine ex_mid ⟨(), trivial⟩ ?_ ?_
        ·
         exact (by repeat (first | exact trivial | refine ⟨rfl, ?_⟩))
        ·
         exact fun w h => by first | exact h | exact h.sub SubC.h SubC.h | exact h.sub (by repeat (first | exact Sub.nil | exact Sub.refl _ | with_reducible refine Sub.keep ?_ | refine Sub.drop ?_)) (by repeat (first | exact Sub.nil | exact Sub.refl _ | with_reducible refine Sub.keep ?_ | refine Sub.drop ?_))
      ·
       try simp only [decide_eq_false_iff_not, ge_iff_le] at hb90
       refine wpl_off rfl rfl rfl rfl ?_
       refine wpl_off rfl rfl rfl rfl ?_
       refine wpl_off rfl rfl rfl rfl ?_
       refine wpl_off rfl rfl rfl rfl ?_
       refine wpl_off rfl rfl rfl rfl ?_
       refine wpl_off rfl rfl rfl rfl ?_
       refine wpl_off rfl rfl rfl rfl ?_
       refine wpl_q (q_pure rfl) rfl ?_
       refine wpl_q (q_pure rfl) rfl ?_
       refine wpl_off rfl rfl rfl rfl ?_
       refine wpl_off rfl rfl rfl rfl ?_
       refine wpl_off rfl rfl rfl rfl ?_
       refine wpl_off rfl rfl rfl rfl ?_
       refine wpl_off rfl rfl rfl rfl ?_
       refine wpl_off rfl rfl rfl rfl ?_
       refine wpl_q (q_pure rfl) rfl ?_
       refine wpl_q (q_pure rfl) rfl ?_
       refine wpl_re 11 rfl (congrArg Value.bool (show _ = thereB ks r by
         rw [Bool.eq_iff_iff]; simp only [thereB, Bool.and_eq_true, decide_eq_true_eq, beq_iff_eq, Bool.not_eq_true', Bool.false_eq_true]
         first
         | exact ⟨fun h => ⟨⟨hb90, eq_of_beq hb99⟩, h⟩, fun h => h.2⟩
         | exact ⟨fun h => h.elim, fun h => by obtain ⟨⟨h1, h2⟩, h3⟩ := h; first | exact absurd h2 (beq_eq_false_iff_ne.1 hb99) | exact absurd h1 hb90⟩)) ?_
       first | refine wpl_re 10 rfl (congrArg (Value.int .i64) hej.symm) ?_ | skip
       refine wpl_nil ?_
       refine ex_mid ⟨(), trivial⟩ ?_ ?_
       ·
        exact (by repeat (first | exact trivial | refine ⟨rfl, ?_⟩))
       ·
        exact fun w h => by first | exact h | exact h.sub SubC.h SubC.h | exact h.sub (by repeat (first | exact Sub.nil | exact Sub.refl _ | with_reducible refine Sub.keep ?_ | refine Sub.drop ?_)) (by repeat (first | exact Sub.nil | exact Sub.refl _ | with_reducible refine Sub.keep ?_ | refine Sub.drop ?_))
     ·
      rintro ⟨_, _⟩; try dsimp only
      refine wpc_seq ?_
      refine wpc_block ?_
      refine wpc_cutc ({ x : Unit // True }) [(0, bv), (4, v), (5, .int .i64 ((n : Nat) : Int)), (6, .int .u8 (r.k.toNat : Int)), (7, .int .i64 ((r.h.toNat : Nat) : Int)), (8, .int .i64 ((r.v.toNat : Nat) : Int)), (9, .int .u32 (r.id.toNat : Int)), (10, .int .i64 (placeF ks r.id)), (11, .bool (thereB ks r))] (fun x Lc => (109, .bool (isNew ks r)) :: Lc) (fun x => Mem w [] [kRow v ks] []) ?_ ?_
      ·
       refine wpc_region ?_
       refine wpl_q (q_pure rfl) rfl ?_
       refine wpl_q (q8_eql (b := (1 : UInt8)) rfl rfl) rfl ?_
       refine wpl_q (q_pure rfl) rfl ?_
       refine wpl_bool2 112 111 rfl rfl (fun hb112 => ?_) (fun hb112 => ?_)
       ·
        try simp only [decide_eq_true_eq] at hb112
        refine wpl_on rfl rfl ?_
        refine wpl_q (q_pure rfl) rfl ?_
        refine wpl_on rfl rfl ?_
        refine wpl_q (q_pure rfl) rfl ?_
        refine wpl_q (q_pure rfl) rfl ?_
        refine wpl_q (q_pure rfl) rfl ?_
        refine wpl_bool2 116 114 rfl rfl (fun hb116 => ?_) (fun hb116 => ?_)
        ·
         try simp only [decide_eq_true_eq] at hb116
         refine wpl_on rfl rfl ?_
         refine wpl_q (q_pure rfl) rfl ?_
         refine wpl_on rfl rfl ?_
         refine wpl_q (q_lenW Try.underlying25 rfl (by first | assumption | exact SV.nil | exact SV.slv (by assumption) (by omega) (by omega) | exact arv_sv (by first | decide | (simp only [maxLen]; omega)))) rfl ?_
         refine wpl_on rfl rfl ?_
         refine wpl_q (q_pure rfl) rfl ?_
         refine wpl_q (q_pure rfl) rfl ?_
         refine wpl_q (q_pure rfl) rfl ?_
         refine wpl_bool2 121 119 rfl rfl (fun hb121 => ?_) (fun hb121 => ?_)
         ·
          try simp only [decide_eq_true_eq] at hb121
          refine wpl_on rfl rfl ?_
          refine wpl_q (q_pure rfl) rfl ?_
          refine wpl_on rfl rfl ?_
          refine wpl_q (q_pure rfl) rfl ?_
          refine wpl_q (q_pure rfl) rfl ?_
          refine wpl_q (q_pure rfl) rfl ?_
          refine wpl_bool2 125 123 rfl rfl (fun hb125 => ?_) (fun hb125 => ?_)
          ·
           try simp only [decide_eq_true_eq] at hb125
           refine wpl_on rfl rfl ?_
           refine wpl_q (q_pure rfl) rfl ?_
           refine wpl_on rfl rfl ?_
           refine wpl_q (q_pure rfl) rfl ?_
           refine wpl_q (q_pure rfl) rfl ?_
           refine wpl_q (q_pure rfl) rfl ?_
           refine wpl_re 109 rfl (congrArg Value.bool (show _ = isNew ks r by
             rw [Bool.eq_iff_iff]; simp only [isNew, Bool.and_eq_true, decide_eq_true_eq, beq_iff_eq, Bool.not_eq_true', Bool.false_eq_true]
             first
             | exact ⟨fun h => ⟨⟨⟨⟨hb112, hb116⟩, by omega⟩, by omega⟩, by omega⟩, fun h => by obtain ⟨⟨⟨⟨h1, h2⟩, h3⟩, h4⟩, h5⟩ := h; omega⟩
             | exact ⟨fun h => h.elim, fun h => by obtain ⟨⟨⟨⟨h1, h2⟩, h3⟩, h4⟩, h5⟩ := h; first | omega | exact absurd h1 hb112⟩)) ?_
           refine wpl_nil ?_
           refine ex_mid ⟨(), trivial⟩ ?_ ?_
           ·
            exact (by repeat (first | exact trivial | refine ⟨rfl, ?_⟩))
           ·
            exact fun w h => by first | exact h | exact h.sub SubC.h SubC.h | exact h.sub (by repeat (first | exact Sub.nil | exact Sub.refl _ | with_reducible refine Sub.keep ?_ | refine Sub.drop ?_)) (by repeat (first | exact Sub.nil | exact Sub.refl _ | with_reducible refine Sub.keep ?_ | refine Sub.drop ?_))
          ·
           try simp only [decide_eq_false_iff_not] at hb125
           refine wpl_off rfl rfl rfl rfl ?_
           refine wpl_off rfl rfl rfl rfl ?_
           refine wpl_q (q_pure rfl) rfl ?_
           refine wpl_q (q_pure rfl) rfl ?_
           refine wpl_re 109 rfl (congrArg Value.bool (show _ = isNew ks r by
             rw [Bool.eq_iff_iff]; simp only [isNew, Bool.and_eq_true, decide_eq_true_eq, beq_iff_eq, Bool.not_eq_true', Bool.false_eq_true]
             first
             | exact ⟨fun h => ⟨⟨⟨⟨hb112, hb116⟩, by omega⟩, by omega⟩, by omega⟩, fun h => by obtain ⟨⟨⟨⟨h1, h2⟩, h3⟩, h4⟩, h5⟩ := h; omega⟩
             | exact ⟨fun h => h.elim, fun h => by obtain ⟨⟨⟨⟨h1, h2⟩, h3⟩, h4⟩, h5⟩ := h; first | omega | exact absurd h1 hb112⟩)) ?_
           refine wpl_nil ?_
           refine ex_mid ⟨(), trivial⟩ ?_ ?_
           ·
            exact (by repeat (first | exact trivial | refine ⟨rfl, ?_⟩))
           ·
            exact fun w h => by first | exact h | exact h.sub SubC.h SubC.h | exact h.sub (by repeat (first | exact Sub.nil | exact Sub.refl _ | with_reducible refine Sub.keep ?_ | refine Sub.drop ?_)) (by repeat (first | exact Sub.nil | exact Sub.refl _ | with_reducible refine Sub.keep ?_ | refine Sub.drop ?_))
         ·
          try simp only [decide_eq_false_iff_not] at hb121
          refine wpl_off rfl rfl rfl rfl ?_
          refine wpl_off rfl rfl rfl rfl ?_
          refine wpl_q (q_pure rfl) rfl ?_
          refine wpl_q (q_pure rfl) rfl ?_
          refine wpl_off rfl rfl rfl rfl ?_
          refine wpl_off rfl rfl rfl rfl ?_
          refine wpl_q (q_pure rfl) rfl ?_
          refine wpl_q (q_pure rfl) rfl ?_
          refine wpl_re 109 rfl (congrArg Value.bool (show _ = isNew ks r by
            rw [Bool.eq_iff_iff]; simp only [isNew, Bool.and_eq_true, decide_eq_true_eq, beq_iff_eq, Bool.not_eq_true', Bool.false_eq_true]
            first
            | exact ⟨fun h => ⟨⟨⟨⟨hb112, hb116⟩, by omega⟩, by omega⟩, by omega⟩, fun h => by obtain ⟨⟨⟨⟨h1, h2⟩, h3⟩, h4⟩, h5⟩ := h; omega⟩
            | exact ⟨fun h => h.elim, fun h => by obtain ⟨⟨⟨⟨h1, h2⟩, h3⟩, h4⟩, h5⟩ := h; first | omega | exact absurd h1 hb112⟩)) ?_
          refine wpl_nil ?_
          refine ex_mid ⟨(), trivial⟩ ?_ ?_
          ·
           exact (by repeat (first | exact trivial | refine ⟨rfl, ?_⟩))
          ·
           exact fun w h => by first | exact h | exact h.sub SubC.h SubC.h | exact h.sub (by repeat (first | exact Sub.nil | exact Sub.refl _ | with_reducible refine Sub.keep ?_ | refine Sub.drop ?_)) (by repeat (first | exact Sub.nil | exact Sub.refl _ | with_reducible refine Sub.keep ?_ | refine Sub.drop ?_))
        ·
         try simp only [decide_eq_false_iff_not] at hb116
         refine wpl_off rfl rfl rfl rfl ?_
         refine wpl_off rfl rfl rfl rfl ?_
         refine wpl_off rfl rfl rfl rfl ?_
         refine wpl_q (q_pure rfl) rfl ?_
         refine wpl_q (q_pure rfl) rfl ?_
         refine wpl_off rfl rfl rfl rfl ?_
         refine wpl_off rfl rfl rfl rfl ?_
         refine wpl_q (q_pure rfl) rfl ?_
         refine wpl_q (q_pure rfl) rfl ?_
         refine wpl_off rfl rfl rfl rfl ?_
         refine wpl_off rfl rfl rfl rfl ?_
         refine wpl_q (q_pure rfl) rfl ?_
         refine wpl_q (q_pure rfl) rfl ?_
         refine wpl_re 109 rfl (congrArg Value.bool (show _ = isNew ks r by
           rw [Bool.eq_iff_iff]; simp only [isNew, Bool.and_eq_true, decide_eq_true_eq, beq_iff_eq, Bool.not_eq_true', Bool.false_eq_true]
           first
           | exact ⟨fun h => ⟨⟨⟨⟨hb112, hb116⟩, by omega⟩, by omega⟩, by omega⟩, fun h => by obtain ⟨⟨⟨⟨h1, h2⟩, h3⟩, h4⟩, h5⟩ := h; omega⟩
           | exact ⟨fun h => h.elim, fun h => by obtain ⟨⟨⟨⟨h1, h2⟩, h3⟩, h4⟩, h5⟩ := h; first | omega | exact absurd h1 hb112⟩)) ?_
         refine wpl_nil ?_
         refine ex_mid ⟨(), trivial⟩ ?_ ?_
         ·
          exact (by repeat (first | exact trivial | refine ⟨rfl, ?_⟩))
         ·
          exact fun w h => by first | exact h | exact h.sub SubC.h SubC.h | exact h.sub (by repeat (first | exact Sub.nil | exact Sub.refl _ | with_reducible refine Sub.keep ?_ | refine Sub.drop ?_)) (by repeat (first | exact Sub.nil | exact Sub.refl _ | with_reducible refine Sub.keep ?_ | refine Sub.drop ?_))
       ·
        try simp only [decide_eq_false_iff_not] at hb112
        refine wpl_off rfl rfl rfl rfl ?_
        refine wpl_off rfl rfl rfl rfl ?_
        refine wpl_q (q_pure rfl) rfl ?_
        refine wpl_q (q_pure rfl) rfl ?_
        refine wpl_off rfl rfl rfl rfl ?_
        refine wpl_off rfl rfl rfl rfl ?_
        refine wpl_off rfl rfl rfl rfl ?_
        refine wpl_q (q_pure rfl) rfl ?_
        refine wpl_q (q_pure rfl) rfl ?_
        refine wpl_off rfl rfl rfl rfl ?_
        refine wpl_off rfl rfl rfl rfl ?_
        refine wpl_q (q_pure rfl) rfl ?_
        refine wpl_q (q_pure rfl) rfl ?_
        refine wpl_off rfl rfl rfl rfl ?_
        refine wpl_off rfl rfl rfl rfl ?_
        refine wpl_q (q_pure rfl) rfl ?_
        refine wpl_q (q_pure rfl) rfl ?_
        refine wpl_re 109 rfl (congrArg Value.bool (show _ = isNew ks r by
          rw [Bool.eq_iff_iff]; simp only [isNew, Bool.and_eq_true, decide_eq_true_eq, beq_iff_eq, Bool.not_eq_true', Bool.false_eq_true]
          first
          | exact ⟨fun h => ⟨⟨⟨⟨hb112, hb116⟩, by omega⟩, by omega⟩, by omega⟩, fun h => by obtain ⟨⟨⟨⟨h1, h2⟩, h3⟩, h4⟩, h5⟩ := h; omega⟩
          | exact ⟨fun h => h.elim, fun h => by obtain ⟨⟨⟨⟨h1, h2⟩, h3⟩, h4⟩, h5⟩ := h; first | omega | exact absurd h1 hb112⟩)) ?_
        refine wpl_nil ?_
        refine ex_mid ⟨(), trivial⟩ ?_ ?_
        ·
         exact (by repeat (first | exact trivial | refine ⟨rfl, ?_⟩))
        ·
         exact fun w h => by first | exact h | exact h.sub SubC.h SubC.h | exact h.sub (by repeat (first | exact Sub.nil | exact Sub.refl _ | with_reducible refine Sub.keep ?_ | refine Sub.drop ?_)) (by repeat (first | exact Sub.nil | exact Sub.refl _ | with_reducible refine Sub.keep ?_ | refine Sub.drop ?_))
      ·
       rintro ⟨_, _⟩; try dsimp only
       refine wpc_cond rfl (fun hc109 => ?_) (fun hc109 => ?_)
       ·
        have hrf := read_new hc109
        refine wpc_region ?_
        refine wpl_q (q_pure rfl) rfl ?_
        refine wpl_q (q_pure rfl) rfl ?_
        refine wpl_q (q_pure rfl) rfl ?_
        refine wpl_q (q_build (cs := (KE.mk r.id ((r.h.toNat : Nat) : Int) 0 0 0 false).c) rfl (built_key r.id ((r.h.toNat : Nat) : Int))) rfl ?_
        refine wpl_tp (t_bsG [.agg (KE.mk r.id ((r.h.toNat : Nat) : Int) 0 0 0 false).c.toArray] (KE.mk r.id ((r.h.toNat : Nat) : Int) 0 0 0 false).c Try.underlying25 Try.ti66 rfl (by decide) rfl (by decide) (by decide) rfl (by intro v hv; rw [List.mem_singleton] at hv; subst hv; rfl) (List.append_nil _)) rfl (fun b133 p133 => ?_)
        refine wpl_tp (t_apW Try.underlying25 Try.ti66 rfl (by decide) rfl rfl (fun w h => by first | exact h.seenV | exact h.seenA (by first | decide | (simp only [maxLen]; omega)) (by first | with_reducible rfl | (simp only [v8s_length, v32s_length, vis_length, vns_length, v64s_length, List.length_replicate]; first | done | with_reducible assumption | omega) | (rw [v8s_length]; (first | with_reducible assumption | with_reducible exact shortF_length _ | with_reducible exact stepF_length _ _ _ | with_reducible exact sumF_length _ | with_reducible exact climbF_length _ (by first | with_reducible assumption | with_reducible exact shortF_length _ | with_reducible exact beginF_length _ _ | with_reducible exact getD_mem_len (by assumption) (by omega)) _ _ _ | with_reducible exact beginF_length _ _ | with_reducible exact chainF_length _ _ _ | with_reducible exact recF_length _ _ | with_reducible exact publicF_length _ | with_reducible exact getD_mem_len (by assumption) (by omega) | (with_reducible exact List.length_replicate))) | rfl) | exact h.seen_old (by assumption) | exact h.seen_oldL (by assumption) (by assumption) | exact h.seen_fact (by repeat (first | exact List.mem_cons_self .. | apply List.mem_cons_of_mem))) (ke_one _) (by first | omega | (simp only [maxLen]; omega) | (simp only [List.length_append, List.length_cons, List.length_nil, List.length_take, maxLen]; omega) | (simp only [List.length_append, List.length_cons, List.length_nil, List.length_take]; omega)) (by first | omega | (simp only [maxLen]; omega) | (simp only [List.length_append, List.length_cons, List.length_nil, List.length_take, maxLen]; omega) | (simp only [List.length_append, List.length_cons, List.length_nil, List.length_take]; omega)) (kcs (ks ++ [(KE.mk r.id ((r.h.toNat : Nat) : Int) 0 0 0 false)])) (kcs_snoc _ _)) rfl (fun b134 p134 => ?_)
        refine wpl_q (q_pure rfl) rfl ?_
        refine wpl_nil ?_
        refine ex_block ?_
        refine ex_then ?_
        refine wpc_region ?_
        refine wpl_q (q_pure rfl) rfl ?_
        refine wpl_q (q_addN (b := 10) rfl rfl (by first | omega | (simp only [maxLen]; omega) | (simp only [List.length_append, List.length_cons, List.length_nil, List.length_take, maxLen]; omega) | (simp only [List.length_append, List.length_cons, List.length_nil, List.length_take]; omega))) rfl ?_
        refine wpl_q (q_pure rfl) rfl ?_
        refine wpl_nil ?_
        refine ex_block ?_
        refine ex_again ⟨(n + 10, ks ++ [(KE.mk r.id ((r.h.toNat : Nat) : Int) 0 0 0 false)], b134), ⟨by show n + 10 ≤ bs.length; omega, by first | (rw [List.length_append]; exact p134) | (rw [List.length_set]; exact hi1), hi2.read hrf, scan_next hi3 hlen hok hr hrf⟩⟩ ?_ ?_ ?_
        ·
         exact (by repeat (first | exact trivial | refine ⟨rfl, ?_⟩))
        ·
         exact fun w h => by
           dsimp only
           first
           | (rw [kRow, List.length_append]; exact h.sub SubC.h SubC.h)
           | (rw [kRow, List.length_set, ← kcs_updB _ hjl]; exact h.sub SubC.h SubC.h)
           | (rw [kRow, List.length_set, ← kcs_drp hjl]; exact h.sub SubC.h SubC.h)
        ·
         (show bs.length - (n + 10) < bs.length - n); omega
       ·
        try simp only [decide_eq_true_eq, decide_eq_false_iff_not, Bool.and_eq_true, Bool.or_eq_true, beq_iff_eq, bne_iff_ne, ne_eq, Bool.not_eq_true', Bool.not_eq_false', Decidable.not_not] at hc109
        refine wpc_cutc ({ x : Unit // True }) [(0, bv), (4, v), (5, .int .i64 ((n : Nat) : Int)), (6, .int .u8 (r.k.toNat : Int)), (8, .int .i64 ((r.v.toNat : Nat) : Int)), (10, .int .i64 (placeF ks r.id)), (11, .bool (thereB ks r))] (fun x Lc => (135, .bool (isRes ks r)) :: Lc) (fun x => Mem w [] [kRow v ks] []) ?_ ?_
        ·
         refine wpc_region ?_
         refine wpl_q (q_pure rfl) rfl ?_
         refine wpl_q (q8_eql (b := (2 : UInt8)) rfl rfl) rfl ?_
         refine wpl_q (q_pure rfl) rfl ?_
         refine wpl_bool2 138 137 rfl rfl (fun hb138 => ?_) (fun hb138 => ?_)
         ·
          try simp only [decide_eq_true_eq] at hb138
          refine wpl_on rfl rfl ?_
          refine wpl_q (q_pure rfl) rfl ?_
          refine wpl_q (q_pure rfl) rfl ?_
          refine wpl_q (q_pure rfl) rfl ?_
          refine wpl_bool2 141 11 rfl rfl (fun hb141 => ?_) (fun hb141 => ?_)
          ·
           obtain ⟨hp0, hht, hdr⟩ := there_spec hb141
           obtain ⟨hjl, hej⟩ := place_nat hp0
           have hgo := hi2.get hjl
           refine wpl_re 10 rfl (congrArg (Value.int .i64) hej) ?_
           refine wpl_on rfl rfl ?_
           refine wpl_q (q_pure rfl) rfl ?_
           refine wpl_on rfl rfl ?_
           refine wpl_q (q_pure rfl) rfl ?_
           refine wpl_on rfl rfl ?_
           refine wpl_q (q_pure rfl) rfl ?_
           refine wpl_on rfl rfl ?_
           refine wpl_q (q_idxW Try.underlying25 Try.ti66 rfl rfl (by first | assumption | exact SV.nil | exact SV.slv (by assumption) (by omega) (by omega) | exact arv_sv (by first | decide | (simp only [maxLen]; omega))) (by first | omega | (simp only [maxLen]; omega) | (simp only [List.length_append, List.length_cons, List.length_nil, List.length_take, maxLen]; omega) | (simp only [List.length_append, List.length_cons, List.length_nil, List.length_take]; omega))) rfl ?_
           refine wpl_on rfl rfl ?_
           refine wpl_q (q_fieldPo 4 Try.underlying66 rfl Try.ti3 rfl rfl rfl) rfl ?_
           refine wpl_on rfl rfl ?_
           refine wpl_q (q_ldWF Try.underlying3 rfl rfl (fun w h => h.seenV) (kcs_get hjl rfl)) rfl ?_
           refine wpl_on rfl rfl ?_
           refine wpl_q (q_pure rfl) rfl ?_
           refine wpl_q (q_pure rfl) rfl ?_
           refine wpl_q (q_pure rfl) rfl ?_
           refine wpl_bool2 150 148 rfl rfl (fun hb150 => ?_) (fun hb150 => ?_)
           ·
            try simp only [decide_eq_true_eq, gt_iff_lt] at hb150
            refine wpl_on rfl rfl ?_
            refine wpl_q (q_pure rfl) rfl ?_
            refine wpl_on rfl rfl ?_
            refine wpl_q (q_pure rfl) rfl ?_
            refine wpl_on rfl rfl ?_
            refine wpl_t (t_pur Try.hb47 rfl fun w h => refAll18 _ w (by omega)) rfl (fun b153 => ?_)
            refine wpl_on rfl rfl ?_
            refine wpl_q (q_pure rfl) rfl ?_
            refine wpl_q (q_pure rfl) rfl ?_
            refine wpl_q (q_pure rfl) rfl ?_
            refine wpl_re 135 rfl (congrArg Value.bool (show _ = isRes ks r by
              rw [Bool.eq_iff_iff]; simp only [isRes, Bool.and_eq_true, decide_eq_true_eq, beq_iff_eq, Bool.not_eq_true', Bool.false_eq_true]
              first
              | exact ⟨fun h => ⟨⟨⟨hb138, hb141⟩, hb150⟩, by omega⟩, fun h => by have := h.2; omega⟩
              | exact ⟨fun h => h.elim, fun h => by obtain ⟨⟨⟨h1, h2⟩, h3⟩, h4⟩ := h; first | exact absurd h3 hb150 | (rw [hb141] at h2; cases h2) | exact absurd h1 hb138⟩)) ?_
            first | refine wpl_re 10 rfl (congrArg (Value.int .i64) hej.symm) ?_ | skip
            first | refine wpl_re 11 rfl (congrArg Value.bool hb141.symm) ?_ | skip
            refine wpl_nil ?_
            refine ex_mid ⟨(), trivial⟩ ?_ ?_
            ·
             exact (by repeat (first | exact trivial | refine ⟨rfl, ?_⟩))
            ·
             exact fun w h => by first | exact h | exact h.sub SubC.h SubC.h | exact h.sub (by repeat (first | exact Sub.nil | exact Sub.refl _ | with_reducible refine Sub.keep ?_ | refine Sub.drop ?_)) (by repeat (first | exact Sub.nil | exact Sub.refl _ | with_reducible refine Sub.keep ?_ | refine Sub.drop ?_))
           ·
            try simp only [decide_eq_false_iff_not, gt_iff_lt] at hb150
            refine wpl_off rfl rfl rfl rfl ?_
            refine wpl_off rfl rfl rfl rfl ?_
            refine wpl_off rfl rfl rfl rfl ?_
            refine wpl_off rfl rfl rfl rfl ?_
            refine wpl_q (q_pure rfl) rfl ?_
            refine wpl_q (q_pure rfl) rfl ?_
            refine wpl_re 135 rfl (congrArg Value.bool (show _ = isRes ks r by
              rw [Bool.eq_iff_iff]; simp only [isRes, Bool.and_eq_true, decide_eq_true_eq, beq_iff_eq, Bool.not_eq_true', Bool.false_eq_true]
              first
              | exact ⟨fun h => ⟨⟨⟨hb138, hb141⟩, hb150⟩, by omega⟩, fun h => by have := h.2; omega⟩
              | exact ⟨fun h => h.elim, fun h => by obtain ⟨⟨⟨h1, h2⟩, h3⟩, h4⟩ := h; first | exact absurd h3 hb150 | (rw [hb141] at h2; cases h2) | exact absurd h1 hb138⟩)) ?_
            first | refine wpl_re 10 rfl (congrArg (Value.int .i64) hej.symm) ?_ | skip
            first | refine wpl_re 11 rfl (congrArg Value.bool hb141.symm) ?_ | skip
            refine wpl_nil ?_
            refine ex_mid ⟨(), trivial⟩ ?_ ?_
            ·
             exact (by repeat (first | exact trivial | refine ⟨rfl, ?_⟩))
            ·
             exact fun w h => by first | exact h | exact h.sub SubC.h SubC.h | exact h.sub (by repeat (first | exact Sub.nil | exact Sub.refl _ | with_reducible refine Sub.keep ?_ | refine Sub.drop ?_)) (by repeat (first | exact Sub.nil | exact Sub.refl _ | with_reducible refine Sub.keep ?_ | refine Sub.drop ?_))
          ·
           refine wpl_off rfl rfl rfl rfl ?_
           refine wpl_off rfl rfl rfl rfl ?_
           refine wpl_off rfl rfl rfl rfl ?_
           refine wpl_off rfl rfl rfl rfl ?_
           refine wpl_off rfl rfl rfl rfl ?_
           refine wpl_off rfl rfl rfl rfl ?_
           refine wpl_off rfl rfl rfl rfl ?_
           refine wpl_q (q_pure rfl) rfl ?_
           refine wpl_q (q_pure rfl) rfl ?_
           refine wpl_off rfl rfl rfl rfl ?_
           refine wpl_off rfl rfl rfl rfl ?_
           refine wpl_off rfl rfl rfl rfl ?_
           refine wpl_off rfl rfl rfl rfl ?_
           refine wpl_q (q_pure rfl) rfl ?_
           refine wpl_q (q_pure rfl) rfl ?_
           refine wpl_re 135 rfl (congrArg Value.bool (show _ = isRes ks r by
             rw [Bool.eq_iff_iff]; simp only [isRes, Bool.and_eq_true, decide_eq_true_eq, beq_iff_eq, Bool.not_eq_true', Bool.false_eq_true]
             first
             | exact ⟨fun h => ⟨⟨⟨hb138, hb141⟩, hb150⟩, by omega⟩, fun h => by have := h.2; omega⟩
             | exact ⟨fun h => h.elim, fun h => by obtain ⟨⟨⟨h1, h2⟩, h3⟩, h4⟩ := h; first | exact absurd h3 hb150 | (rw [hb141] at h2; cases h2) | exact absurd h1 hb138⟩)) ?_
           first | refine wpl_re 10 rfl (congrArg (Value.int .i64) hej.symm) ?_ | skip
           first | refine wpl_re 11 rfl (congrArg Value.bool hb141.symm) ?_ | skip
           refine wpl_nil ?_
           refine ex_mid ⟨(), trivial⟩ ?_ ?_
           ·
            exact (by repeat (first | exact trivial | refine ⟨rfl, ?_⟩))
           ·
            exact fun w h => by first | exact h | exact h.sub SubC.h SubC.h | exact h.sub (by repeat (first | exact Sub.nil | exact Sub.refl _ | with_reducible refine Sub.keep ?_ | refine Sub.drop ?_)) (by repeat (first | exact Sub.nil | exact Sub.refl _ | with_reducible refine Sub.keep ?_ | refine Sub.drop ?_))
         ·
          try simp only [decide_eq_false_iff_not] at hb138
          refine wpl_off rfl rfl rfl rfl ?_
          refine wpl_q (q_pure rfl) rfl ?_
          refine wpl_q (q_pure rfl) rfl ?_
          refine wpl_off rfl rfl rfl rfl ?_
          refine wpl_off rfl rfl rfl rfl ?_
          refine wpl_off rfl rfl rfl rfl ?_
          refine wpl_off rfl rfl rfl rfl ?_
          refine wpl_off rfl rfl rfl rfl ?_
          refine wpl_off rfl rfl rfl rfl ?_
          refine wpl_off rfl rfl rfl rfl ?_
          refine wpl_q (q_pure rfl) rfl ?_
          refine wpl_q (q_pure rfl) rfl ?_
          refine wpl_off rfl rfl rfl rfl ?_
          refine wpl_off rfl rfl rfl rfl ?_
          refine wpl_off rfl rfl rfl rfl ?_
          refine wpl_off rfl rfl rfl rfl ?_
          refine wpl_q (q_pure rfl) rfl ?_
          refine wpl_q (q_pure rfl) rfl ?_
          refine wpl_re 135 rfl (congrArg Value.bool (show _ = isRes ks r by
            rw [Bool.eq_iff_iff]; simp only [isRes, Bool.and_eq_true, decide_eq_true_eq, beq_iff_eq, Bool.not_eq_true', Bool.false_eq_true]
            first
            | exact ⟨fun h => ⟨⟨⟨hb138, hb141⟩, hb150⟩, by omega⟩, fun h => by have := h.2; omega⟩
            | exact ⟨fun h => h.elim, fun h => by obtain ⟨⟨⟨h1, h2⟩, h3⟩, h4⟩ := h; first | exact absurd h3 hb150 | (rw [hb141] at h2; cases h2) | exact absurd h1 hb138⟩)) ?_
          first | refine wpl_re 10 rfl (congrArg (Value.int .i64) hej.symm) ?_ | skip
          first | refine wpl_re 11 rfl (congrArg Value.bool hb141.symm) ?_ | skip
          refine wpl_nil ?_
          refine ex_mid ⟨(), trivial⟩ ?_ ?_
          ·
           exact (by repeat (first | exact trivial | refine ⟨rfl, ?_⟩))
          ·
           exact fun w h => by first | exact h | exact h.sub SubC.h SubC.h | exact h.sub (by repeat (first | exact Sub.nil | exact Sub.refl _ | with_reducible refine Sub.keep ?_ | refine Sub.drop ?_)) (by repeat (first | exact Sub.nil | exact Sub.refl _ | with_reducible refine Sub.keep ?_ | refine Sub.drop ?_))
        ·
         rintro ⟨_, _⟩; try dsimp only
         refine wpc_cond rfl (fun hc135 => ?_) (fun hc135 => ?_)
         ·
          have hrf := read_res hc135
          have hth : thereB ks r = true := by
            simp only [isRes, Bool.and_eq_true] at hc135; exact hc135.1.1.2
          obtain ⟨hp0, hht, hdr⟩ := there_spec hth
          obtain ⟨hjl, hej⟩ := place_nat hp0
          refine wpc_re 10 rfl (congrArg (Value.int .i64) hej) ?_
          refine wpc_seq ?_
          refine wpc_region ?_
          refine wpl_q (q_pure rfl) rfl ?_
          refine wpl_q (q_pure rfl) rfl ?_
          refine wpl_q (q_pure rfl) rfl ?_
          refine wpl_q (q_idxW Try.underlying25 Try.ti66 rfl rfl (by first | assumption | exact SV.nil | exact SV.slv (by assumption) (by omega) (by omega) | exact arv_sv (by first | decide | (simp only [maxLen]; omega))) (by first | omega | (simp only [maxLen]; omega) | (simp only [List.length_append, List.length_cons, List.length_nil, List.length_take, maxLen]; omega) | (simp only [List.length_append, List.length_cons, List.length_nil, List.length_take]; omega))) rfl ?_
          refine wpl_q (q_fieldPo 4 Try.underlying66 rfl Try.ti3 rfl rfl rfl) rfl ?_
          refine wpl_t0 (t_stWF Try.ti3 rfl rfl rfl (by (try simp only [List.length_set]); omega) _ rfl) (fun _ => ?_)
          refine wpl_nil ?_
          refine ex_then ?_
          refine wpc_seq ?_
          refine wpc_region ?_
          refine wpl_q (q_pure rfl) rfl ?_
          refine wpl_q (q_pure rfl) rfl ?_
          refine wpl_q (q_pure rfl) rfl ?_
          refine wpl_q (q_idxW Try.underlying25 Try.ti66 rfl rfl (by first | assumption | exact SV.nil | exact SV.slv (by assumption) (by omega) (by omega) | exact arv_sv (by first | decide | (simp only [maxLen]; omega))) (by first | omega | (simp only [maxLen]; omega) | (simp only [List.length_append, List.length_cons, List.length_nil, List.length_take, maxLen]; omega) | (simp only [List.length_append, List.length_cons, List.length_nil, List.length_take]; omega))) rfl ?_
          refine wpl_q (q_fieldPo 2 Try.underlying66 rfl Try.ti3 rfl rfl rfl) rfl ?_
          refine wpl_t0 (t_stWF Try.ti3 rfl rfl rfl (by (try simp only [List.length_set]); omega) _ rfl) (fun _ => ?_)
          refine wpl_nil ?_
          refine ex_then ?_
          refine wpc_region ?_
          refine wpl_q (q_pure rfl) rfl ?_
          refine wpl_q (q_pure rfl) rfl ?_
          refine wpl_q (q_pure rfl) rfl ?_
          refine wpl_q (q_idxW Try.underlying25 Try.ti66 rfl rfl (by first | assumption | exact SV.nil | exact SV.slv (by assumption) (by omega) (by omega) | exact arv_sv (by first | decide | (simp only [maxLen]; omega))) (by first | omega | (simp only [maxLen]; omega) | (simp only [List.length_append, List.length_cons, List.length_nil, List.length_take, maxLen]; omega) | (simp only [List.length_append, List.length_cons, List.length_nil, List.length_take]; omega))) rfl ?_
          refine wpl_q (q_fieldPo 3 Try.underlying66 rfl Try.ti3 rfl rfl rfl) rfl ?_
          refine wpl_t0 (t_stWF Try.ti3 rfl rfl rfl (by (try simp only [List.length_set]); omega) _ rfl) (fun _ => ?_)
          refine wpl_nil ?_
          refine ex_block ?_
          refine ex_then ?_
          refine wpc_region ?_
          refine wpl_q (q_pure rfl) rfl ?_
          refine wpl_q (q_addN (b := 10) rfl rfl (by first | omega | (simp only [maxLen]; omega) | (simp only [List.length_append, List.length_cons, List.length_nil, List.length_take, maxLen]; omega) | (simp only [List.length_append, List.length_cons, List.length_nil, List.length_take]; omega))) rfl ?_
          refine wpl_q (q_pure rfl) rfl ?_
          refine wpl_nil ?_
          refine ex_block ?_
          refine ex_again ⟨(n + 10, ks.set (placeF ks r.id).toNat { ks.getD (placeF ks r.id).toNat KE.z with nx := (r.v.toNat : Nat), du := (r.v.toNat : Nat), ak := (r.v.toNat : Nat) }, v), ⟨by show n + 10 ≤ bs.length; omega, by first | (rw [List.length_append]; exact p134) | (rw [List.length_set]; exact hi1), hi2.read hrf, scan_next hi3 hlen hok hr hrf⟩⟩ ?_ ?_ ?_
          ·
           exact (by repeat (first | exact trivial | refine ⟨rfl, ?_⟩))
          ·
           exact fun w h => by
             dsimp only
             first
             | (rw [kRow, List.length_append]; exact h.sub SubC.h SubC.h)
             | (rw [kRow, List.length_set, ← kcs_updB _ hjl]; exact h.sub SubC.h SubC.h)
             | (rw [kRow, List.length_set, ← kcs_drp hjl]; exact h.sub SubC.h SubC.h)
          ·
           (show bs.length - (n + 10) < bs.length - n); omega
         ·
          try simp only [decide_eq_true_eq, decide_eq_false_iff_not, Bool.and_eq_true, Bool.or_eq_true, beq_iff_eq, bne_iff_ne, ne_eq, Bool.not_eq_true', Bool.not_eq_false', Decidable.not_not] at hc135
          refine wpc_cutc ({ x : Unit // True }) [(0, bv), (4, v), (5, .int .i64 ((n : Nat) : Int)), (10, .int .i64 (placeF ks r.id))] (fun x Lc => (171, .bool (isDrp ks r)) :: Lc) (fun x => Mem w [] [kRow v ks] []) ?_ ?_
          ·
           refine wpc_region ?_
           refine wpl_q (q_pure rfl) rfl ?_
           refine wpl_q (q8_eql (b := (3 : UInt8)) rfl rfl) rfl ?_
           refine wpl_q (q_pure rfl) rfl ?_
           refine wpl_bool2 174 173 rfl rfl (fun hb174 => ?_) (fun hb174 => ?_)
           ·
            try simp only [decide_eq_true_eq] at hb174
            refine wpl_on rfl rfl ?_
            refine wpl_q (q_pure rfl) rfl ?_
            refine wpl_q (q_pure rfl) rfl ?_
            refine wpl_q (q_pure rfl) rfl ?_
            refine wpl_bool2 177 11 rfl rfl (fun hb177 => ?_) (fun hb177 => ?_)
            ·
             obtain ⟨hp0, hht, hdr⟩ := there_spec hb177
             obtain ⟨hjl, hej⟩ := place_nat hp0
             have hgo := hi2.get hjl
             refine wpl_re 10 rfl (congrArg (Value.int .i64) hej) ?_
             refine wpl_on rfl rfl ?_
             refine wpl_q (q_pure rfl) rfl ?_
             refine wpl_on rfl rfl ?_
             refine wpl_q (q_pure rfl) rfl ?_
             refine wpl_on rfl rfl ?_
             refine wpl_q (q_pure rfl) rfl ?_
             refine wpl_on rfl rfl ?_
             refine wpl_q (q_idxW Try.underlying25 Try.ti66 rfl rfl (by first | assumption | exact SV.nil | exact SV.slv (by assumption) (by omega) (by omega) | exact arv_sv (by first | decide | (simp only [maxLen]; omega))) (by first | omega | (simp only [maxLen]; omega) | (simp only [List.length_append, List.length_cons, List.length_nil, List.length_take, maxLen]; omega) | (simp only [List.length_append, List.length_cons, List.length_nil, List.length_take]; omega))) rfl ?_
             refine wpl_on rfl rfl ?_
             refine wpl_q (q_fieldPo 4 Try.underlying66 rfl Try.ti3 rfl rfl rfl) rfl ?_
             refine wpl_on rfl rfl ?_
             refine wpl_q (q_ldWF Try.underlying3 rfl rfl (fun w h => h.seenV) (kcs_get hjl rfl)) rfl ?_
             refine wpl_on rfl rfl ?_
             refine wpl_q (q_pure rfl) rfl ?_
             refine wpl_q (q_pure rfl) rfl ?_
             refine wpl_q (q_pure rfl) rfl ?_
             refine wpl_re 171 rfl (congrArg Value.bool (show _ = isDrp ks r by
               rw [Bool.eq_iff_iff]; simp only [isDrp, Bool.and_eq_true, decide_eq_true_eq, beq_iff_eq, Bool.not_eq_true', Bool.false_eq_true]
               first
               | exact ⟨fun h => ⟨⟨hb174, hb177⟩, h⟩, fun h => h.2⟩
               | exact ⟨fun h => h.elim, fun h => by obtain ⟨⟨h1, h2⟩, h3⟩ := h; first | (rw [hb177] at h2; cases h2) | exact absurd h1 hb174⟩)) ?_
             first | refine wpl_re 10 rfl (congrArg (Value.int .i64) hej.symm) ?_ | skip
             refine wpl_nil ?_
             refine ex_mid ⟨(), trivial⟩ ?_ ?_
             ·
              exact (by repeat (first | exact trivial | refine ⟨rfl, ?_⟩))
             ·
              exact fun w h => by first | exact h | exact h.sub SubC.h SubC.h | exact h.sub (by repeat (first | exact Sub.nil | exact Sub.refl _ | with_reducible refine Sub.keep ?_ | refine Sub.drop ?_)) (by repeat (first | exact Sub.nil | exact Sub.refl _ | with_reducible refine Sub.keep ?_ | refine Sub.drop ?_))
            ·
             refine wpl_off rfl rfl rfl rfl ?_
             refine wpl_off rfl rfl rfl rfl ?_
             refine wpl_off rfl rfl rfl rfl ?_
             refine wpl_off rfl rfl rfl rfl ?_
             refine wpl_off rfl rfl rfl rfl ?_
             refine wpl_off rfl rfl rfl rfl ?_
             refine wpl_off rfl rfl rfl rfl ?_
             refine wpl_q (q_pure rfl) rfl ?_
             refine wpl_q (q_pure rfl) rfl ?_
             refine wpl_re 171 rfl (congrArg Value.bool (show _ = isDrp ks r by
               rw [Bool.eq_iff_iff]; simp only [isDrp, Bool.and_eq_true, decide_eq_true_eq, beq_iff_eq, Bool.not_eq_true', Bool.false_eq_true]
               first
               | exact ⟨fun h => ⟨⟨hb174, hb177⟩, h⟩, fun h => h.2⟩
               | exact ⟨fun h => h.elim, fun h => by obtain ⟨⟨h1, h2⟩, h3⟩ := h; first | (rw [hb177] at h2; cases h2) | exact absurd h1 hb174⟩)) ?_
             first | refine wpl_re 10 rfl (congrArg (Value.int .i64) hej.symm) ?_ | skip
             refine wpl_nil ?_
             refine ex_mid ⟨(), trivial⟩ ?_ ?_
             ·
              exact (by repeat (first | exact trivial | refine ⟨rfl, ?_⟩))
             ·
              exact fun w h => by first | exact h | exact h.sub SubC.h SubC.h | exact h.sub (by repeat (first | exact Sub.nil | exact Sub.refl _ | with_reducible refine Sub.keep ?_ | refine Sub.drop ?_)) (by repeat (first | exact Sub.nil | exact Sub.refl _ | with_reducible refine Sub.keep ?_ | refine Sub.drop ?_))
           ·
            try simp only [decide_eq_false_iff_not] at hb174
            refine wpl_off rfl rfl rfl rfl ?_
            refine wpl_q (q_pure rfl) rfl ?_
            refine wpl_q (q_pure rfl) rfl ?_
            refine wpl_off rfl rfl rfl rfl ?_
            refine wpl_off rfl rfl rfl rfl ?_
            refine wpl_off rfl rfl rfl rfl ?_
            refine wpl_off rfl rfl rfl rfl ?_
            refine wpl_off rfl rfl rfl rfl ?_
            refine wpl_off rfl rfl rfl rfl ?_
            refine wpl_off rfl rfl rfl rfl ?_
            refine wpl_q (q_pure rfl) rfl ?_
            refine wpl_q (q_pure rfl) rfl ?_
            refine wpl_re 171 rfl (congrArg Value.bool (show _ = isDrp ks r by
              rw [Bool.eq_iff_iff]; simp only [isDrp, Bool.and_eq_true, decide_eq_true_eq, beq_iff_eq, Bool.not_eq_true', Bool.false_eq_true]
              first
              | exact ⟨fun h => ⟨⟨hb174, hb177⟩, h⟩, fun h => h.2⟩
              | exact ⟨fun h => h.elim, fun h => by obtain ⟨⟨h1, h2⟩, h3⟩ := h; first | (rw [hb177] at h2; cases h2) | exact absurd h1 hb174⟩)) ?_
            first | refine wpl_re 10 rfl (congrArg (Value.int .i64) hej.symm) ?_ | skip
            refine wpl_nil ?_
            refine ex_mid ⟨(), trivial⟩ ?_ ?_
            ·
             exact (by repeat (first | exact trivial | refine ⟨rfl, ?_⟩))
            ·
             exact fun w h => by first | exact h | exact h.sub SubC.h SubC.h | exact h.sub (by repeat (first | exact Sub.nil | exact Sub.refl _ | with_reducible refine Sub.keep ?_ | refine Sub.drop ?_)) (by repeat (first | exact Sub.nil | exact Sub.refl _ | with_reducible refine Sub.keep ?_ | refine Sub.drop ?_))
          ·
           rintro ⟨_, _⟩; try dsimp only
           refine wpc_cond rfl (fun hc171 => ?_) (fun hc171 => ?_)
           ·
            have hrf := read_drp hc171
            have hth : thereB ks r = true := by
              simp only [isDrp, Bool.and_eq_true] at hc171; exact hc171.1.2
            obtain ⟨hp0, hht, hdr⟩ := there_spec hth
            obtain ⟨hjl, hej⟩ := place_nat hp0
            refine wpc_re 10 rfl (congrArg (Value.int .i64) hej) ?_
            refine wpc_region ?_
            refine wpl_q (q_pure rfl) rfl ?_
            refine wpl_q (q_pure rfl) rfl ?_
            refine wpl_q (q_idxW Try.underlying25 Try.ti66 rfl rfl (by first | assumption | exact SV.nil | exact SV.slv (by assumption) (by omega) (by omega) | exact arv_sv (by first | decide | (simp only [maxLen]; omega))) (by first | omega | (simp only [maxLen]; omega) | (simp only [List.length_append, List.length_cons, List.length_nil, List.length_take, maxLen]; omega) | (simp only [List.length_append, List.length_cons, List.length_nil, List.length_take]; omega))) rfl ?_
            refine wpl_q (q_fieldPo 5 Try.underlying66 rfl Try.ti4 rfl rfl rfl) rfl ?_
            refine wpl_t0 (t_stWF Try.ti4 rfl rfl rfl (by (try simp only [List.length_set]); omega) _ rfl) (fun _ => ?_)
            refine wpl_nil ?_
            refine ex_block ?_
            refine ex_then ?_
            refine wpc_region ?_
            refine wpl_q (q_pure rfl) rfl ?_
            refine wpl_q (q_addN (b := 10) rfl rfl (by first | omega | (simp only [maxLen]; omega) | (simp only [List.length_append, List.length_cons, List.length_nil, List.length_take, maxLen]; omega) | (simp only [List.length_append, List.length_cons, List.length_nil, List.length_take]; omega))) rfl ?_
            refine wpl_q (q_pure rfl) rfl ?_
            refine wpl_nil ?_
            refine ex_block ?_
            refine ex_again ⟨(n + 10, ks.set (placeF ks r.id).toNat { ks.getD (placeF ks r.id).toNat KE.z with dr := true }, v), ⟨by show n + 10 ≤ bs.length; omega, by first | (rw [List.length_append]; exact p134) | (rw [List.length_set]; exact hi1), hi2.read hrf, scan_next hi3 hlen hok hr hrf⟩⟩ ?_ ?_ ?_
            ·
             exact (by repeat (first | exact trivial | refine ⟨rfl, ?_⟩))
            ·
             exact fun w h => by
               dsimp only
               first
               | (rw [kRow, List.length_append]; exact h.sub SubC.h SubC.h)
               | (rw [kRow, List.length_set, ← kcs_updB _ hjl]; exact h.sub SubC.h SubC.h)
               | (rw [kRow, List.length_set, ← kcs_drp hjl]; exact h.sub SubC.h SubC.h)
            ·
             (show bs.length - (n + 10) < bs.length - n); omega
           ·
            have hsc := scan_none hi3 hlen hok hr (read_def hc109 hc135 hc171)
            refine wpc_seq ?_
            refine wpc_region ?_
            refine wpl_q (q_pure rfl) rfl ?_
            refine wpl_q (q_pure rfl) rfl ?_
            refine wpl_q (q_pure rfl) rfl ?_
            refine wpl_q (q_pure rfl) rfl ?_
            refine wpl_nil ?_
            refine ex_then ?_
            refine wpc_ret ?_
            refine ex_block_ret ?_
            refine ex_then_ret ?_
            refine ex_block_ret ?_
            refine ex_then_ret ?_
            refine ex_block_ret ?_
            refine ex_then_ret ?_
            refine ret2 (.inl rfl) rfl rfl rfl ?_
            exact fun w h => ⟨v, by rw [hsc]; exact hi1, by rw [hsc], h.below, by rw [hsc]; exact h.made SubC.h .nil⟩
   ·
    simp only [decide_eq_false_iff_not] at hc16
    have hsc := scan_end hi3 (recs_short (by omega))
    refine wpc_exit ?_
    refine ex_then_exit ?_
    refine ex_then_exit ?_
    refine ex_block_hit ?_
    refine ex_then ?_
    refine wpc_seq ?_
    refine wpc_region ?_
    refine wpl_q (q_pure rfl) rfl ?_
    refine wpl_q (q_pure rfl) rfl ?_
    refine wpl_q (q_pure rfl) rfl ?_
    refine wpl_q (q_pure rfl) rfl ?_
    refine wpl_nil ?_
    refine ex_then ?_
    refine wpc_ret ?_
    refine ret2 (.inl rfl) rfl rfl rfl ?_
    exact fun w h => ⟨v, by rw [hsc]; exact hi1, by rw [hsc], h.below, by rw [hsc]; exact h.made SubC.h .nil⟩

end Go.Proofs.Ytoaeklbenmlooaa
