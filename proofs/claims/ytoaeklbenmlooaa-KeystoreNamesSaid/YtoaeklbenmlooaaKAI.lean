/- What is well-formed stays so. -/
import Derived.Test.YtoaeklbenmlooaaKAH
namespace Go.Proofs.Ytoaeklbenmlooaa
set_option linter.unusedSimpArgs false
set_option linter.unusedVariables false
open Go Go.PL Go.RowKit

theorem okK_iff {k a : KE} {d : Int} : okK k a d = true ↔ k.id = a.id ∧ k.ht = a.ht ∧ k.ak = a.ak ∧ k.dr = a.dr ∧ k.du = d ∧ 0 ≤ k.nx ∧ k.nx ≤ d := by
  simp only [okK, Bool.and_eq_true, decide_eq_true_eq, and_assoc]
theorem idxFrom_ids {id : UInt32} : ∀ (a b : List KE) (i : Nat), ids a = ids b → idxFrom (isId id) a i = idxFrom (isId id) b i
  | [], [], _, _ => rfl
  | [], _ :: _, _, h => by simp [ids] at h
  | _ :: _, [], _, h => by simp [ids] at h
  | x :: a, y :: b, i, h => by
    simp only [ids, List.map_cons, List.cons.injEq] at h
    rw [idxFrom, idxFrom, idxFrom_ids a b (i + 1) h.2]
    simp only [isId, h.1]
theorem place_ids {a b : List KE} (id : UInt32) (h : ids a = ids b) : placeF a id = placeF b id := idxFrom_ids a b 0 h
theorem ids_ext {a b : List KE} (hl : a.length = b.length) (h : ∀ i, i < a.length → (a.getD i KE.z).id = (b.getD i KE.z).id) : ids a = ids b := by
  apply List.ext_getElem (by simp [ids, hl])
  intro i h1 h2
  simp only [ids, List.length_map] at h1 h2
  have := h i h1
  rw [List.getD_eq_getElem?_getD, List.getElem?_eq_getElem h1, List.getD_eq_getElem?_getD, List.getElem?_eq_getElem h2] at this
  simpa [ids] using this
theorem chk_ids {s : St} (hu : ChkU s) : ids s.ks = ids (scanR (s.dk ++ s.pd)).1 := ids_ext hu.2.2.1.symm fun i hi => (okK_iff.1 (hu.2.2.2 i hi)).1
theorem chk_dl {s : St} (hu : ChkU s) : (scanR s.dk).1.length ≤ s.ks.length := by rw [← hu.2.2.1]; exact (scanR_ext s.pd hu.1).1
theorem write_chk {s : St} {r : Rec} {ks' A' : List KE} (hs : ChkP s) (hup : s.up = true) (hr : readF (scanR (s.dk ++ s.pd)).1 r = some A') (h10 : s.dk.length + s.pd.length + 10 ≤ 1000) (hl : A'.length = ks'.length)
    (hk : ∀ i, i < ks'.length → okK (ks'.getD i KE.z) (A'.getD i KE.z) (durF (scanR s.dk).1 i) = true) : ChkP { s with pd := s.pd ++ recB r, ks := ks' } := by
  obtain ⟨h1, h2, h3, h4, h5⟩ := hs
  have hu := h5 hup
  have e := scanR_snoc (bs := s.dk ++ s.pd) (r := r) (by rw [hu.2.1, List.length_append]) hr
  rw [List.append_assoc] at e
  refine ⟨h1, h2, ?_, fun hh => ?_, fun _ => ⟨hu.1, ?_, ?_, ?_⟩⟩
  · show s.dk.length + (s.pd ++ recB r).length ≤ 1000
    rw [List.length_append, recB_length]; omega
  · exact absurd (hup.symm.trans hh) (by decide)
  · show (scanR (s.dk ++ (s.pd ++ recB r))).2 = s.dk.length + (s.pd ++ recB r).length
    rw [e, List.length_append, List.length_append, recB_length]; omega
  · show (scanR (s.dk ++ (s.pd ++ recB r))).1.length = ks'.length
    rw [e]; exact hl
  · intro i hi
    show okK (ks'.getD i KE.z) ((scanR (s.dk ++ (s.pd ++ recB r))).1.getD i KE.z) (durF (scanR s.dk).1 i) = true
    rw [e]; exact hk i hi
theorem writeF_ok {s : St} {bs : List UInt8} (h : (writeF s bs).2 = 0) : s.dk.length + s.pd.length + 10 ≤ 1000 ∧ (writeF s bs).1 = { s with pd := s.pd ++ bs } := by
  unfold writeF at *
  split at h
  · cases h
  · rename_i hc; rw [if_neg hc]; exact ⟨by omega, rfl⟩
theorem of8_small {n : Nat} (h : n < 256) : (of8 ((n : Nat) : Int)).toNat = n := by have := of8_toNat ((n : Nat) : Int); omega
theorem of16_small {n : Nat} (h : n < 65536) : (of16 ((n : Nat) : Int)).toNat = n := by have := of16_toNat ((n : Nat) : Int); omega
/-- What a call did that went well. -/
theorem createF_ok {s : St} {id : UInt32} {ht : Int} (h : (createF s id ht).2 = 0) : upF s true = 0 ∧ 0 ≤ ht ∧ ht ≤ 4 ∧ placeF s.ks id < 0 ∧ s.ks.length < 8 ∧ s.dk.length + s.pd.length + 10 ≤ 1000 ∧
    (createF s id ht).1 = { s with pd := s.pd ++ recB ⟨1, of8 ht, 0, id⟩, ks := s.ks ++ [⟨id, ht, 0, 0, 0, false⟩] } := by
  by_cases hu : upF s true = 0
  · by_cases h2 : ht < 0 ∨ 4 < ht
    · rw [cr2 hu h2] at h; cases h
    · by_cases h3 : 0 ≤ placeF s.ks id
      · rw [cr3 hu h2 h3] at h; cases h
      · by_cases h4 : 8 ≤ s.ks.length
        · rw [cr4 hu h2 h3 h4] at h; cases h
        · rw [cr5 hu h2 h3 h4] at h ⊢
          obtain ⟨h5, h6⟩ := writeF_ok h
          exact ⟨hu, by omega, by omega, by omega, by omega, h5, h6⟩
  · rw [cr1 hu] at h; exact absurd h hu
theorem createF_chk {s : St} {id : UInt32} {ht : Int} (h : (createF s id ht).2 = 0) : ChkP (createF s id ht).1 := by
  obtain ⟨hu, h1, h2, h3, h4, h5, h6⟩ := createF_ok h
  obtain ⟨hc, hup⟩ := upF_ok hu
  have hU := hc.2.2.2.2 hup
  obtain ⟨n, rfl⟩ := Int.eq_ofNat_of_zero_le h1
  have hn : (of8 ((n : Nat) : Int)).toNat = n := of8_small (by omega)
  rw [h6]
  have hp : placeF (scanR (s.dk ++ s.pd)).1 id < 0 := by rw [← place_ids id (chk_ids hU)]; exact h3
  have hal := hU.2.2.1
  refine write_chk hc hup (A' := (scanR (s.dk ++ s.pd)).1 ++ [⟨id, ((n : Nat) : Int), 0, 0, 0, false⟩]) ?_ h5 (by simp [hal]) ?_
  · have := readF_1 (ks := (scanR (s.dk ++ s.pd)).1) (r := ⟨1, of8 ((n : Nat) : Int), 0, id⟩) rfl (by
      rintro (hh | hh | hh | hh)
      · exact absurd hp (Int.not_lt.2 hh)
      · omega
      · have hh : 4 < (of8 ((n : Nat) : Int)).toNat := hh
        omega
      · exact hh rfl)
    rw [this, hn]
  · intro i hi
    rw [List.length_append, List.length_singleton] at hi
    by_cases hl : i < s.ks.length
    · rw [getD_snoc hl, getD_snoc (by omega)]; exact hU.2.2.2 i hl
    · obtain rfl : i = s.ks.length := by omega
      rw [getD_snocL, ← hal, getD_snocL, okK_iff]
      have hd : durF (scanR s.dk).1 (scanR (s.dk ++ s.pd)).1.length = 0 := if_neg (by have := chk_dl hU; omega)
      rw [hd]
      exact ⟨rfl, rfl, rfl, rfl, rfl, Int.le_refl _, Int.le_refl _⟩
theorem there_dr {s : St} {id : UInt32} {j : Nat} (h : (thereF s id).2 = 0) (hj : placeF s.ks id = ((j : Nat) : Int)) : (s.ks.getD j KE.z).dr = false := by
  have hu := (there_ok h).1
  unfold thereF at h
  rw [if_pos hu, hj, Int.toNat_natCast] at h
  split at h
  · cases h
  · rename_i hc
    cases hd : (s.ks.getD j KE.z).dr
    · rfl
    · exact absurd (.inr hd) hc
/-- A key and its twin in the journal. -/
theorem key_at {s : St} {id : UInt32} (h : (thereF s id).2 = 0) : ∃ j, upF s true = 0 ∧ ChkP s ∧ s.up = true ∧ ChkU s ∧ j < s.ks.length ∧ placeF s.ks id = ((j : Nat) : Int) ∧ placeF (scanR (s.dk ++ s.pd)).1 id = ((j : Nat) : Int) ∧ (s.ks.getD j KE.z).dr = false ∧ (s.ks.getD j KE.z).id = id ∧
    okK (s.ks.getD j KE.z) ((scanR (s.dk ++ s.pd)).1.getD j KE.z) (durF (scanR s.dk).1 j) = true ∧ KGood ((scanR (s.dk ++ s.pd)).1.getD j KE.z) := by
  obtain ⟨hu, j, h1, h2, _⟩ := there_ok h
  obtain ⟨hc, hup⟩ := upF_ok hu
  have hU := hc.2.2.2.2 hup
  refine ⟨j, hu, hc, hup, hU, h1, h2, by rw [← place_ids id (chk_ids hU)]; exact h2, there_dr h h2, ?_, hU.2.2.2 j h1, (scanR_good _).get (by rw [hU.2.2.1]; exact h1)⟩
  rcases idxF_spec (isId id) KE.z s.ks with ⟨e, _⟩ | ⟨i, _, e, e2, _⟩
  · rw [placeF, e] at h2; exact absurd h2 (by omega)
  · rw [placeF, e] at h2
    obtain rfl : i = j := by omega
    simpa [isId] using e2
theorem set_chk {s : St} {r : Rec} {j : Nat} {k a : KE} (hc : ChkP s) (hup : s.up = true) (hj : j < s.ks.length) (hr : readF (scanR (s.dk ++ s.pd)).1 r = some ((scanR (s.dk ++ s.pd)).1.set j a)) (h10 : s.dk.length + s.pd.length + 10 ≤ 1000)
    (hk : okK k a (durF (scanR s.dk).1 j) = true) : ChkP { s with pd := s.pd ++ recB r, ks := s.ks.set j k } := by
  have hU := hc.2.2.2.2 hup
  have hal := hU.2.2.1
  refine write_chk hc hup hr h10 (by rw [List.length_set, List.length_set, hal]) fun i hi => ?_
  rw [List.length_set] at hi
  rw [getD_set hi, getD_set (by omega)]
  split
  · rename_i e; subst e; exact hk
  · exact hU.2.2.2 i hi
theorem reserveF_ok {s : St} {id : UInt32} (h : (reserveF s id).2 = 0) : (thereF s id).2 = 0 ∧ ¬ (kAt s id).ak = ((2 ^ (kAt s id).ht.toNat : Nat) : Int) ∧ s.dk.length + s.pd.length + 10 ≤ 1000 ∧
    (reserveF s id).1 = { s with pd := s.pd ++ recB ⟨2, of8 ((kAt s id).ht.toNat : Nat), of16 (newA s (kAt s id) : Nat), id⟩, ks := s.ks.set (placeF s.ks id).toNat { kAt s id with ak := (newA s (kAt s id) : Nat) } } := by
  unfold reserveF at *
  split at h
  · rename_i hc; exact absurd h hc
  · rename_i h1
    rw [if_neg h1]
    split at h
    · cases h
    · rename_i h2
      rw [if_neg h2]
      obtain ⟨h5, h6⟩ := writeF_ok h
      exact ⟨Decidable.not_not.1 h1, h2, h5, h6⟩
theorem reserveF_chk {s : St} {id : UInt32} (h : (reserveF s id).2 = 0) : ChkP (reserveF s id).1 := by
  obtain ⟨h1, h2, h3, h4⟩ := reserveF_ok h
  obtain ⟨j, hu, hc, hup, hU, hj, hp, hpA, hdr, hid, hok, g1, g2, g3, g4, g5, g6⟩ := key_at h1
  obtain ⟨o1, o2, o3, o4, o5, o6, o7⟩ := okK_iff.1 hok
  rw [h4]
  have ek : kAt s id = s.ks.getD j KE.z := kAt_j hp
  rw [ek] at h2 ⊢
  rw [hp, Int.toNat_natCast]
  have hb := hc.1
  have hb2 := hc.2.1
  have hlt := (Nat.two_pow_pos (s.ks.getD j KE.z).ht.toNat)
  have hp16 : 2 ^ (s.ks.getD j KE.z).ht.toNat ≤ 16 := pow_le (by omega)
  have hN : newA s (s.ks.getD j KE.z) = min ((s.ks.getD j KE.z).ak.toNat + s.bt.toNat) (2 ^ (s.ks.getD j KE.z).ht.toNat) := rfl
  rw [o2, o3] at h2
  have hbig : (s.ks.getD j KE.z).ak.toNat < newA s (s.ks.getD j KE.z) := by rw [hN, o2, o3]; omega
  have hle : newA s (s.ks.getD j KE.z) ≤ 2 ^ (s.ks.getD j KE.z).ht.toNat := by rw [hN]; exact Nat.min_le_right _ _
  have hv : (of16 ((newA s (s.ks.getD j KE.z) : Nat) : Int)).toNat = newA s (s.ks.getD j KE.z) := of16_small (by omega)
  have hh : (of8 (((s.ks.getD j KE.z).ht.toNat : Nat) : Int)).toNat = (s.ks.getD j KE.z).ht.toNat := of8_small (by omega)
  refine set_chk hc hup hj (a := { (scanR (s.dk ++ s.pd)).1.getD j KE.z with nx := (newA s (s.ks.getD j KE.z) : Nat), du := (newA s (s.ks.getD j KE.z) : Nat), ak := (newA s (s.ks.getD j KE.z) : Nat) }) ?_ h3 ?_
  · have hR : isRes (scanR (s.dk ++ s.pd)).1 ⟨2, of8 (((s.ks.getD j KE.z).ht.toNat : Nat) : Int), of16 ((newA s (s.ks.getD j KE.z) : Nat) : Int), id⟩ = true := by
      simp only [isRes, thereB, Bool.and_eq_true, decide_eq_true_eq, Bool.not_eq_true', hpA, Int.toNat_natCast, hv, hh]
      refine ⟨⟨⟨trivial, ⟨by omega, by rw [← o2]; omega⟩, by rw [← o4]; exact hdr⟩, by rw [← o3]; omega⟩, hle⟩
    rw [read_res hR]
    simp only [hpA, Int.toNat_natCast, hv]
  · exact okK_iff.2 ⟨o1, o2, rfl, o4, o5, o6, o7⟩
theorem dropF_ok {s : St} {id : UInt32} (h : (dropF s id).2 = 0) : (thereF s id).2 = 0 ∧ s.dk.length + s.pd.length + 10 ≤ 1000 ∧
    (dropF s id).1 = { s with pd := s.pd ++ recB ⟨3, of8 ((kAt s id).ht.toNat : Nat), of16 ((kAt s id).ak.toNat : Nat), id⟩, ks := s.ks.set (placeF s.ks id).toNat { kAt s id with dr := true } } := by
  unfold dropF at *
  split at h
  · rename_i hc; exact absurd h hc
  · rename_i h1
    rw [if_neg h1]
    obtain ⟨h5, h6⟩ := writeF_ok h
    exact ⟨Decidable.not_not.1 h1, h5, h6⟩
theorem dropF_chk {s : St} {id : UInt32} (h : (dropF s id).2 = 0) : ChkP (dropF s id).1 := by
  obtain ⟨h1, h3, h4⟩ := dropF_ok h
  obtain ⟨j, hu, hc, hup, hU, hj, hp, hpA, hdr, hid, hok, g1, g2, g3, g4, g5, g6⟩ := key_at h1
  obtain ⟨o1, o2, o3, o4, o5, o6, o7⟩ := okK_iff.1 hok
  rw [h4]
  have ek : kAt s id = s.ks.getD j KE.z := kAt_j hp
  rw [ek, hp, Int.toNat_natCast]
  have hp16 : 2 ^ ((scanR (s.dk ++ s.pd)).1.getD j KE.z).ht.toNat ≤ 16 := pow_le (by omega)
  have hv : (of16 (((s.ks.getD j KE.z).ak.toNat : Nat) : Int)).toNat = (s.ks.getD j KE.z).ak.toNat := of16_small (by omega)
  have hh : (of8 (((s.ks.getD j KE.z).ht.toNat : Nat) : Int)).toNat = (s.ks.getD j KE.z).ht.toNat := of8_small (by omega)
  refine set_chk hc hup hj (a := { (scanR (s.dk ++ s.pd)).1.getD j KE.z with dr := true }) ?_ h3 ?_
  · have hR : isDrp (scanR (s.dk ++ s.pd)).1 ⟨3, of8 (((s.ks.getD j KE.z).ht.toNat : Nat) : Int), of16 (((s.ks.getD j KE.z).ak.toNat : Nat) : Int), id⟩ = true := by
      simp only [isDrp, thereB, Bool.and_eq_true, decide_eq_true_eq, Bool.not_eq_true', hpA, Int.toNat_natCast, hv, hh]
      refine ⟨⟨trivial, ⟨by omega, by rw [← o2]; omega⟩, by rw [← o4]; exact hdr⟩, by rw [← o3]; omega⟩
    rw [read_drp hR]
    simp only [hpA, Int.toNat_natCast]
  · exact okK_iff.2 ⟨o1, o2, o3, rfl, o5, o6, o7⟩
theorem syncF_ok {s : St} (h : (syncF s).2 = 0) : upF s true = 0 ∧ (syncF s).1 = { s with dk := s.dk ++ s.pd, pd := [], ks := durT s.ks s.ks.length } := by
  by_cases hu : upF s true = 0
  · rw [sy2 hu]; exact ⟨hu, rfl⟩
  · rw [sy1 hu] at h; exact absurd h hu
theorem durT_at {ks : List KE} {i : Nat} (h : i < ks.length) : (durT ks ks.length).getD i KE.z = durK (ks.getD i KE.z) := by
  rw [durT, List.take_length, List.drop_length, List.append_nil, List.getD_eq_getElem?_getD, List.getElem?_map, List.getD_eq_getElem?_getD, List.getElem?_eq_getElem h]; rfl
theorem durF_le {s : St} (hU : ChkU s) {i : Nat} (hi : i < s.ks.length) : durF (scanR s.dk).1 i ≤ ((scanR (s.dk ++ s.pd)).1.getD i KE.z).ak := by
  unfold durF
  split
  · rename_i hd; exact ((scanR_ext s.pd hU.1).2 i hd).2.2.1
  · exact ((scanR_good _).get (by rw [hU.2.2.1]; exact hi)).2.2.2.2.1
theorem syncF_chk {s : St} (h : (syncF s).2 = 0) : ChkP (syncF s).1 := by
  obtain ⟨hu, e⟩ := syncF_ok h
  obtain ⟨hc, hup⟩ := upF_ok hu
  have hU := hc.2.2.2.2 hup
  obtain ⟨h1, h2, h3, h4, h5⟩ := hc
  rw [e]
  refine ⟨h1, h2, ?_, fun hh => absurd (hup.symm.trans hh) (by decide), fun _ => ⟨?_, ?_, ?_, ?_⟩⟩
  · show (s.dk ++ s.pd).length + 0 ≤ 1000; rw [List.length_append]; omega
  · show (scanR (s.dk ++ s.pd)).2 = (s.dk ++ s.pd).length; rw [hU.2.1, List.length_append]
  · show (scanR (s.dk ++ s.pd ++ [])).2 = (s.dk ++ s.pd).length + 0; rw [List.append_nil, hU.2.1, List.length_append]; rfl
  · show (scanR (s.dk ++ s.pd ++ [])).1.length = (durT s.ks s.ks.length).length; rw [List.append_nil, durT_len]; exact hU.2.2.1
  · intro i hi
    have hi : i < (durT s.ks s.ks.length).length := hi
    rw [durT_len] at hi
    show okK ((durT s.ks s.ks.length).getD i KE.z) ((scanR (s.dk ++ s.pd ++ [])).1.getD i KE.z) (durF (scanR (s.dk ++ s.pd)).1 i) = true
    rw [List.append_nil, durT_at hi]
    obtain ⟨o1, o2, o3, o4, o5, o6, o7⟩ := okK_iff.1 (hU.2.2.2 i hi)
    have hd : durF (scanR (s.dk ++ s.pd)).1 i = ((scanR (s.dk ++ s.pd)).1.getD i KE.z).ak := if_pos (by rw [hU.2.2.1]; exact hi)
    rw [hd]
    exact okK_iff.2 ⟨o1, o2, o3, o4, o3, o6, Int.le_trans o7 (durF_le hU hi)⟩
theorem crashF_ok {s : St} {k : Int} (h : (crashF s k).2 = 0) : upF s true = 0 ∧ 0 ≤ k ∧ k ≤ (s.pd.length : Int) ∧ (crashF s k).1 = { s with up := false, dk := s.dk ++ s.pd.take k.toNat, pd := [], ks := [] } := by
  by_cases hu : upF s true = 0
  · by_cases h2 : k < 0 ∨ (s.pd.length : Int) < k
    · rw [ch2 hu h2] at h; cases h
    · obtain ⟨m, rfl⟩ := Int.eq_ofNat_of_zero_le (show 0 ≤ k by omega)
      rw [ch3 hu (by omega), Int.toNat_natCast]
      exact ⟨hu, by omega, by omega, rfl⟩
  · rw [ch1 hu] at h; exact absurd h hu
theorem crashF_chk {s : St} {k : Int} (h : (crashF s k).2 = 0) : ChkP (crashF s k).1 := by
  obtain ⟨hu, h1, h2, e⟩ := crashF_ok h
  obtain ⟨hc, hup⟩ := upF_ok hu
  rw [e]
  refine ⟨hc.1, hc.2.1, ?_, fun _ => ⟨rfl, rfl⟩, fun hh => Bool.noConfusion (show false = true from hh)⟩
  have := hc.2.2.1
  show (s.dk ++ s.pd.take k.toNat).length + 0 ≤ 1000
  rw [List.length_append, List.length_take]; omega
theorem openF_ok {s : St} (h : (openF s).2 = 0) : upF s false = 0 ∧ (openF s).1 = { s with up := true, dk := s.dk.take (scanR s.dk).2, ks := (scanR s.dk).1 } := ⟨op_up h, by rw [op2 (op_up h)]⟩
theorem openF_chk {s : St} (h : (openF s).2 = 0) : ChkP (openF s).1 := by
  obtain ⟨hu, e⟩ := openF_ok h
  obtain ⟨hc, hup⟩ := upF_ok hu
  have hpd := open_pd hu
  obtain ⟨c1, c2⟩ := scanR_cut s.dk
  rw [e]
  refine ⟨hc.1, hc.2.1, ?_, fun hh => Bool.noConfusion (show true = false from hh), fun _ => ⟨?_, ?_, ?_, ?_⟩⟩
  · have := hc.2.2.1
    show (s.dk.take _).length + s.pd.length ≤ 1000
    rw [List.length_take]; omega
  · show (scanR (s.dk.take (scanR s.dk).2)).2 = (s.dk.take (scanR s.dk).2).length; rw [c1, c2]
  · show (scanR (s.dk.take (scanR s.dk).2 ++ s.pd)).2 = (s.dk.take (scanR s.dk).2).length + s.pd.length; rw [hpd, List.append_nil, c1, c2]; rfl
  · show (scanR (s.dk.take (scanR s.dk).2 ++ s.pd)).1.length = (scanR s.dk).1.length; rw [hpd, List.append_nil, c1]
  · intro i hi
    show okK ((scanR s.dk).1.getD i KE.z) ((scanR (s.dk.take (scanR s.dk).2 ++ s.pd)).1.getD i KE.z) (durF (scanR (s.dk.take (scanR s.dk).2)).1 i) = true
    rw [hpd, List.append_nil, c1]
    have hi : i < (scanR s.dk).1.length := hi
    obtain ⟨g1, g2, g3, g4, g5, g6⟩ := (scanR_good s.dk).get hi
    rw [show durF (scanR s.dk).1 i = ((scanR s.dk).1.getD i KE.z).ak from if_pos hi]
    exact okK_iff.2 ⟨rfl, rfl, rfl, rfl, g2, by omega, by omega⟩
theorem takeF_ok {s : St} {id : UInt32} (h : (takeF s id).2.2 = 0) : (thereF s id).2 = 0 ∧ ¬ (kAt s id).nx = (kAt s id).du ∧ (takeF s id).1 = (kAt s id).nx ∧ (takeF s id).2.1 = putK s id { kAt s id with nx := (((kAt s id).nx.toNat + 1 : Nat) : Int) } := by
  unfold takeF at *
  split at h
  · rename_i hc; exact absurd h hc
  · rename_i h1
    rw [if_neg h1]
    split at h
    · cases h
    · rename_i h2
      rw [if_neg h2]
      split at h
      · cases h
      · rename_i h3
        rw [if_neg h3]
        exact ⟨Decidable.not_not.1 h1, h3, rfl, rfl⟩
theorem takeF_chk {s : St} {id : UInt32} (h : (takeF s id).2.2 = 0) : ChkP (takeF s id).2.1 := by
  obtain ⟨h1, h2, _, h4⟩ := takeF_ok h
  obtain ⟨j, hu, hc, hup, hU, hj, hp, hpA, hdr, hid, hok, _⟩ := key_at h1
  obtain ⟨o1, o2, o3, o4, o5, o6, o7⟩ := okK_iff.1 hok
  have ek : kAt s id = s.ks.getD j KE.z := kAt_j hp
  rw [h4, putK_j hp, ek]
  rw [ek] at h2
  obtain ⟨c1, c2, c3, c4, c5⟩ := hc
  refine ⟨c1, c2, c3, fun hh => absurd (hup.symm.trans hh) (by decide), fun _ => ⟨hU.1, hU.2.1, ?_, fun i hi => ?_⟩⟩
  · show (scanR (s.dk ++ s.pd)).1.length = (s.ks.set j _).length; rw [List.length_set]; exact hU.2.2.1
  · have hi : i < (s.ks.set j { s.ks.getD j KE.z with nx := (((s.ks.getD j KE.z).nx.toNat + 1 : Nat) : Int) }).length := hi
    rw [List.length_set] at hi
    show okK ((s.ks.set j _).getD i KE.z) ((scanR (s.dk ++ s.pd)).1.getD i KE.z) (durF (scanR s.dk).1 i) = true
    rw [getD_set hi]
    split
    · rename_i e; subst e
      exact okK_iff.2 ⟨o1, o2, o3, o4, o5, Int.natCast_nonneg _, by dsimp only; omega⟩
    · exact hU.2.2.2 i hi
theorem newF_chk {m : List UInt8} {n : Int} (h : (newF m n).2 = 0) : ChkP (newF m n).1 := by
  have e := pl_new h
  have hn : ¬ (n < 1 ∨ 16 < n) := fun hh => by rw [newF, if_pos hh] at h; cases h
  rw [e]
  exact ⟨by show 1 ≤ n; omega, by show n ≤ 16; omega, Nat.zero_le _, fun hh => Bool.noConfusion (show true = false from hh), fun _ => ⟨rfl, rfl, rfl, fun i hi => absurd hi (by simp)⟩⟩
theorem doF_chk {s : St} {x : Stp} (h : (doF s x).2.2 = 0) : ChkP (doF s x).2.1 := by
  unfold doF at *
  split
  · rename_i h1; rw [if_pos h1] at h; exact createF_chk h
  · rename_i h1; rw [if_neg h1] at h; split
    · rename_i h1; rw [if_pos h1] at h; exact reserveF_chk h
    · rename_i h1; rw [if_neg h1] at h; split
      · rename_i h1; rw [if_pos h1] at h; exact dropF_chk h
      · rename_i h1; rw [if_neg h1] at h; split
        · rename_i h1; rw [if_pos h1] at h; exact syncF_chk h
        · rename_i h1; rw [if_neg h1] at h; split
          · rename_i h1; rw [if_pos h1] at h; exact crashF_chk h
          · rename_i h1; rw [if_neg h1] at h; split
            · rename_i h1; rw [if_pos h1] at h; exact openF_chk h
            · rename_i h1; rw [if_neg h1] at h; split
              · rename_i h1; rw [if_pos h1] at h; exact takeF_chk h
              · rename_i h1; rw [if_neg h1] at h; exact absurd h (by decide)
theorem stepF_chk {s : St} {x : Stp} (hs : ChkP s) : ChkP (stepF s x).2.1 := by
  unfold stepF
  split
  · exact hs
  · rename_i h; exact doF_chk (Decidable.not_not.1 h)
theorem runF_chk : ∀ (l : List Stp) {s : St}, ChkP s → ChkP (runF l s).2
  | [], _, h => h
  | _ :: l, _, h => runF_chk l (stepF_chk h)

end Go.Proofs.Ytoaeklbenmlooaa
