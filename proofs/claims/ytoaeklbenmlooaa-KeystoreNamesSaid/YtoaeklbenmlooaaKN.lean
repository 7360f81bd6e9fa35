/- Stores that are up. -/
import Derived.Test.YtoaeklbenmlooaaKM
namespace Go.Proofs.Ytoaeklbenmlooaa
set_option linter.unusedSimpArgs false
set_option linter.unusedVariables false
open Go Go.PL Go.RowKit

theorem list32 {xs : List UInt8} (h : xs.length = 32) : ∃ a0 a1 a2 a3 a4 a5 a6 a7 a8 a9 a10 a11 a12 a13 a14 a15 a16 a17 a18 a19 a20 a21 a22 a23 a24 a25 a26 a27 a28 a29 a30 a31, xs = [a0, a1, a2, a3, a4, a5, a6, a7, a8, a9, a10, a11, a12, a13, a14, a15, a16, a17, a18, a19, a20, a21, a22, a23, a24, a25, a26, a27, a28, a29, a30, a31] := by
  iterate 32 (cases xs with | nil => simp at h | cons a xs => ?_)
  cases xs with
  | nil => exact ⟨_, _, _, _, _, _, _, _, _, _, _, _, _, _, _, _, _, _, _, _, _, _, _, _, _, _, _, _, _, _, _, _, rfl⟩
  | cons a xs => simp at h
def St.z : St := ⟨List.replicate 32 0, 0, false, [], [], []⟩
abbrev nl : Value := .slice none 0 0
theorem built_st0 : Try.prog.built 27 [] = some (St.z.c nl nl nl).toArray := by kernel_rfl
theorem built_st3 (xs : List UInt8) (n : Int) (b : Bool) (h : xs.length = 32) : Try.prog.built 27 [(0, .agg (v8s xs).toArray), (1, .int .i64 n), (2, .bool b)] = some ((⟨xs, n, b, [], [], []⟩ : St).c nl nl nl).toArray := by
  obtain ⟨a0, a1, a2, a3, a4, a5, a6, a7, a8, a9, a10, a11, a12, a13, a14, a15, a16, a17, a18, a19, a20, a21, a22, a23, a24, a25, a26, a27, a28, a29, a30, a31, rfl⟩ := list32 h
  kernel_rfl
theorem stz : StS (fun _ => none) St.z nl nl nl := ⟨rfl, seen_nil _ _, seen_nil _ _, seen_nil _ _, by decide, by decide, by decide⟩
def upF (s : St) (is : Bool) : Int := if ChkP s then (if s.up = is then 0 else 32) else 8
theorem upF_8 {s : St} {is : Bool} (h : ¬ chkF s = 0) : upF s is = 8 := by
  unfold upF; rw [if_neg]; intro hh; exact h (chk0 hh)
theorem chk_ok {s : St} (h : chkF s = 0) : ChkP s := by
  unfold chkF at h; split at h
  · assumption
  · cases h
theorem upF_32 {s : St} {is : Bool} (h : chkF s = 0) (h2 : ¬ s.up = is) : upF s is = 32 := by unfold upF; rw [if_pos (chk_ok h), if_neg h2]
theorem upF_0 {s : St} {is : Bool} (h : chkF s = 0) (h2 : s.up = is) : upF s is = 0 := by unfold upF; rw [if_pos (chk_ok h), if_pos h2]
theorem upF_ok {s : St} {is : Bool} (h : upF s is = 0) : ChkP s ∧ s.up = is := by
  unfold upF at h
  split at h
  · split at h
    · exact ⟨by assumption, by assumption⟩
    · cases h
  · cases h
def thereF (s : St) (id : UInt32) : Int × Int := if upF s true = 0 then (if placeF s.ks id < 0 ∨ (s.ks.getD (placeF s.ks id).toNat KE.z).dr = true then (0, 6) else (placeF s.ks id, 0)) else (0, upF s true)
theorem chk_nodup {s : St} (h : ChkU s) : (ids s.ks).Nodup := by
  have e : ids s.ks = ids (scanR (s.dk ++ s.pd)).1 := by
    apply List.ext_getElem?
    intro i
    by_cases hi : i < s.ks.length
    · rw [id_get hi, id_get (by rw [h.2.2.1]; exact hi), (okb (h.2.2.2 i hi)).1]
    · rw [List.getElem?_eq_none (by rw [ids, List.length_map]; omega), List.getElem?_eq_none (by rw [ids, List.length_map, h.2.2.1]; omega)]
  rw [e]; exact scanR_nodup _
theorem th_place {ks : List KE} {id : UInt32} (hn : (ids ks).Nodup) : idxF (isTh id) ks = if placeF ks id < 0 ∨ (ks.getD (placeF ks id).toNat KE.z).dr = true then -1 else placeF ks id := by
  rcases idxF_spec (isTh id) KE.z ks with ⟨h1, h2⟩ | ⟨j, h1, h2, h3, h4⟩
  · rw [h1]
    by_cases hp : placeF ks id < 0
    · rw [if_pos (.inl hp)]
    · rcases idxF_spec (isId id) KE.z ks with ⟨e, _⟩ | ⟨k, g1, g2, g3, _⟩
      · exact absurd (show placeF ks id < 0 by rw [placeF, e]; decide) hp
      · rw [if_pos]
        right
        rw [show placeF ks id = (k : Int) from g2, Int.toNat_natCast]
        have hm : ks.getD k KE.z ∈ ks := by rw [List.getD_eq_getElem?_getD, List.getElem?_eq_getElem g1]; exact List.getElem_mem g1
        have h5 := h2 _ hm
        simp only [isId, decide_eq_true_eq] at g3
        cases hd : (ks.getD k KE.z).dr
        · simp only [isTh, g3, hd, decide_true, Bool.not_false, Bool.and_true] at h5; cases h5
        · rfl
  · rw [h2]
    simp only [isTh, Bool.and_eq_true, decide_eq_true_eq, Bool.not_eq_true'] at h3
    have e := place_nodup hn h1
    rw [h3.1] at e
    rw [if_neg, e]
    rw [e, Int.toNat_natCast]
    rintro (h | h)
    · omega
    · rw [h3.2] at h; cases h

set_option maxRecDepth 100000 in
theorem up_ (s : St) (dv pv kv : Value) (is : Bool) (w : World) (hs : StS w.cell? s dv pv kv)  :
    Calls Try.prog 37 [.agg (s.c dv pv kv).toArray, .bool is].toArray w (Pur w (.int .i64 (upF s is))) := by
  have sdv := hs.d.sv
  have spv := hs.p.sv
  have skv := hs.k.sv
  have l1hs := hs.ld
  have l2hs := hs.lp
  have l3hs := hs.lk
  refine enter (m := 14) (R := Mem w [] [] []) Try.func37 rfl rfl (Nat.le_of_ble_eq_true rfl) (Mem.start w) ?_
  refine wpc_seq ?_
  refine wpc_region ?_
  refine wpl_t (t_box rfl (s.c dv pv kv) rfl) rfl (fun b2 => ?_)
  refine wpl_q (q_pure rfl) rfl ?_
  refine wpl_nil ?_
  refine ex_then ?_
  refine wpc_seq ?_
  refine wpc_block ?_
  refine wpc_seq ?_
  refine wpc_region ?_
  refine wpl_q (q_ldN Try.underlying27 rfl Try.ti27 rfl (St.c_length hs.len)) rfl ?_
  refine wpl_t (t_pur Try.hb29 rfl fun w h => check _ _ _ _ w (by first | exact StS.old h hs | exact ⟨hs.len, h.seenV, h.seenV, h.seenV, by omega, by omega, by omega⟩)) rfl (fun b7 => ?_)
  refine wpl_q (q_pure rfl) rfl ?_
  refine wpl_q (q_pure rfl) rfl ?_
  refine wpl_nil ?_
  refine ex_then ?_
  refine wpc_cond rfl (fun hc5 => ?_) (fun hc5 => ?_)
  ·
   simp only [bne_iff_ne, ne_eq] at hc5
   refine wpc_seq ?_
   refine wpc_region ?_
   refine wpl_q (q_pure rfl) rfl ?_
   refine wpl_nil ?_
   refine ex_then ?_
   refine wpc_ret ?_
   refine ex_block_ret ?_
   refine ex_then_ret ?_
   refine ret1 (.inl rfl) rfl rfl ?_
   exact fun w h => ⟨by rw [upF_8 hc5], h.below⟩
  ·
   simp only [bne_eq_false_iff_eq] at hc5
   refine wpc_seq ?_
   refine wpc_region ?_
   refine wpl_q (q_field Try.underlying27 rfl Try.ti4 rfl rfl _ rfl) rfl ?_
   refine wpl_q (q_ld Try.underlying4 rfl rfl (by first | exact St.c_b hs.len | exact St.c_u hs.len | exact St.c_d hs.len | exact St.c_p hs.len | exact St.c_k hs.len)) rfl ?_
   refine wpl_q (q_pure rfl) rfl ?_
   refine wpl_q (q_bne Try.underlying4 rfl rfl) rfl ?_
   refine wpl_q (q_pure rfl) rfl ?_
   refine wpl_nil ?_
   refine ex_then ?_
   refine wpc_cond rfl (fun hc9 => ?_) (fun hc9 => ?_)
   ·
    have hne : ¬ s.up = is := by simpa using hc9
    refine wpc_seq ?_
    refine wpc_region ?_
    refine wpl_q (q_pure rfl) rfl ?_
    refine wpl_nil ?_
    refine ex_then ?_
    refine wpc_ret ?_
    refine ex_block_ret ?_
    refine ex_then_ret ?_
    refine ret1 (.inl rfl) rfl rfl ?_
    exact fun w h => ⟨by rw [upF_32 hc5 hne], h.below⟩
   ·
    have heq : s.up = is := by simpa using hc9
    refine wpc_skip ?_
    refine ex_block ?_
    refine ex_then ?_
    refine wpc_seq ?_
    refine wpc_region ?_
    refine wpl_q (q_pure rfl) rfl ?_
    refine wpl_nil ?_
    refine ex_then ?_
    refine wpc_ret ?_
    refine ret1 (.inl rfl) rfl rfl ?_
    exact fun w h => ⟨by rw [upF_0 hc5 heq], h.below⟩

set_option maxRecDepth 100000 in
theorem refUp (s : St) (dv pv kv : Value) (is : Bool) (w : World) (hs : StS w.cell? s dv pv kv)  :
    Calls Try.prog 39 [.agg (s.c dv pv kv).toArray, .bool is].toArray w (Pur w (.int .i64 (upF s is))) := by
  have sdv := hs.d.sv
  have spv := hs.p.sv
  have skv := hs.k.sv
  have l1hs := hs.ld
  have l2hs := hs.lp
  have l3hs := hs.lk
  refine enter (m := 12) (R := Mem w [] [] []) Try.func39 rfl rfl (Nat.le_of_ble_eq_true rfl) (Mem.start w) ?_
  refine wpc_seq ?_
  refine wpc_region ?_
  refine wpl_t (t_box rfl (s.c dv pv kv) rfl) rfl (fun b2 => ?_)
  refine wpl_q (q_pure rfl) rfl ?_
  refine wpl_nil ?_
  refine ex_then ?_
  refine wpc_seq ?_
  refine wpc_seq ?_
  refine wpc_region ?_
  refine wpl_q (q_ldN Try.underlying27 rfl Try.ti27 rfl (St.c_length hs.len)) rfl ?_
  refine wpl_t (t_pur Try.hb30 rfl fun w h => refCheck18 _ _ _ _ w (by first | exact StS.old h hs | exact ⟨hs.len, h.seenV, h.seenV, h.seenV, by omega, by omega, by omega⟩)) rfl (fun b6 => ?_)
  refine wpl_q (q_pure rfl) rfl ?_
  refine wpl_nil ?_
  refine ex_then ?_
  refine wpc_cond rfl (fun hc7 => ?_) (fun hc7 => ?_)
  ·
   simp only [bne_iff_ne, ne_eq] at hc7
   refine wpc_seq ?_
   refine wpc_region ?_
   refine wpl_q (q_pure rfl) rfl ?_
   refine wpl_nil ?_
   refine ex_then ?_
   refine wpc_ret ?_
   refine ex_then_ret ?_
   refine ret1 (.inl rfl) rfl rfl ?_
   exact fun w h => ⟨by rw [upF_8 hc7], h.below⟩
  ·
   simp only [bne_eq_false_iff_eq] at hc7
   refine wpc_skip ?_
   refine ex_then ?_
   refine wpc_seq ?_
   refine wpc_seq ?_
   refine wpc_region ?_
   refine wpl_q (q_field Try.underlying27 rfl Try.ti4 rfl rfl _ rfl) rfl ?_
   refine wpl_q (q_ld Try.underlying4 rfl rfl (by first | exact St.c_b hs.len | exact St.c_u hs.len | exact St.c_d hs.len | exact St.c_p hs.len | exact St.c_k hs.len)) rfl ?_
   refine wpl_q (q_pure rfl) rfl ?_
   refine wpl_q (q_bne Try.underlying4 rfl rfl) rfl ?_
   refine wpl_nil ?_
   refine ex_then ?_
   refine wpc_cond rfl (fun hc11 => ?_) (fun hc11 => ?_)
   ·
    have hne : ¬ s.up = is := by simpa using hc11
    refine wpc_seq ?_
    refine wpc_region ?_
    refine wpl_q (q_pure rfl) rfl ?_
    refine wpl_nil ?_
    refine ex_then ?_
    refine wpc_ret ?_
    refine ex_then_ret ?_
    refine ret1 (.inl rfl) rfl rfl ?_
    exact fun w h => ⟨by rw [upF_32 hc7 hne], h.below⟩
   ·
    have heq : s.up = is := by simpa using hc11
    refine wpc_skip ?_
    refine ex_then ?_
    refine wpc_seq ?_
    refine wpc_region ?_
    refine wpl_q (q_pure rfl) rfl ?_
    refine wpl_nil ?_
    refine ex_then ?_
    refine wpc_ret ?_
    refine ret1 (.inl rfl) rfl rfl ?_
    exact fun w h => ⟨by rw [upF_0 hc7 heq], h.below⟩

end Go.Proofs.Ytoaeklbenmlooaa
