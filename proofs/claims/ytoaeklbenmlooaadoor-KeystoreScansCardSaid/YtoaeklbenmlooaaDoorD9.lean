/- The reference reckons the digest. -/
import Derived.Test.YtoaeklbenmlooaaDoorD8
import Derived.Test.YtoaeklbenmlooaaDoorPLX
namespace Go.Proofs.YtoaeklbenmlooaaDoor
set_option linter.unusedSimpArgs false
set_option linter.unusedVariables false
open Go Go.PL Go.RowKit

def word4 (bs : List UInt8) (i : Nat) : Nat → UInt32
  | 0 => 0
  | j + 1 => word4 bs i j * 256 + of32 (bs.getD (4 * i + j) 0).toNat
theorem or_add (x y k : Nat) (h : y < 2 ^ k) : x * 2 ^ k ||| y = x * 2 ^ k + y := by rw [Nat.mul_comm, ← Nat.two_pow_add_eq_or_of_lt h]
theorem nat_split (a b c d : Nat) (hb : b < 256) (hc : c < 256) (hd : d < 256) : a * 16777216 ||| b * 65536 ||| c * 256 ||| d = ((a * 256 + b) * 256 + c) * 256 + d := by
  have h1 := or_add a (b * 65536) 24 (by omega)
  have h2 := or_add (a * 256 + b) (c * 256) 16 (by omega)
  have h3 := or_add ((a * 256 + b) * 256 + c) d 8 (by omega)
  have e1 : a * 16777216 ||| b * 65536 = (a * 256 + b) * 65536 := by
    have : a * 16777216 ||| b * 65536 = a * 16777216 + b * 65536 := h1
    rw [this]; omega
  have e2 : (a * 256 + b) * 65536 ||| c * 256 = ((a * 256 + b) * 256 + c) * 256 := by
    have : (a * 256 + b) * 65536 ||| c * 256 = (a * 256 + b) * 65536 + c * 256 := h2
    rw [this]; omega
  rw [e1, e2]; exact h3
theorem u32_split (a b c d : UInt8) : (((0 * 256 + of32 a.toNat) * 256 + of32 b.toNat) * 256 + of32 c.toNat) * 256 + of32 d.toNat =
    sl32 (of32 a.toNat) 24 ||| sl32 (of32 b.toNat) 16 ||| sl32 (of32 c.toNat) 8 ||| of32 d.toNat := by
  have e : ∀ x : UInt8, (of32 (x.toNat : Int)).toNat = x.toNat := fun x => by
    have := x.toNat_lt
    have h := of32_toNat (x.toNat : Int)
    omega
  have ha := a.toNat_lt; have hb := b.toNat_lt; have hc := c.toNat_lt; have hd := d.toNat_lt
  have hs : ∀ (x : UInt8) (k : Nat), k ≤ 24 → (sl32 (of32 x.toNat) k).toNat = x.toNat * 2 ^ k := fun x k hk => by
    have hx := x.toNat_lt
    unfold sl32
    rw [e, UInt32.toNat_ofNat']
    have h1 : 2 ^ k ≤ 2 ^ 24 := Nat.pow_le_pow_right (by omega) hk
    have h2 : x.toNat * 2 ^ k ≤ 255 * 2 ^ 24 := Nat.mul_le_mul (by omega) h1
    have hm : min k 32 = k := by omega
    rw [hm]
    exact Nat.mod_eq_of_lt (by omega)
  apply UInt32.toNat_inj.1
  simp only [UInt32.toNat_or, hs _ 24 (by omega), hs _ 16 (by omega), hs _ 8 (by omega), UInt32.toNat_add, UInt32.toNat_mul, e]
  have := nat_split a.toNat b.toNat c.toNat d.toNat (by omega) (by omega) (by omega)
  have e2 : a.toNat * 2 ^ 24 ||| b.toNat * 2 ^ 16 ||| c.toNat * 2 ^ 8 ||| d.toNat = ((a.toNat * 256 + b.toNat) * 256 + c.toNat) * 256 + d.toNat := this
  rw [e2]
  have z : (0 : UInt32).toNat = 0 := rfl
  have z2 : (256 : UInt32).toNat = 256 := rfl
  rw [z, z2]
  omega
theorem word4_eq (bs : List UInt8) (i : Nat) : word4 bs i 4 = wordF bs i := u32_split _ _ _ _
theorem rotR_eq (x : UInt32) (k : Nat) (h1 : 1 ≤ k) (h2 : k ≤ 31) : rotR x k = rotlF x (-(k : Int)) := by
  have e : (of64 (-(k : Int)) &&& 31).toNat = 32 - k := by
    have h := of64_toNat (-(k : Int))
    have h3 : (of64 (-(k : Int))).toNat = 18446744073709551616 - k := by omega
    have h4 : (of64 (-(k : Int)) &&& 31).toNat = (of64 (-(k : Int))).toNat % 32 := by
      rw [UInt64.toNat_and]; exact Nat.and_two_pow_sub_one_eq_mod _ 5
    rw [h4, h3]; omega
  have e2 : (32 - (of64 (-(k : Int)) &&& 31)).toNat = k := by
    rw [UInt64.toNat_sub, e]; simp; omega
  unfold rotR rotlF
  rw [e, e2]
  simp only [Int.toNat_natCast]
  apply UInt32.eq_of_toBitVec_eq
  simp only [UInt32.toBitVec_or]
  rw [BitVec.or_comm]
theorem stF_set0 (bs : List UInt8) (i : Nat) (h : i < 64) : (stF bs i).set i 0 = stF bs i := by
  apply List.ext_getElem?
  intro j
  rw [List.getElem?_set]
  by_cases e : i = j
  · subst e
    rw [if_pos rfl, if_pos (by rw [stF_length _ _ (by omega)]; exact h)]
    simp only [stF]
    rw [List.getElem?_append_right (by rw [wsF_length]; omega), wsF_length, Nat.sub_self, List.getElem?_replicate, if_pos (by omega)]
  · rw [if_neg e]
theorem stF_word (bs : List UInt8) (i j : Nat) (h : i < 64) (b : UInt8) (hb : bs.getD (4 * i + j) 0 = b) : ((stF bs i).set i (word4 bs i j)).set i (((stF bs i).set i (word4 bs i j)).getD i 0 * 256 + of32 b.toNat) = (stF bs i).set i (word4 bs i (j + 1)) := by
  subst hb
  rw [List.set_set]
  have : ((stF bs i).set i (word4 bs i j)).getD i 0 = word4 bs i j := by
    rw [List.getD_eq_getElem?_getD, List.getElem?_set, if_pos rfl, if_pos (by rw [stF_length _ _ (by omega)]; exact h)]; rfl
  rw [this]; rfl
theorem stF_full (bs : List UInt8) : stF bs 64 = wsF bs 64 := by simp [stF]
def chF (all : List UInt8) (k : Nat) : List UInt8 := (all.drop (64 * k)).take 64
theorem chF_get (all : List UInt8) (k i : Nat) (h : i < 64) : (chF all k).getD i 0 = all.getD (64 * k + i) 0 := by
  simp only [chF, List.getD_eq_getElem?_getD]; rw [List.getElem?_take, if_pos h, List.getElem?_drop]
theorem chunks_take (all : List UInt8) (k : Nat) (h : k < all.length / 64) : (chunksF all).take (k + 1) = (chunksF all).take k ++ [chF all k] := by
  have hl : (chunksF all).length = all.length / 64 := by simp [chunksF]
  rw [List.take_add_one, List.getElem?_eq_getElem (by omega)]
  simp [chunksF, chF]
theorem stF2_snoc (l : List (List UInt8)) (x : List UInt8) : stF2 (l ++ [x]) = addF (stF2 l) x := by simp [stF2]
theorem eta8 (l : List UInt32) (h : l.length = 8) : [l.getD 0 0, l.getD 1 0, l.getD 2 0, l.getD 3 0, l.getD 4 0, l.getD 5 0, l.getD 6 0, l.getD 7 0] = l := by
  match l, h with
  | [a, b, c, d, e, f, g, i], _ => rfl
theorem outN_step (st : List UInt32) (i j : Nat) (hj : j < 4) : (outN st (4 * i + j)).set (4 * i + j) (of8 (sr32 (st.getD i 0) (24 - 8 * j)).toNat) = outN st (4 * i + j + 1) := by
  simp only [outN]
  rw [show (4 * i + j) / 4 = i by omega, show (4 * i + j) % 4 = j by omega]
theorem padF_length (bs : List UInt8) : (padF bs).length = 64 * ((bs.length + 72) / 64) := by
  simp [padF, lenB_length, zc]; omega
/-- The digest, as the reference reckons it. -/
def sumF (bs : List UInt8) : List UInt8 := outN (stF2 (chunksF (padF bs))) 32
theorem sumF_length (bs : List UInt8) : (sumF bs).length = 32 := outN_length _ _

set_option maxRecDepth 100000 in
theorem rotateR (x : UInt32) (k : Nat) (w : World)  (h1 : 1 ≤ k) (h2 : k ≤ 31) :
    Calls Tryd.prog 57 [.int .u32 x.toNat, .int .i64 ((k : Nat) : Int)].toArray w (Pur w (.int .u32 (rotlF x (-(k : Int))).toNat)) := by
  refine enter (m := 15) (R := Mem w [] [] []) Tryd.func57 rfl rfl (Nat.le_of_ble_eq_true rfl) (Mem.start w) ?_
  refine wpc_seq ?_
  refine wpc_region ?_
  refine wpl_q (q_pure rfl) rfl ?_
  refine wpl_nil ?_
  refine ex_then ?_
  refine wpc_seq ?_
  refine wpc_region ?_
  refine wpl_q (q_pure rfl) rfl ?_
  refine wpl_q (q_pure rfl) rfl ?_
  refine wpl_q (q64_conv Tryd.underlying3 Tryd.underlying64 rfl) rfl ?_
  refine wpl_q (q32_shrC rfl rfl (by omega)) rfl ?_
  refine wpl_q (q_pure rfl) rfl ?_
  refine wpl_q (q_pure rfl) rfl ?_
  refine wpl_q (q_subN (a := 32) rfl rfl (by omega) (by first | omega | (simp only [maxLen]; omega))) rfl ?_
  refine wpl_q (q64_conv Tryd.underlying3 Tryd.underlying64 rfl) rfl ?_
  refine wpl_q (q32_shlC rfl rfl (by omega)) rfl ?_
  refine wpl_q (q32_or rfl rfl) rfl ?_
  refine wpl_q (q_pure rfl) rfl ?_
  refine wpl_nil ?_
  refine ex_then ?_
  refine wpc_ret ?_
  refine ret1 (.inl rfl) rfl rfl ?_
  exact fun w h => ⟨by rw [← rotR_eq x k h1 h2]; rfl, h.below⟩

set_option maxRecDepth 100000 in
theorem refSum (bv : Value) (bs : List UInt8) (w : World) (hbv : Seen w.cell? bv bs.length 1 (v8s bs)) (hlb : bs.length ≤ 1000000000) :
    Calls Tryd.prog 37 [bv].toArray w (Pur w (.agg (v8s (sumF bs)).toArray)) := by
  have sbv := hbv.sv
  have lbv := sbv.le
  simp only [maxLen] at lbv
  refine enter (m := 245) (R := Mem w [] [] []) Tryd.func37 rfl rfl (Nat.le_of_ble_eq_true rfl) (Mem.start w) ?_
  refine wpc_seq ?_
  refine wpc_region ?_
  refine wpl_t (t_alloc Tryd.ti24 (v8s (List.replicate 32 0)) (by rfl)) rfl (fun b2 => ?_)
  refine wpl_nil ?_
  refine ex_then ?_
  refine wpc_seq ?_
  refine wpc_region ?_
  refine wpl_t (t_pur Tryd.hb55 rfl fun w h => table w) rfl (fun b31 => ?_)
  refine wpl_t (t_alloc Tryd.ti119 (v32s (List.replicate 64 0)) (by rfl)) rfl (fun b3 => ?_)
  refine wpl_t0 (t_stA Tryd.ti119 rfl rfl ((v32s_length _).trans rfl) (v32s_one _) ((v32s_length _).trans rfl)) (fun _ => ?_)
  refine wpl_nil ?_
  refine ex_then ?_
  refine wpc_seq ?_
  refine wpc_region ?_
  refine wpl_q (q_buildFull (v32s initS) Tryd.underlying112 Tryd.ti112 Tryd.ti25 rfl rfl (v32s_one _) rfl) rfl ?_
  refine wpl_t (t_alloc Tryd.ti112 (v32s (List.replicate 8 0)) (by rfl)) rfl (fun b4 => ?_)
  refine wpl_t0 (t_stA Tryd.ti112 rfl rfl ((v32s_length _).trans rfl) (v32s_one _) ((v32s_length _).trans rfl)) (fun _ => ?_)
  refine wpl_nil ?_
  refine ex_then ?_
  refine wpc_seq ?_
  refine wpc_region ?_
  refine wpl_q (q_pure rfl) rfl ?_
  refine wpl_tp (t_call1 Tryd.hb56 rfl fun w h => padded _ bs w (by first | exact h.seen_old hbv) (by omega)) rfl (fun b34 p34 => ?_)
  refine wpl_q (q_pure rfl) rfl ?_
  refine wpl_nil ?_
  refine ex_then ?_
  refine wpc_seq ?_
  refine wpc_seq ?_
  refine wpc_region ?_
  refine wpl_q (q_pure rfl) rfl ?_
  refine wpl_nil ?_
  refine ex_then ?_
  refine wpc_block ?_
  refine wpc_loopc (ι := { x : Nat // (x ≤ (padF bs).length / 64) }) [(2, _), (3, _), (4, _), (5, _)] (fun x Lc => (6, .int .i64 ((64 * x.1 : Nat) : Int)) :: Lc) (fun x => Mem w [] [.row b34 (padF bs).length 5 1 (v8s (padF bs)), .blk b4 112 (v32s (stF2 ((chunksF (padF bs)).take x.1))), .blk b3 119 (v32s rootsL), .blk b2 24 (v8s (List.replicate 32 0))] []) (fun x => (padF bs).length / 64 - x.1) ⟨0, Nat.zero_le _⟩ (by repeat (first | exact trivial | refine ⟨rfl, ?_⟩)) ?_ ?_
  · exact fun w h => h
  · rintro ⟨k, hi0⟩; dsimp only
    have hi0 : k ≤ (padF bs).length / 64 := hi0
    have hpl := padF_length bs
    have hs8 := stF2_length ((chunksF (padF bs)).take k)
    have hr64 := rootsL_length
    refine wpc_seq ?_
    refine wpc_seq ?_
    refine wpc_region ?_
    refine wpl_q (q_pure rfl) rfl ?_
    refine wpl_q (q_pure rfl) rfl ?_
    refine wpl_q (q_lenW Tryd.underlying22 rfl (by first | assumption | exact SV.nil | exact SV.slv (by assumption) (by omega) (by omega))) rfl ?_
    refine wpl_q (q_pure rfl) rfl ?_
    refine wpl_nil ?_
    refine ex_then ?_
    refine wpc_cond rfl (fun hc38 => ?_) (fun hc38 => ?_)
    ·
      simp only [decide_eq_true_eq] at hc38
      have hk : k < (padF bs).length / 64 := by omega
      refine wpc_skip ?_
      refine ex_then ?_
      refine wpc_seq ?_
      refine wpc_block ?_
      refine wpc_seq ?_
      refine wpc_region ?_
      refine wpl_t (t_alloc Tryd.ti119 (v32s (List.replicate 64 0)) (by rfl)) rfl (fun b7 => ?_)
      refine wpl_nil ?_
      refine ex_then ?_
      refine wpc_seq ?_
      refine wpc_seq ?_
      refine wpc_region ?_
      refine wpl_q (q_pure rfl) rfl ?_
      refine wpl_nil ?_
      refine ex_then ?_
      refine wpc_block ?_
      refine wpc_loopc (ι := { x : Nat // (x ≤ 16) }) [(2, _), (3, _), (4, _), (5, _), (6, _), (7, _)] (fun x Lc => (8, .int .i64 ((x.1 : Nat) : Int)) :: Lc) (fun x => Mem w [] [.blk b7 119 (v32s (stF (chF (padF bs) k) x.1)), .row b34 (padF bs).length 5 1 (v8s (padF bs)), .blk b4 112 (v32s (stF2 ((chunksF (padF bs)).take k))), .blk b3 119 (v32s rootsL), .blk b2 24 (v8s (List.replicate 32 0))] []) (fun x => 16 - x.1) ⟨0, by first | omega | assumption | decide | exact SV.nil | (simp; done) | (dsimp only; omega)⟩ (by repeat (first | exact trivial | refine ⟨rfl, ?_⟩)) ?_ ?_
      · exact fun w h => h
      · rintro ⟨i, hi0⟩; dsimp only
        have hi0 : i ≤ 16 := hi0
        have hsl := stF_length (chF (padF bs) k) i (by omega)
        refine wpc_seq ?_
        refine wpc_seq ?_
        refine wpc_region ?_
        refine wpl_q (q_pure rfl) rfl ?_
        refine wpl_q (q_pure rfl) rfl ?_
        refine wpl_nil ?_
        refine ex_then ?_
        refine wpc_cond rfl (fun hc42 => ?_) (fun hc42 => ?_)
        ·
          try simp only [decide_eq_true_eq, decide_eq_false_iff_not, Bool.and_eq_true, Bool.or_eq_true, beq_iff_eq, bne_iff_ne, ne_eq, Bool.not_eq_true', Bool.not_eq_false', Decidable.not_not] at hc42
          refine wpc_skip ?_
          refine ex_then ?_
          refine wpc_seq ?_
          refine wpc_block ?_
          refine wpc_seq ?_
          refine wpc_region ?_
          refine wpl_q (q_pure rfl) rfl ?_
          refine wpl_nil ?_
          refine ex_then ?_
          refine wpc_block ?_
          refine wpc_loopc (ι := { x : Nat // (x ≤ 4) }) [(2, _), (3, _), (4, _), (5, _), (6, _), (7, _), (8, _)] (fun x Lc => (9, .int .i64 ((x.1 : Nat) : Int)) :: Lc) (fun x => Mem w [] [.blk b7 119 (v32s ((stF (chF (padF bs) k) i).set i (word4 (chF (padF bs) k) i x.1))), .row b34 (padF bs).length 5 1 (v8s (padF bs)), .blk b4 112 (v32s (stF2 ((chunksF (padF bs)).take k))), .blk b3 119 (v32s rootsL), .blk b2 24 (v8s (List.replicate 32 0))] []) (fun x => 4 - x.1) ⟨0, by first | omega | assumption | decide | exact SV.nil | (simp; done) | (dsimp only; omega)⟩ (by repeat (first | exact trivial | refine ⟨rfl, ?_⟩)) ?_ ?_
          · exact fun w h => by rw [show word4 (chF (padF bs) k) i 0 = 0 from rfl, stF_set0 _ _ (by omega)]; exact h
          · rintro ⟨j, hi0⟩; dsimp only
            have hi0 : j ≤ 4 := hi0
            have hsl2 : ((stF (chF (padF bs) k) i).set i (word4 (chF (padF bs) k) i j)).length = 64 := by rw [List.length_set]; exact hsl
            refine wpc_seq ?_
            refine wpc_seq ?_
            refine wpc_region ?_
            refine wpl_q (q_pure rfl) rfl ?_
            refine wpl_q (q_pure rfl) rfl ?_
            refine wpl_nil ?_
            refine ex_then ?_
            refine wpc_cond rfl (fun hc46 => ?_) (fun hc46 => ?_)
            ·
              try simp only [decide_eq_true_eq, decide_eq_false_iff_not, Bool.and_eq_true, Bool.or_eq_true, beq_iff_eq, bne_iff_ne, ne_eq, Bool.not_eq_true', Bool.not_eq_false', Decidable.not_not] at hc46
              refine wpc_skip ?_
              refine ex_then ?_
              refine wpc_seq ?_
              refine wpc_block ?_
              refine wpc_draw 17 (by kernel_rfl) (fun _ h => h.drew) ?_
              refine wpd_p 0 rfl (by kernel_rfl) trivial (q_pure rfl) rfl sk0 ?_
              refine wpd_p 1 rfl (by kernel_rfl) trivial (q_pure rfl) rfl sk0 ?_
              refine wpd_p 2 rfl (by kernel_rfl) trivial (q_idxA1 Tryd.underlying119 Tryd.ti25 rfl rfl (by omega)) rfl sk0 ?_
              refine wpd_q 3 rfl (by kernel_rfl) trivial (q_ld Tryd.underlying25 rfl rfl (by first | exact v32s_get (by first | decide | omega | (simp; omega) | (simp only [v8s_length, v32s_length, vis_length, v64s_length]; omega)) | rfl)) rfl (fun _ h => h) ?_
              refine wpd_p 4 rfl (by kernel_rfl) trivial (q32_mul (b := (256 : UInt32)) rfl rfl) rfl sk0 ?_
              refine wpd_p 5 rfl (by kernel_rfl) trivial (q_pure rfl) rfl sk0 ?_
              refine wpd_p 6 rfl (by kernel_rfl) trivial (q_pure rfl) rfl sk0 ?_
              refine wpd_p 7 rfl (by kernel_rfl) trivial (q_pure rfl) rfl sk0 ?_
              refine wpd_p 8 rfl (by kernel_rfl) trivial (q_mulN (a := 4) rfl rfl (by first | omega | (simp only [maxLen]; omega))) rfl sk0 ?_
              refine wpd_p 9 rfl (by kernel_rfl) trivial (q_addN rfl rfl (by first | omega | (simp only [maxLen]; omega))) rfl sk0 ?_
              refine wpd_p 10 rfl (by kernel_rfl) trivial (q_pure rfl) rfl sk0 ?_
              refine wpd_p 11 rfl (by kernel_rfl) trivial (q_addN rfl rfl (by first | omega | (simp only [maxLen]; omega))) rfl sk0 ?_
              refine wpd_p 12 rfl (by kernel_rfl) trivial (q_idxW1 Tryd.underlying22 Tryd.ti5 rfl rfl (by first | assumption | exact SV.nil | exact SV.slv (by assumption) (by omega) (by omega)) (by first | omega | (simp only [maxLen]; omega))) rfl sk0 ?_
              refine wpd_q 13 rfl (by kernel_rfl) trivial (q_ldW Tryd.underlying5 rfl rfl (fun w h => by first | exact h.seenV | exact h.seen_old (by assumption) | exact h.seen_oldL (by assumption) (by assumption) | exact h.seen_fact (by repeat (first | exact List.mem_cons_self .. | apply List.mem_cons_of_mem))) (by first | exact v8s_get (by first | decide | omega | (simp; omega) | (simp only [v8s_length, v32s_length, vis_length, v64s_length]; omega)) | rfl)) rfl (fun _ h => h) ?_
              refine wpd_p 14 rfl (by kernel_rfl) trivial (q32_conv Tryd.underlying5 Tryd.underlying25 rfl) rfl sk0 ?_
              refine wpd_p 15 rfl (by kernel_rfl) trivial (q32_add rfl rfl) rfl sk0 ?_
              refine wpd_p 16 rfl (by kernel_rfl) trivial (q_idxA1 Tryd.underlying119 Tryd.ti25 rfl rfl (by omega)) rfl sk0 ?_
              refine wpd_t0 17 rfl (by kernel_rfl) trivial (t_st1 Tryd.ti25 rfl rfl rfl (by first | decide | omega | (simp; omega) | (simp only [v8s_length, v32s_length, vis_length, v64s_length]; omega)) _ (by first | exact v32s_set _ | rfl)) (fun _ => skk rfl) (fun _ => ?_)
              refine wpd_done (by kernel_rfl) ?_
              refine ex_block ?_
              refine ex_then ?_
              refine wpc_region ?_
              refine wpl_q (q_pure rfl) rfl ?_
              refine wpl_q (q_addN (b := 1) rfl rfl (by first | omega | (simp only [maxLen]; omega))) rfl ?_
              refine wpl_q (q_pure rfl) rfl ?_
              refine wpl_nil ?_
              refine ex_again ⟨j + 1, by first | omega | assumption | decide | exact SV.nil | (simp; done) | (dsimp only; omega)⟩ ?_ ?_ ?_
              · exact (by repeat (first | exact trivial | refine ⟨rfl, ?_⟩))
              · exact fun w h => by
                  have e := stF_word (chF (padF bs) k) i j (by omega) ((padF bs).getD (64 * k + 4 * i + j) 0) (by rw [chF_get _ _ _ (by omega), Nat.add_assoc])
                  rw [e] at h; exact h
              · (show 4 - (j + 1) < 4 - j); omega
            ·
              simp only [decide_eq_false_iff_not] at hc46
              obtain rfl : j = 4 := by omega
              refine wpc_exit ?_
              refine ex_then_exit ?_
              refine ex_then_exit ?_
              refine ex_block_hit ?_
              refine ex_block ?_
              refine ex_then ?_
              refine wpc_region ?_
              refine wpl_q (q_pure rfl) rfl ?_
              refine wpl_q (q_addN (b := 1) rfl rfl (by first | omega | (simp only [maxLen]; omega))) rfl ?_
              refine wpl_q (q_pure rfl) rfl ?_
              refine wpl_nil ?_
              refine ex_again ⟨i + 1, by first | omega | assumption | decide | exact SV.nil | (simp; done) | (dsimp only; omega)⟩ ?_ ?_ ?_
              · exact (by repeat (first | exact trivial | refine ⟨rfl, ?_⟩))
              · exact fun w h => by
                  have e : (stF (chF (padF bs) k) i).set i (word4 (chF (padF bs) k) i 4) = stF (chF (padF bs) k) (i + 1) := stF_set _ _ (by omega) _ (by rw [if_pos (by omega), word4_eq])
                  rw [e] at h; exact h
              · (show 16 - (i + 1) < 16 - i); omega
        ·
          simp only [decide_eq_false_iff_not] at hc42
          obtain rfl : i = 16 := by omega
          refine wpc_exit ?_
          refine ex_then_exit ?_
          refine ex_then_exit ?_
          refine ex_block_hit ?_
          refine ex_then ?_
          refine wpc_seq ?_
          refine wpc_seq ?_
          refine wpc_region ?_
          refine wpl_q (q_pure rfl) rfl ?_
          refine wpl_nil ?_
          refine ex_then ?_
          refine wpc_block ?_
          refine wpc_loopc (ι := { x : Nat // (x ≤ 64) ∧ (16 ≤ x) }) [(2, _), (3, _), (4, _), (5, _), (6, _), (7, _)] (fun x Lc => (10, .int .i64 ((x.1 : Nat) : Int)) :: Lc) (fun x => Mem w [] [.blk b7 119 (v32s (stF (chF (padF bs) k) x.1)), .row b34 (padF bs).length 5 1 (v8s (padF bs)), .blk b4 112 (v32s (stF2 ((chunksF (padF bs)).take k))), .blk b3 119 (v32s rootsL), .blk b2 24 (v8s (List.replicate 32 0))] []) (fun x => 64 - x.1) ⟨16, (by first | exact ⟨by first | omega | assumption | decide | exact SV.nil | (simp; done) | (simp only []; omega) | (dsimp only; omega), by first | omega | assumption | decide | exact SV.nil | (simp; done) | (simp only []; omega) | (dsimp only; omega)⟩)⟩ (by repeat (first | exact trivial | refine ⟨rfl, ?_⟩)) ?_ ?_
          · exact fun w h => h
          · rintro ⟨i, ⟨hi0, hi1⟩⟩; dsimp only
            have hi0 : i ≤ 64 := hi0; have hi1 : 16 ≤ i := hi1
            have hsl := stF_length (chF (padF bs) k) i (by omega)
            refine wpc_seq ?_
            refine wpc_seq ?_
            refine wpc_region ?_
            refine wpl_q (q_pure rfl) rfl ?_
            refine wpl_q (q_pure rfl) rfl ?_
            refine wpl_nil ?_
            refine ex_then ?_
            refine wpc_cond rfl (fun hc67 => ?_) (fun hc67 => ?_)
            ·
              try simp only [decide_eq_true_eq, decide_eq_false_iff_not, Bool.and_eq_true, Bool.or_eq_true, beq_iff_eq, bne_iff_ne, ne_eq, Bool.not_eq_true', Bool.not_eq_false', Decidable.not_not] at hc67
              refine wpc_skip ?_
              refine ex_then ?_
              refine wpc_seq ?_
              refine wpc_block ?_
              refine wpc_seq ?_
              refine wpc_draw 18 (by kernel_rfl) (fun _ h => h.drew) ?_
              refine wpd_p 0 rfl (by kernel_rfl) trivial (q_pure rfl) rfl sk0 ?_
              refine wpd_p 1 rfl (by kernel_rfl) trivial (q_subN (b := 15) rfl rfl (by omega) (by first | omega | (simp only [maxLen]; omega))) rfl sk0 ?_
              refine wpd_p 2 rfl (by kernel_rfl) trivial (q_idxA1 Tryd.underlying119 Tryd.ti25 rfl rfl (by omega)) rfl sk0 ?_
              refine wpd_q 3 rfl (by kernel_rfl) trivial (q_ld Tryd.underlying25 rfl rfl (by first | exact v32s_get (by first | decide | omega | (simp; omega) | (simp only [v8s_length, v32s_length, vis_length, v64s_length]; omega)) | rfl)) rfl (fun _ h => h) ?_
              refine wpd_p 5 rfl (by kernel_rfl) trivial (q_pure rfl) rfl sk0 ?_
              refine wpd_p 6 rfl (by kernel_rfl) trivial (q_subN (b := 15) rfl rfl (by omega) (by first | omega | (simp only [maxLen]; omega))) rfl sk0 ?_
              refine wpd_p 7 rfl (by kernel_rfl) trivial (q_idxA1 Tryd.underlying119 Tryd.ti25 rfl rfl (by omega)) rfl sk0 ?_
              refine wpd_q 8 rfl (by kernel_rfl) trivial (q_ld Tryd.underlying25 rfl rfl (by first | exact v32s_get (by first | decide | omega | (simp; omega) | (simp only [v8s_length, v32s_length, vis_length, v64s_length]; omega)) | rfl)) rfl (fun _ h => h) ?_
              refine wpd_p 11 rfl (by kernel_rfl) trivial (q_pure rfl) rfl sk0 ?_
              refine wpd_p 12 rfl (by kernel_rfl) trivial (q_subN (b := 15) rfl rfl (by omega) (by first | omega | (simp only [maxLen]; omega))) rfl sk0 ?_
              refine wpd_p 13 rfl (by kernel_rfl) trivial (q_idxA1 Tryd.underlying119 Tryd.ti25 rfl rfl (by omega)) rfl sk0 ?_
              refine wpd_q 14 rfl (by kernel_rfl) trivial (q_ld Tryd.underlying25 rfl rfl (by first | exact v32s_get (by first | decide | omega | (simp; omega) | (simp only [v8s_length, v32s_length, vis_length, v64s_length]; omega)) | rfl)) rfl (fun _ h => h) ?_
              refine wpd_p 15 rfl (by kernel_rfl) trivial (q32_shr rfl rfl (by first | decide | omega) 3 rfl) rfl sk0 ?_
              refine wpd_t 4 rfl (by kernel_rfl) trivial (t_pur Tryd.hb57 rfl fun w h => rotateR _ _ w (by decide) (by decide)) rfl (fun _ => sk0) (fun b74 => ?_)
              refine wpd_t 9 rfl (by kernel_rfl) trivial (t_pur Tryd.hb57 rfl fun w h => rotateR _ _ w (by decide) (by decide)) rfl (fun _ => sk0) (fun b79 => ?_)
              refine wpd_p 10 rfl (by kernel_rfl) trivial (q32_xor rfl rfl) rfl sk0 ?_
              refine wpd_p 16 rfl (by kernel_rfl) trivial (q32_xor rfl rfl) rfl sk0 ?_
              refine wpd_p 17 rfl (by kernel_rfl) trivial (q_pure rfl) rfl sk0 ?_
              refine wpd_done (by kernel_rfl) ?_
              refine ex_then ?_
              refine wpc_seq ?_
              refine wpc_draw 18 (by kernel_rfl) (fun _ h => h.drew) ?_
              refine wpd_p 0 rfl (by kernel_rfl) trivial (q_pure rfl) rfl sk0 ?_
              refine wpd_p 1 rfl (by kernel_rfl) trivial (q_subN (b := 2) rfl rfl (by omega) (by first | omega | (simp only [maxLen]; omega))) rfl sk0 ?_
              refine wpd_p 2 rfl (by kernel_rfl) trivial (q_idxA1 Tryd.underlying119 Tryd.ti25 rfl rfl (by omega)) rfl sk0 ?_
              refine wpd_q 3 rfl (by kernel_rfl) trivial (q_ld Tryd.underlying25 rfl rfl (by first | exact v32s_get (by first | decide | omega | (simp; omega) | (simp only [v8s_length, v32s_length, vis_length, v64s_length]; omega)) | rfl)) rfl (fun _ h => h) ?_
              refine wpd_p 5 rfl (by kernel_rfl) trivial (q_pure rfl) rfl sk0 ?_
              refine wpd_p 6 rfl (by kernel_rfl) trivial (q_subN (b := 2) rfl rfl (by omega) (by first | omega | (simp only [maxLen]; omega))) rfl sk0 ?_
              refine wpd_p 7 rfl (by kernel_rfl) trivial (q_idxA1 Tryd.underlying119 Tryd.ti25 rfl rfl (by omega)) rfl sk0 ?_
              refine wpd_q 8 rfl (by kernel_rfl) trivial (q_ld Tryd.underlying25 rfl rfl (by first | exact v32s_get (by first | decide | omega | (simp; omega) | (simp only [v8s_length, v32s_length, vis_length, v64s_length]; omega)) | rfl)) rfl (fun _ h => h) ?_
              refine wpd_p 11 rfl (by kernel_rfl) trivial (q_pure rfl) rfl sk0 ?_
              refine wpd_p 12 rfl (by kernel_rfl) trivial (q_subN (b := 2) rfl rfl (by omega) (by first | omega | (simp only [maxLen]; omega))) rfl sk0 ?_
              refine wpd_p 13 rfl (by kernel_rfl) trivial (q_idxA1 Tryd.underlying119 Tryd.ti25 rfl rfl (by omega)) rfl sk0 ?_
              refine wpd_q 14 rfl (by kernel_rfl) trivial (q_ld Tryd.underlying25 rfl rfl (by first | exact v32s_get (by first | decide | omega | (simp; omega) | (simp only [v8s_length, v32s_length, vis_length, v64s_length]; omega)) | rfl)) rfl (fun _ h => h) ?_
              refine wpd_p 15 rfl (by kernel_rfl) trivial (q32_shr rfl rfl (by first | decide | omega) 10 rfl) rfl sk0 ?_
              refine wpd_t 4 rfl (by kernel_rfl) trivial (t_pur Tryd.hb57 rfl fun w h => rotateR _ _ w (by decide) (by decide)) rfl (fun _ => sk0) (fun b91 => ?_)
              refine wpd_t 9 rfl (by kernel_rfl) trivial (t_pur Tryd.hb57 rfl fun w h => rotateR _ _ w (by decide) (by decide)) rfl (fun _ => sk0) (fun b96 => ?_)
              refine wpd_p 10 rfl (by kernel_rfl) trivial (q32_xor rfl rfl) rfl sk0 ?_
              refine wpd_p 16 rfl (by kernel_rfl) trivial (q32_xor rfl rfl) rfl sk0 ?_
              refine wpd_p 17 rfl (by kernel_rfl) trivial (q_pure rfl) rfl sk0 ?_
              refine wpd_done (by kernel_rfl) ?_
              refine ex_then ?_
              refine wpc_draw 15 (by kernel_rfl) (fun _ h => h.drew) ?_
              refine wpd_p 0 rfl (by kernel_rfl) trivial (q_pure rfl) rfl sk0 ?_
              refine wpd_p 1 rfl (by kernel_rfl) trivial (q_pure rfl) rfl sk0 ?_
              refine wpd_p 2 rfl (by kernel_rfl) trivial (q_pure rfl) rfl sk0 ?_
              refine wpd_p 3 rfl (by kernel_rfl) trivial (q_subN (b := 7) rfl rfl (by omega) (by first | omega | (simp only [maxLen]; omega))) rfl sk0 ?_
              refine wpd_p 4 rfl (by kernel_rfl) trivial (q_idxA1 Tryd.underlying119 Tryd.ti25 rfl rfl (by omega)) rfl sk0 ?_
              refine wpd_q 5 rfl (by kernel_rfl) trivial (q_ld Tryd.underlying25 rfl rfl (by first | exact v32s_get (by first | decide | omega | (simp; omega) | (simp only [v8s_length, v32s_length, vis_length, v64s_length]; omega)) | rfl)) rfl (fun _ h => h) ?_
              refine wpd_p 6 rfl (by kernel_rfl) trivial (q32_add rfl rfl) rfl sk0 ?_
              refine wpd_p 7 rfl (by kernel_rfl) trivial (q_pure rfl) rfl sk0 ?_
              refine wpd_p 8 rfl (by kernel_rfl) trivial (q32_add rfl rfl) rfl sk0 ?_
              refine wpd_p 9 rfl (by kernel_rfl) trivial (q_pure rfl) rfl sk0 ?_
              refine wpd_p 10 rfl (by kernel_rfl) trivial (q_subN (b := 16) rfl rfl (by omega) (by first | omega | (simp only [maxLen]; omega))) rfl sk0 ?_
              refine wpd_p 11 rfl (by kernel_rfl) trivial (q_idxA1 Tryd.underlying119 Tryd.ti25 rfl rfl (by omega)) rfl sk0 ?_
              refine wpd_q 12 rfl (by kernel_rfl) trivial (q_ld Tryd.underlying25 rfl rfl (by first | exact v32s_get (by first | decide | omega | (simp; omega) | (simp only [v8s_length, v32s_length, vis_length, v64s_length]; omega)) | rfl)) rfl (fun _ h => h) ?_
              refine wpd_p 13 rfl (by kernel_rfl) trivial (q32_add rfl rfl) rfl sk0 ?_
              refine wpd_p 14 rfl (by kernel_rfl) trivial (q_idxA1 Tryd.underlying119 Tryd.ti25 rfl rfl (by omega)) rfl sk0 ?_
              refine wpd_t0 15 rfl (by kernel_rfl) trivial (t_st1 Tryd.ti25 rfl rfl rfl (by first | decide | omega | (simp; omega) | (simp only [v8s_length, v32s_length, vis_length, v64s_length]; omega)) _ (by first | exact v32s_set _ | rfl)) (fun _ => skk rfl) (fun _ => ?_)
              refine wpd_done (by kernel_rfl) ?_
              refine ex_block ?_
              refine ex_then ?_
              refine wpc_region ?_
              refine wpl_q (q_pure rfl) rfl ?_
              refine wpl_q (q_addN (b := 1) rfl rfl (by first | omega | (simp only [maxLen]; omega))) rfl ?_
              refine wpl_q (q_pure rfl) rfl ?_
              refine wpl_nil ?_
              refine ex_again ⟨i + 1, (by first | exact ⟨by first | omega | assumption | decide | exact SV.nil | (simp; done) | (simp only []; omega) | (dsimp only; omega), by first | omega | assumption | decide | exact SV.nil | (simp; done) | (simp only []; omega) | (dsimp only; omega)⟩)⟩ ?_ ?_ ?_
              · exact (by repeat (first | exact trivial | refine ⟨rfl, ?_⟩))
              · exact fun w h => by
                  have e := stF_set (chF (padF bs) k) i (by omega) _ ((mix_st (chF (padF bs) k) i (by omega)).trans (by rw [if_neg (by omega)]))
                  rw [← e]; exact h
              · (show 64 - (i + 1) < 64 - i); omega
            ·
              simp only [decide_eq_false_iff_not] at hc67
              obtain rfl : i = 64 := by omega
              refine wpc_exit ?_
              refine ex_then_exit ?_
              refine ex_then_exit ?_
              refine ex_block_hit ?_
              refine ex_then ?_
              refine wpc_seq ?_
              refine wpc_draw 24 (by kernel_rfl) (fun _ h => h.drew) ?_
              refine wpd_p 0 rfl (by kernel_rfl) trivial (q_idxA1 (j := 0) Tryd.underlying112 Tryd.ti25 rfl rfl (by omega)) rfl sk0 ?_
              refine wpd_q 1 rfl (by kernel_rfl) trivial (q_ld Tryd.underlying25 rfl rfl (by first | exact v32s_get (by first | decide | omega | (simp; omega) | (simp only [v8s_length, v32s_length, vis_length, v64s_length]; omega)) | rfl)) rfl (fun _ h => h) ?_
              refine wpd_p 2 rfl (by kernel_rfl) trivial (q_idxA1 (j := 1) Tryd.underlying112 Tryd.ti25 rfl rfl (by omega)) rfl sk0 ?_
              refine wpd_q 3 rfl (by kernel_rfl) trivial (q_ld Tryd.underlying25 rfl rfl (by first | exact v32s_get (by first | decide | omega | (simp; omega) | (simp only [v8s_length, v32s_length, vis_length, v64s_length]; omega)) | rfl)) rfl (fun _ h => h) ?_
              refine wpd_p 4 rfl (by kernel_rfl) trivial (q_idxA1 (j := 2) Tryd.underlying112 Tryd.ti25 rfl rfl (by omega)) rfl sk0 ?_
              refine wpd_q 5 rfl (by kernel_rfl) trivial (q_ld Tryd.underlying25 rfl rfl (by first | exact v32s_get (by first | decide | omega | (simp; omega) | (simp only [v8s_length, v32s_length, vis_length, v64s_length]; omega)) | rfl)) rfl (fun _ h => h) ?_
              refine wpd_p 6 rfl (by kernel_rfl) trivial (q_idxA1 (j := 3) Tryd.underlying112 Tryd.ti25 rfl rfl (by omega)) rfl sk0 ?_
              refine wpd_q 7 rfl (by kernel_rfl) trivial (q_ld Tryd.underlying25 rfl rfl (by first | exact v32s_get (by first | decide | omega | (simp; omega) | (simp only [v8s_length, v32s_length, vis_length, v64s_length]; omega)) | rfl)) rfl (fun _ h => h) ?_
              refine wpd_p 8 rfl (by kernel_rfl) trivial (q_idxA1 (j := 4) Tryd.underlying112 Tryd.ti25 rfl rfl (by omega)) rfl sk0 ?_
              refine wpd_q 9 rfl (by kernel_rfl) trivial (q_ld Tryd.underlying25 rfl rfl (by first | exact v32s_get (by first | decide | omega | (simp; omega) | (simp only [v8s_length, v32s_length, vis_length, v64s_length]; omega)) | rfl)) rfl (fun _ h => h) ?_
              refine wpd_p 10 rfl (by kernel_rfl) trivial (q_idxA1 (j := 5) Tryd.underlying112 Tryd.ti25 rfl rfl (by omega)) rfl sk0 ?_
              refine wpd_q 11 rfl (by kernel_rfl) trivial (q_ld Tryd.underlying25 rfl rfl (by first | exact v32s_get (by first | decide | omega | (simp; omega) | (simp only [v8s_length, v32s_length, vis_length, v64s_length]; omega)) | rfl)) rfl (fun _ h => h) ?_
              refine wpd_p 12 rfl (by kernel_rfl) trivial (q_idxA1 (j := 6) Tryd.underlying112 Tryd.ti25 rfl rfl (by omega)) rfl sk0 ?_
              refine wpd_q 13 rfl (by kernel_rfl) trivial (q_ld Tryd.underlying25 rfl rfl (by first | exact v32s_get (by first | decide | omega | (simp; omega) | (simp only [v8s_length, v32s_length, vis_length, v64s_length]; omega)) | rfl)) rfl (fun _ h => h) ?_
              refine wpd_p 14 rfl (by kernel_rfl) trivial (q_idxA1 (j := 7) Tryd.underlying112 Tryd.ti25 rfl rfl (by omega)) rfl sk0 ?_
              refine wpd_q 15 rfl (by kernel_rfl) trivial (q_ld Tryd.underlying25 rfl rfl (by first | exact v32s_get (by first | decide | omega | (simp; omega) | (simp only [v8s_length, v32s_length, vis_length, v64s_length]; omega)) | rfl)) rfl (fun _ h => h) ?_
              refine wpd_p 16 rfl (by kernel_rfl) trivial (q_pure rfl) rfl sk0 ?_
              refine wpd_p 17 rfl (by kernel_rfl) trivial (q_pure rfl) rfl sk0 ?_
              refine wpd_p 18 rfl (by kernel_rfl) trivial (q_pure rfl) rfl sk0 ?_
              refine wpd_p 19 rfl (by kernel_rfl) trivial (q_pure rfl) rfl sk0 ?_
              refine wpd_p 20 rfl (by kernel_rfl) trivial (q_pure rfl) rfl sk0 ?_
              refine wpd_p 21 rfl (by kernel_rfl) trivial (q_pure rfl) rfl sk0 ?_
              refine wpd_p 22 rfl (by kernel_rfl) trivial (q_pure rfl) rfl sk0 ?_
              refine wpd_p 23 rfl (by kernel_rfl) trivial (q_pure rfl) rfl sk0 ?_
              refine wpd_done (by kernel_rfl) ?_
              refine ex_then ?_
              refine wpc_seq ?_
              refine wpc_seq ?_
              refine wpc_region ?_
              refine wpl_q (q_pure rfl) rfl ?_
              refine wpl_nil ?_
              refine ex_then ?_
              refine wpc_block ?_
              refine wpc_loopc (ι := { x : Nat // (x ≤ 64) }) [(2, _), (3, _), (4, _), (5, _), (6, _), (7, _)] (fun x Lc => (21, .int .i64 ((x.1 : Nat) : Int)) :: (13, .int .u32 (((roundsF (wsF (chF (padF bs) k) 64) (stF2 ((chunksF (padF bs)).take k)) x.1).getD 0 0).toNat : Int)) :: (14, .int .u32 (((roundsF (wsF (chF (padF bs) k) 64) (stF2 ((chunksF (padF bs)).take k)) x.1).getD 1 0).toNat : Int)) :: (15, .int .u32 (((roundsF (wsF (chF (padF bs) k) 64) (stF2 ((chunksF (padF bs)).take k)) x.1).getD 2 0).toNat : Int)) :: (16, .int .u32 (((roundsF (wsF (chF (padF bs) k) 64) (stF2 ((chunksF (padF bs)).take k)) x.1).getD 3 0).toNat : Int)) :: (17, .int .u32 (((roundsF (wsF (chF (padF bs) k) 64) (stF2 ((chunksF (padF bs)).take k)) x.1).getD 4 0).toNat : Int)) :: (18, .int .u32 (((roundsF (wsF (chF (padF bs) k) 64) (stF2 ((chunksF (padF bs)).take k)) x.1).getD 5 0).toNat : Int)) :: (19, .int .u32 (((roundsF (wsF (chF (padF bs) k) 64) (stF2 ((chunksF (padF bs)).take k)) x.1).getD 6 0).toNat : Int)) :: (20, .int .u32 (((roundsF (wsF (chF (padF bs) k) 64) (stF2 ((chunksF (padF bs)).take k)) x.1).getD 7 0).toNat : Int)) :: Lc) (fun x => Mem w [] [.blk b7 119 (v32s (wsF (chF (padF bs) k) 64)), .row b34 (padF bs).length 5 1 (v8s (padF bs)), .blk b4 112 (v32s (stF2 ((chunksF (padF bs)).take k))), .blk b3 119 (v32s rootsL), .blk b2 24 (v8s (List.replicate 32 0))] []) (fun x => 64 - x.1) ⟨0, by first | omega | assumption | decide | exact SV.nil | (simp; done) | (dsimp only; omega)⟩ (by repeat (first | exact trivial | refine ⟨rfl, ?_⟩)) ?_ ?_
              · exact fun w h => by rw [← stF_full]; exact h
              · rintro ⟨i, hi0⟩; dsimp only
                have hi0 : i ≤ 64 := hi0
                have hwl := wsF_length (chF (padF bs) k) 64
                refine wpc_seq ?_
                refine wpc_seq ?_
                refine wpc_region ?_
                refine wpl_q (q_pure rfl) rfl ?_
                refine wpl_q (q_pure rfl) rfl ?_
                refine wpl_nil ?_
                refine ex_then ?_
                refine wpc_cond rfl (fun hc136 => ?_) (fun hc136 => ?_)
                ·
                  try simp only [decide_eq_true_eq, decide_eq_false_iff_not, Bool.and_eq_true, Bool.or_eq_true, beq_iff_eq, bne_iff_ne, ne_eq, Bool.not_eq_true', Bool.not_eq_false', Decidable.not_not] at hc136
                  refine wpc_skip ?_
                  refine ex_then ?_
                  refine wpc_seq ?_
                  refine wpc_block ?_
                  refine wpc_seq ?_
                  refine wpc_region ?_
                  refine wpl_q (q_pure rfl) rfl ?_
                  refine wpl_t (t_pur Tryd.hb57 rfl fun w h => rotateR _ _ w (by decide) (by decide)) rfl (fun b140 => ?_)
                  refine wpl_q (q_pure rfl) rfl ?_
                  refine wpl_t (t_pur Tryd.hb57 rfl fun w h => rotateR _ _ w (by decide) (by decide)) rfl (fun b142 => ?_)
                  refine wpl_q (q32_xor rfl rfl) rfl ?_
                  refine wpl_q (q_pure rfl) rfl ?_
                  refine wpl_t (t_pur Tryd.hb57 rfl fun w h => rotateR _ _ w (by decide) (by decide)) rfl (fun b145 => ?_)
                  refine wpl_q (q32_xor rfl rfl) rfl ?_
                  refine wpl_q (q_pure rfl) rfl ?_
                  refine wpl_nil ?_
                  refine ex_then ?_
                  refine wpc_seq ?_
                  refine wpc_region ?_
                  refine wpl_q (q_pure rfl) rfl ?_
                  refine wpl_t (t_pur Tryd.hb57 rfl fun w h => rotateR _ _ w (by decide) (by decide)) rfl (fun b148 => ?_)
                  refine wpl_q (q_pure rfl) rfl ?_
                  refine wpl_t (t_pur Tryd.hb57 rfl fun w h => rotateR _ _ w (by decide) (by decide)) rfl (fun b150 => ?_)
                  refine wpl_q (q32_xor rfl rfl) rfl ?_
                  refine wpl_q (q_pure rfl) rfl ?_
                  refine wpl_t (t_pur Tryd.hb57 rfl fun w h => rotateR _ _ w (by decide) (by decide)) rfl (fun b153 => ?_)
                  refine wpl_q (q32_xor rfl rfl) rfl ?_
                  refine wpl_q (q_pure rfl) rfl ?_
                  refine wpl_nil ?_
                  refine ex_then ?_
                  refine wpc_seq ?_
                  refine wpc_draw 21 (by kernel_rfl) (fun _ h => h.drew) ?_
                  refine wpd_p 0 rfl (by kernel_rfl) trivial (q_pure rfl) rfl sk0 ?_
                  refine wpd_p 1 rfl (by kernel_rfl) trivial (q_pure rfl) rfl sk0 ?_
                  refine wpd_p 2 rfl (by kernel_rfl) trivial (q32_add rfl rfl) rfl sk0 ?_
                  refine wpd_p 3 rfl (by kernel_rfl) trivial (q_pure rfl) rfl sk0 ?_
                  refine wpd_p 4 rfl (by kernel_rfl) trivial (q_pure rfl) rfl sk0 ?_
                  refine wpd_p 5 rfl (by kernel_rfl) trivial (q32_and rfl rfl) rfl sk0 ?_
                  refine wpd_p 6 rfl (by kernel_rfl) trivial (q_pure rfl) rfl sk0 ?_
                  refine wpd_p 7 rfl (by kernel_rfl) trivial (q32_not rfl) rfl sk0 ?_
                  refine wpd_p 8 rfl (by kernel_rfl) trivial (q_pure rfl) rfl sk0 ?_
                  refine wpd_p 9 rfl (by kernel_rfl) trivial (q32_and rfl rfl) rfl sk0 ?_
                  refine wpd_p 10 rfl (by kernel_rfl) trivial (q32_xor rfl rfl) rfl sk0 ?_
                  refine wpd_p 11 rfl (by kernel_rfl) trivial (q32_add rfl rfl) rfl sk0 ?_
                  refine wpd_p 12 rfl (by kernel_rfl) trivial (q_pure rfl) rfl sk0 ?_
                  refine wpd_p 13 rfl (by kernel_rfl) trivial (q_idxA1 Tryd.underlying119 Tryd.ti25 rfl rfl (by omega)) rfl sk0 ?_
                  refine wpd_q 14 rfl (by kernel_rfl) trivial (q_ld Tryd.underlying25 rfl rfl (by first | exact v32s_get (by first | decide | omega | (simp; omega) | (simp only [v8s_length, v32s_length, vis_length, v64s_length]; omega)) | rfl)) rfl (fun _ h => h) ?_
                  refine wpd_p 15 rfl (by kernel_rfl) trivial (q32_add rfl rfl) rfl sk0 ?_
                  refine wpd_p 16 rfl (by kernel_rfl) trivial (q_pure rfl) rfl sk0 ?_
                  refine wpd_p 17 rfl (by kernel_rfl) trivial (q_idxA1 Tryd.underlying119 Tryd.ti25 rfl rfl (by omega)) rfl sk0 ?_
                  refine wpd_q 18 rfl (by kernel_rfl) trivial (q_ld Tryd.underlying25 rfl rfl (by first | exact v32s_get (by first | decide | omega | (simp; omega) | (simp only [v8s_length, v32s_length, vis_length, v64s_length]; omega)) | rfl)) rfl (fun _ h => h) ?_
                  refine wpd_p 19 rfl (by kernel_rfl) trivial (q32_add rfl rfl) rfl sk0 ?_
                  refine wpd_p 20 rfl (by kernel_rfl) trivial (q_pure rfl) rfl sk0 ?_
                  refine wpd_done (by kernel_rfl) ?_
                  refine ex_then ?_
                  refine wpc_seq ?_
                  refine wpc_region ?_
                  refine wpl_q (q_pure rfl) rfl ?_
                  refine wpl_q (q_pure rfl) rfl ?_
                  refine wpl_q (q_pure rfl) rfl ?_
                  refine wpl_q (q32_and rfl rfl) rfl ?_
                  refine wpl_q (q_pure rfl) rfl ?_
                  refine wpl_q (q_pure rfl) rfl ?_
                  refine wpl_q (q32_and rfl rfl) rfl ?_
                  refine wpl_q (q32_xor rfl rfl) rfl ?_
                  refine wpl_q (q_pure rfl) rfl ?_
                  refine wpl_q (q_pure rfl) rfl ?_
                  refine wpl_q (q32_and rfl rfl) rfl ?_
                  refine wpl_q (q32_xor rfl rfl) rfl ?_
                  refine wpl_q (q32_add rfl rfl) rfl ?_
                  refine wpl_q (q_pure rfl) rfl ?_
                  refine wpl_nil ?_
                  refine ex_then ?_
                  refine wpc_seq ?_
                  refine wpc_region ?_
                  refine wpl_q (q_pure rfl) rfl ?_
                  refine wpl_q (q_pure rfl) rfl ?_
                  refine wpl_nil ?_
                  refine ex_then ?_
                  refine wpc_seq ?_
                  refine wpc_region ?_
                  refine wpl_q (q_pure rfl) rfl ?_
                  refine wpl_q (q_pure rfl) rfl ?_
                  refine wpl_nil ?_
                  refine ex_then ?_
                  refine wpc_seq ?_
                  refine wpc_region ?_
                  refine wpl_q (q_pure rfl) rfl ?_
                  refine wpl_q (q_pure rfl) rfl ?_
                  refine wpl_nil ?_
                  refine ex_then ?_
                  refine wpc_seq ?_
                  refine wpc_region ?_
                  refine wpl_q (q_pure rfl) rfl ?_
                  refine wpl_q (q_pure rfl) rfl ?_
                  refine wpl_q (q32_add rfl rfl) rfl ?_
                  refine wpl_q (q_pure rfl) rfl ?_
                  refine wpl_nil ?_
                  refine ex_then ?_
                  refine wpc_seq ?_
                  refine wpc_region ?_
                  refine wpl_q (q_pure rfl) rfl ?_
                  refine wpl_q (q_pure rfl) rfl ?_
                  refine wpl_nil ?_
                  refine ex_then ?_
                  refine wpc_seq ?_
                  refine wpc_region ?_
                  refine wpl_q (q_pure rfl) rfl ?_
                  refine wpl_q (q_pure rfl) rfl ?_
                  refine wpl_nil ?_
                  refine ex_then ?_
                  refine wpc_seq ?_
                  refine wpc_region ?_
                  refine wpl_q (q_pure rfl) rfl ?_
                  refine wpl_q (q_pure rfl) rfl ?_
                  refine wpl_nil ?_
                  refine ex_then ?_
                  refine wpc_region ?_
                  refine wpl_q (q_pure rfl) rfl ?_
                  refine wpl_q (q_pure rfl) rfl ?_
                  refine wpl_q (q32_add rfl rfl) rfl ?_
                  refine wpl_q (q_pure rfl) rfl ?_
                  refine wpl_nil ?_
                  refine ex_block ?_
                  refine ex_then ?_
                  refine wpc_region ?_
                  refine wpl_q (q_pure rfl) rfl ?_
                  refine wpl_q (q_addN (b := 1) rfl rfl (by first | omega | (simp only [maxLen]; omega))) rfl ?_
                  refine wpl_q (q_pure rfl) rfl ?_
                  refine wpl_nil ?_
                  refine ex_again ⟨i + 1, by first | omega | assumption | decide | exact SV.nil | (simp; done) | (dsimp only; omega)⟩ ?_ ?_ ?_
                  · exact (by repeat (first | exact trivial | refine ⟨rfl, ?_⟩))
                  · exact fun w h => by first | exact h | exact h.sub (by repeat (first | exact Sub.nil | exact Sub.refl _ | with_reducible refine Sub.keep ?_ | refine Sub.drop ?_)) (by repeat (first | exact Sub.nil | exact Sub.refl _ | with_reducible refine Sub.keep ?_ | refine Sub.drop ?_))
                  · (show 64 - (i + 1) < 64 - i); omega
                ·
                  simp only [decide_eq_false_iff_not] at hc136
                  obtain rfl : i = 64 := by omega
                  refine wpc_exit ?_
                  refine ex_then_exit ?_
                  refine ex_then_exit ?_
                  refine ex_block_hit ?_
                  refine ex_then ?_
                  refine wpc_seq ?_
                  refine wpc_region ?_
                  refine wpl_q (q_pure rfl) rfl ?_
                  refine wpl_q (q_pure rfl) rfl ?_
                  refine wpl_q (q_pure rfl) rfl ?_
                  refine wpl_q (q_pure rfl) rfl ?_
                  refine wpl_q (q_pure rfl) rfl ?_
                  refine wpl_q (q_pure rfl) rfl ?_
                  refine wpl_q (q_pure rfl) rfl ?_
                  refine wpl_q (q_pure rfl) rfl ?_
                  refine wpl_q (q_buildFull (v32s [(roundsF (wsF (chF (padF bs) k) 64) (stF2 ((chunksF (padF bs)).take k)) 64).getD 0 0, (roundsF (wsF (chF (padF bs) k) 64) (stF2 ((chunksF (padF bs)).take k)) 64).getD 1 0, (roundsF (wsF (chF (padF bs) k) 64) (stF2 ((chunksF (padF bs)).take k)) 64).getD 2 0, (roundsF (wsF (chF (padF bs) k) 64) (stF2 ((chunksF (padF bs)).take k)) 64).getD 3 0, (roundsF (wsF (chF (padF bs) k) 64) (stF2 ((chunksF (padF bs)).take k)) 64).getD 4 0, (roundsF (wsF (chF (padF bs) k) 64) (stF2 ((chunksF (padF bs)).take k)) 64).getD 5 0, (roundsF (wsF (chF (padF bs) k) 64) (stF2 ((chunksF (padF bs)).take k)) 64).getD 6 0, (roundsF (wsF (chF (padF bs) k) 64) (stF2 ((chunksF (padF bs)).take k)) 64).getD 7 0]) Tryd.underlying112 Tryd.ti112 Tryd.ti25 rfl rfl (v32s_one _) rfl) rfl ?_
                  refine wpl_t (t_alloc Tryd.ti112 (v32s (List.replicate 8 0)) (by rfl)) rfl (fun b26 => ?_)
                  refine wpl_t0 (t_stA Tryd.ti112 rfl rfl ((v32s_length _).trans rfl) (v32s_one _) ((v32s_length _).trans rfl)) (fun _ => ?_)
                  refine wpl_nil ?_
                  refine ex_then ?_
                  refine wpc_seq ?_
                  refine wpc_region ?_
                  refine wpl_q (q_pure rfl) rfl ?_
                  refine wpl_nil ?_
                  refine ex_then ?_
                  refine wpc_block ?_
                  refine wpc_loopc (ι := { x : Nat // (x ≤ 8) }) [(2, _), (3, _), (4, _), (5, _), (6, _), (26, _)] (fun x Lc => (27, .int .i64 ((x.1 : Nat) : Int)) :: Lc) (fun x => Mem w [] [.blk b26 112 (v32s (roundsF (wsF (chF (padF bs) k) 64) (stF2 ((chunksF (padF bs)).take k)) 64)), .blk b7 119 (v32s (wsF (chF (padF bs) k) 64)), .row b34 (padF bs).length 5 1 (v8s (padF bs)), .blk b4 112 (v32s (sumN (stF2 ((chunksF (padF bs)).take k)) (roundsF (wsF (chF (padF bs) k) 64) (stF2 ((chunksF (padF bs)).take k)) 64) x.1)), .blk b3 119 (v32s rootsL), .blk b2 24 (v8s (List.replicate 32 0))] []) (fun x => 8 - x.1) ⟨0, by first | omega | assumption | decide | exact SV.nil | (simp; done) | (dsimp only; omega)⟩ (by repeat (first | exact trivial | refine ⟨rfl, ?_⟩)) ?_ ?_
                  · exact fun w h => by
                        rw [eta8 _ (roundsF_length _ _ hs8 64)] at h; exact h
                  · rintro ⟨i, hi0⟩; dsimp only
                    have hi0 : i ≤ 8 := hi0
                    have hrl := roundsF_length (wsF (chF (padF bs) k) 64) (stF2 ((chunksF (padF bs)).take k)) hs8 64
                    have hsn : (sumN (stF2 ((chunksF (padF bs)).take k)) (roundsF (wsF (chF (padF bs) k) 64) (stF2 ((chunksF (padF bs)).take k)) 64) i).length = 8 := (sumN_length _ _ _).trans hs8
                    refine wpc_seq ?_
                    refine wpc_seq ?_
                    refine wpc_region ?_
                    refine wpl_q (q_pure rfl) rfl ?_
                    refine wpl_q (q_pure rfl) rfl ?_
                    refine wpl_nil ?_
                    refine ex_then ?_
                    refine wpc_cond rfl (fun hc210 => ?_) (fun hc210 => ?_)
                    ·
                      try simp only [decide_eq_true_eq, decide_eq_false_iff_not, Bool.and_eq_true, Bool.or_eq_true, beq_iff_eq, bne_iff_ne, ne_eq, Bool.not_eq_true', Bool.not_eq_false', Decidable.not_not] at hc210
                      refine wpc_skip ?_
                      refine ex_then ?_
                      refine wpc_seq ?_
                      refine wpc_block ?_
                      refine wpc_draw 9 (by kernel_rfl) (fun _ h => h.drew) ?_
                      refine wpd_p 0 rfl (by kernel_rfl) trivial (q_pure rfl) rfl sk0 ?_
                      refine wpd_p 1 rfl (by kernel_rfl) trivial (q_pure rfl) rfl sk0 ?_
                      refine wpd_p 2 rfl (by kernel_rfl) trivial (q_idxA1 Tryd.underlying112 Tryd.ti25 rfl rfl (by omega)) rfl sk0 ?_
                      refine wpd_q 3 rfl (by kernel_rfl) trivial (q_ld Tryd.underlying25 rfl rfl (by first | exact v32s_get (by first | decide | omega | (simp; omega) | (simp only [v8s_length, v32s_length, vis_length, v64s_length]; omega)) | rfl)) rfl (fun _ h => h) ?_
                      refine wpd_p 4 rfl (by kernel_rfl) trivial (q_pure rfl) rfl sk0 ?_
                      refine wpd_p 5 rfl (by kernel_rfl) trivial (q_idxA1 Tryd.underlying112 Tryd.ti25 rfl rfl (by omega)) rfl sk0 ?_
                      refine wpd_q 6 rfl (by kernel_rfl) trivial (q_ld Tryd.underlying25 rfl rfl (by first | exact v32s_get (by first | decide | omega | (simp; omega) | (simp only [v8s_length, v32s_length, vis_length, v64s_length]; omega)) | rfl)) rfl (fun _ h => h) ?_
                      refine wpd_p 7 rfl (by kernel_rfl) trivial (q32_add rfl rfl) rfl sk0 ?_
                      refine wpd_p 8 rfl (by kernel_rfl) trivial (q_idxA1 Tryd.underlying112 Tryd.ti25 rfl rfl (by omega)) rfl sk0 ?_
                      refine wpd_t0 9 rfl (by kernel_rfl) trivial (t_st1 Tryd.ti25 rfl rfl rfl (by first | decide | omega | (simp; omega) | (simp only [v8s_length, v32s_length, vis_length, v64s_length]; omega)) _ (by first | exact v32s_set _ | rfl)) (fun _ => skk rfl) (fun _ => ?_)
                      refine wpd_done (by kernel_rfl) ?_
                      refine ex_block ?_
                      refine ex_then ?_
                      refine wpc_region ?_
                      refine wpl_q (q_pure rfl) rfl ?_
                      refine wpl_q (q_addN (b := 1) rfl rfl (by first | omega | (simp only [maxLen]; omega))) rfl ?_
                      refine wpl_q (q_pure rfl) rfl ?_
                      refine wpl_nil ?_
                      refine ex_again ⟨i + 1, by first | omega | assumption | decide | exact SV.nil | (simp; done) | (dsimp only; omega)⟩ ?_ ?_ ?_
                      · exact (by repeat (first | exact trivial | refine ⟨rfl, ?_⟩))
                      · exact fun w h => by first | exact h | exact h.sub (by repeat (first | exact Sub.nil | exact Sub.refl _ | with_reducible refine Sub.keep ?_ | refine Sub.drop ?_)) (by repeat (first | exact Sub.nil | exact Sub.refl _ | with_reducible refine Sub.keep ?_ | refine Sub.drop ?_))
                      · (show 8 - (i + 1) < 8 - i); omega
                    ·
                      simp only [decide_eq_false_iff_not] at hc210
                      obtain rfl : i = 8 := by omega
                      have enext : sumN (stF2 ((chunksF (padF bs)).take k)) (roundsF (wsF (chF (padF bs) k) 64) (stF2 ((chunksF (padF bs)).take k)) 64) 8 = stF2 ((chunksF (padF bs)).take (k + 1)) := by rw [chunks_take _ _ hk, stF2_snoc]; rfl
                      refine wpc_exit ?_
                      refine ex_then_exit ?_
                      refine ex_then_exit ?_
                      refine ex_block_hit ?_
                      refine ex_block ?_
                      refine ex_then ?_
                      refine wpc_region ?_
                      refine wpl_q (q_pure rfl) rfl ?_
                      refine wpl_q (q_addN (b := 64) rfl rfl (by first | omega | (simp only [maxLen]; omega))) rfl ?_
                      refine wpl_q (q_pure rfl) rfl ?_
                      refine wpl_nil ?_
                      refine ex_again ⟨k + 1, by omega⟩ ?_ ?_ ?_
                      · exact (by repeat (first | exact trivial | refine ⟨rfl, ?_⟩))
                      · exact fun w h => by
                          rw [enext] at h
                          exact h.sub (.drop (.drop (Sub.refl _))) .nil
                      · (show (padF bs).length / 64 - (k + 1) < (padF bs).length / 64 - k); omega
    ·
      simp only [decide_eq_false_iff_not] at hc38
      obtain rfl : k = (padF bs).length / 64 := by omega
      refine wpc_exit ?_
      refine ex_then_exit ?_
      refine ex_then_exit ?_
      refine ex_block_hit ?_
      refine ex_then ?_
      refine wpc_seq ?_
      refine wpc_region ?_
      refine wpl_t (t_alloc Tryd.ti24 (v8s (List.replicate 32 0)) (by rfl)) rfl (fun b28 => ?_)
      refine wpl_nil ?_
      refine ex_then ?_
      refine wpc_seq ?_
      refine wpc_seq ?_
      refine wpc_region ?_
      refine wpl_q (q_pure rfl) rfl ?_
      refine wpl_nil ?_
      refine ex_then ?_
      refine wpc_block ?_
      refine wpc_loopc (ι := { x : Nat // (x ≤ 8) }) [(2, _), (4, _), (28, _)] (fun x Lc => (29, .int .i64 ((x.1 : Nat) : Int)) :: Lc) (fun x => Mem w [] [.blk b28 24 (v8s (outN (stF2 (chunksF (padF bs))) (4 * x.1))), .row b34 (padF bs).length 5 1 (v8s (padF bs)), .blk b4 112 (v32s (stF2 (chunksF (padF bs)))), .blk b3 119 (v32s rootsL), .blk b2 24 (v8s (List.replicate 32 0))] []) (fun x => 8 - x.1) ⟨0, by first | omega | assumption | decide | exact SV.nil | (simp; done) | (dsimp only; omega)⟩ (by repeat (first | exact trivial | refine ⟨rfl, ?_⟩)) ?_ ?_
      · exact fun w h => by
            rw [List.take_of_length_le (by simp [chunksF])] at h; exact h
      · rintro ⟨i, hi0⟩; dsimp only
        have hi0 : i ≤ 8 := hi0
        have hs8 := stF2_length (chunksF (padF bs))
        refine wpc_seq ?_
        refine wpc_seq ?_
        refine wpc_region ?_
        refine wpl_q (q_pure rfl) rfl ?_
        refine wpl_q (q_pure rfl) rfl ?_
        refine wpl_nil ?_
        refine ex_then ?_
        refine wpc_cond rfl (fun hc223 => ?_) (fun hc223 => ?_)
        ·
          try simp only [decide_eq_true_eq, decide_eq_false_iff_not, Bool.and_eq_true, Bool.or_eq_true, beq_iff_eq, bne_iff_ne, ne_eq, Bool.not_eq_true', Bool.not_eq_false', Decidable.not_not] at hc223
          refine wpc_skip ?_
          refine ex_then ?_
          refine wpc_seq ?_
          refine wpc_block ?_
          refine wpc_seq ?_
          refine wpc_region ?_
          refine wpl_q (q_pure rfl) rfl ?_
          refine wpl_nil ?_
          refine ex_then ?_
          refine wpc_block ?_
          refine wpc_loopc (ι := { x : Nat // (x ≤ 4) }) [(2, _), (4, _), (28, _), (29, _)] (fun x Lc => (30, .int .i64 ((x.1 : Nat) : Int)) :: Lc) (fun x => Mem w [] [.blk b28 24 (v8s (outN (stF2 (chunksF (padF bs))) (4 * i + x.1))), .row b34 (padF bs).length 5 1 (v8s (padF bs)), .blk b4 112 (v32s (stF2 (chunksF (padF bs)))), .blk b3 119 (v32s rootsL), .blk b2 24 (v8s (List.replicate 32 0))] []) (fun x => 4 - x.1) ⟨0, by first | omega | assumption | decide | exact SV.nil | (simp; done) | (dsimp only; omega)⟩ (by repeat (first | exact trivial | refine ⟨rfl, ?_⟩)) ?_ ?_
          · exact fun w h => h
          · rintro ⟨j, hi0⟩; dsimp only
            have hi0 : j ≤ 4 := hi0
            have hol := outN_length (stF2 (chunksF (padF bs))) (4 * i + j)
            refine wpc_seq ?_
            refine wpc_seq ?_
            refine wpc_region ?_
            refine wpl_q (q_pure rfl) rfl ?_
            refine wpl_q (q_pure rfl) rfl ?_
            refine wpl_nil ?_
            refine ex_then ?_
            refine wpc_cond rfl (fun hc227 => ?_) (fun hc227 => ?_)
            ·
              try simp only [decide_eq_true_eq, decide_eq_false_iff_not, Bool.and_eq_true, Bool.or_eq_true, beq_iff_eq, bne_iff_ne, ne_eq, Bool.not_eq_true', Bool.not_eq_false', Decidable.not_not] at hc227
              refine wpc_skip ?_
              refine ex_then ?_
              refine wpc_seq ?_
              refine wpc_block ?_
              refine wpc_region ?_
              refine wpl_q (q_pure rfl) rfl ?_
              refine wpl_q (q_mulN (a := 4) rfl rfl (by first | omega | (simp only [maxLen]; omega))) rfl ?_
              refine wpl_q (q_pure rfl) rfl ?_
              refine wpl_q (q_addN rfl rfl (by first | omega | (simp only [maxLen]; omega))) rfl ?_
              refine wpl_q (q_pure rfl) rfl ?_
              refine wpl_q (q_idxA1 Tryd.underlying112 Tryd.ti25 rfl rfl (by omega)) rfl ?_
              refine wpl_q (q_ld Tryd.underlying25 rfl rfl (by first | exact v32s_get (by first | decide | omega | (simp; omega) | (simp only [v8s_length, v32s_length, vis_length, v64s_length]; omega)) | rfl)) rfl ?_
              refine wpl_q (q_pure rfl) rfl ?_
              refine wpl_q (q_mulN (a := 8) rfl rfl (by first | omega | (simp only [maxLen]; omega))) rfl ?_
              refine wpl_q (q_subN (a := 24) rfl rfl (by omega) (by first | omega | (simp only [maxLen]; omega))) rfl ?_
              refine wpl_q (q64_conv Tryd.underlying3 Tryd.underlying64 rfl) rfl ?_
              refine wpl_q (q32_shrC rfl rfl (by omega)) rfl ?_
              refine wpl_q (q8_conv Tryd.underlying25 Tryd.underlying5 rfl) rfl ?_
              refine wpl_q (q_idxA1 Tryd.underlying24 Tryd.ti5 rfl rfl (by omega)) rfl ?_
              refine wpl_t0 (t_st1 Tryd.ti5 rfl rfl rfl (by first | decide | omega | (simp; omega) | (simp only [v8s_length, v32s_length, vis_length, v64s_length]; omega)) _ (by first | exact v8s_set _ | rfl)) (fun _ => ?_)
              refine wpl_nil ?_
              refine ex_block ?_
              refine ex_then ?_
              refine wpc_region ?_
              refine wpl_q (q_pure rfl) rfl ?_
              refine wpl_q (q_addN (b := 1) rfl rfl (by first | omega | (simp only [maxLen]; omega))) rfl ?_
              refine wpl_q (q_pure rfl) rfl ?_
              refine wpl_nil ?_
              refine ex_again ⟨j + 1, by first | omega | assumption | decide | exact SV.nil | (simp; done) | (dsimp only; omega)⟩ ?_ ?_ ?_
              · exact (by repeat (first | exact trivial | refine ⟨rfl, ?_⟩))
              · exact fun w h => by
                  rw [outN_step _ _ _ (by omega)] at h; exact h
              · (show 4 - (j + 1) < 4 - j); omega
            ·
              simp only [decide_eq_false_iff_not] at hc227
              obtain rfl : j = 4 := by omega
              refine wpc_exit ?_
              refine ex_then_exit ?_
              refine ex_then_exit ?_
              refine ex_block_hit ?_
              refine ex_block ?_
              refine ex_then ?_
              refine wpc_region ?_
              refine wpl_q (q_pure rfl) rfl ?_
              refine wpl_q (q_addN (b := 1) rfl rfl (by first | omega | (simp only [maxLen]; omega))) rfl ?_
              refine wpl_q (q_pure rfl) rfl ?_
              refine wpl_nil ?_
              refine ex_again ⟨i + 1, by first | omega | assumption | decide | exact SV.nil | (simp; done) | (dsimp only; omega)⟩ ?_ ?_ ?_
              · exact (by repeat (first | exact trivial | refine ⟨rfl, ?_⟩))
              · exact fun w h => by first | exact h | exact h.sub (by repeat (first | exact Sub.nil | exact Sub.refl _ | with_reducible refine Sub.keep ?_ | refine Sub.drop ?_)) (by repeat (first | exact Sub.nil | exact Sub.refl _ | with_reducible refine Sub.keep ?_ | refine Sub.drop ?_))
              · (show 8 - (i + 1) < 8 - i); omega
        ·
          simp only [decide_eq_false_iff_not] at hc223
          obtain rfl : i = 8 := by omega
          have hol := outN_length (stF2 (chunksF (padF bs))) 32
          refine wpc_exit ?_
          refine ex_then_exit ?_
          refine ex_then_exit ?_
          refine ex_block_hit ?_
          refine ex_then ?_
          refine wpc_seq ?_
          refine wpc_region ?_
          refine wpl_q (q_ldN Tryd.underlying24 rfl Tryd.ti24 rfl ((v8s_length _).trans hol)) rfl ?_
          refine wpl_t0 (t_stA Tryd.ti24 rfl rfl ((v8s_length _).trans hol) (v8s_one _) ((v8s_length _).trans rfl)) (fun _ => ?_)
          refine wpl_nil ?_
          refine ex_then ?_
          refine wpc_ret ?_
          refine retv1 (.inl rfl) rfl (rv_agg Tryd.underlying24 rfl Tryd.ti24 rfl (fun w h => h.atB) ((v8s_length _).trans (sumF_length bs))) ?_
          exact fun w h => ⟨rfl, h.below⟩

end Go.Proofs.YtoaeklbenmlooaaDoor
