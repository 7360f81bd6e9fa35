/- What the statement reaches, in order. -/
import Derived.Test.YtjpfhkjmjnjggaaDoorMSTI
import Derived.Test.YtjpfhkjmjnjggaaDoorMSPLI
import Derived.Test.YtjpfhkjmjnjggaaDoorMSPLZ
import Derived.Test.YtjpfhkjmjnjggaaDoorMSPLL
import Derived.Test.YtjpfhkjmjnjggaaDoorMSPLN
import Derived.Test.YtjpfhkjmjnjggaaDoorMSPLP
import Derived.WalkKit
import Derived.ProofKit
import Derived.OpenShut
import Derived.ChangeOld
import Derived.Below
import Derived.Carry
import Derived.LaidMore
import Derived.Deep.DeepHandedRow
import Derived.Deep.DeepWitnessRowRef
import Derived.Lib.LaidTab
import Derived.Stop.Joined
import Derived.Test.YtjpfhkjmjnjggaaDoorMS3
set_option linter.unusedSimpArgs false
set_option linter.unusedVariables false
set_option maxRecDepth 100000
namespace Go.Proofs.YtjpfhkjmjnjggaaDoor
open Go Go.PL Go.RowKit
theorem numCheck (f : UInt8) (hi lo : UInt64) (ln : Int) (w : World)   :
    Calls Tryd.prog 42 [.agg (pfL f hi lo ln).toArray].toArray w (Pur w (.int .i64 (pfxF f hi lo ln))) := by
  refine enter (m := 39) (R := Mem w [] [] []) Tryd.func42 rfl rfl (Nat.le_of_ble_eq_true rfl) (Mem.start w) ?_
  refine wpc_seq <| wpc_region ?_
  refine wpl_t (t_box rfl (pfL f hi lo ln) rfl) rfl (fun b1 => ?_)
  refine wpl_q (q_pure rfl) rfl <| wpl_nil <| ex_then <| wpc_seq <| wpc_seq <| wpc_region <| wpl_q (q_field Tryd.underlying26 rfl Tryd.ti5 rfl rfl _ rfl) rfl ?_
  refine wpl_q (q_ld Tryd.underlying5 rfl rfl zz38) rfl ?_
  refine wpl_t (t_pur (v := .int .i64 ((widF f : Nat) : Int)) Tryd.hb61 rfl fun w h => width f w) rfl (fun b5 => ?_)
  refine wpl_q (q_pure rfl) rfl <| wpl_nil <| ex_then ?_
  refine wpc_cond rfl (fun hc6 => ?_) (fun hc6 => ?_)
  ·
   have hw0 : widF f = 0 := by simpa using hc6
   have hR : pfxF f hi lo ln = 2 := by rw [pfxF, if_pos hw0]
   refine wpc_seq <| wpc_region <| wpl_q (q_pure rfl) rfl <| wpl_nil <| ex_then <| wpc_ret ?_
   refine ex_then_ret ?_
   refine ret1 (.inl rfl) rfl rfl ?_
   exact fun w h => ⟨by rw [hR], h.below⟩
  ·
   have hw0 : ¬ widF f = 0 := by simpa using hc6
   refine wpc_skip <| ex_then <| wpc_seq <| wpc_seq ?_
   refine wpc_draw 99 zz6 (fun _ h => h.drew) ?_
   refine wpd_p 0 rfl zz6 trivial (q_field Tryd.underlying26 rfl Tryd.ti5 rfl rfl _ rfl) rfl sk0 ?_
   refine wpd_q 1 rfl zz6 trivial (q_ld Tryd.underlying5 rfl rfl zz38) rfl (fun _ h => h) ?_
   refine wpd_p 2 rfl zz6 trivial (q_field Tryd.underlying26 rfl Tryd.ti24 rfl rfl _ rfl) rfl sk0 ?_
   refine wpd_q 3 rfl zz6 trivial (q_ldP Tryd.underlying24 rfl Tryd.ti24 rfl (adL hi lo) rfl zz2) rfl (fun _ h => h) ?_
   refine wpd_t 4 rfl zz6 trivial (t_pur Tryd.hb62 rfl fun w h => checkAddr f hi lo w) rfl (fun _ => sk0) (fun b11 => ?_)
   refine wpd_p 5 rfl zz6 trivial (q_pure rfl) rfl sk0 ?_
   refine wpd_p 6 rfl zz6 trivial (q_pure rfl) rfl sk0 ?_
   refine wpd_bool2 13 12 rfl rfl (fun hb13 => ?_) (fun hb13 => ?_)
   ·
    have hca : caF f hi lo = false := by simpa using hb13
    have hR : pfxF f hi lo ln = 8 := by rw [pfxF, if_neg hw0, if_pos (.inl hca)]
    refine wpd_off 7 rfl zz6 ⟨_, _, rfl, rfl, rfl⟩ rfl sk0 ?_
    refine wpd_off 8 rfl zz6 ⟨_, _, rfl, rfl, rfl⟩ rfl sk0 ?_
    refine wpd_off 9 rfl zz6 ⟨_, _, rfl, rfl, rfl⟩ rfl sk0 ?_
    refine wpd_p 10 rfl zz6 trivial (q_pure rfl) rfl sk0 ?_
    refine wpd_p 11 rfl zz6 trivial (q_pure rfl) rfl sk0 ?_
    refine wpd_off 12 rfl zz6 ⟨_, _, rfl, rfl, rfl⟩ rfl sk0 ?_
    refine wpd_off 13 rfl zz6 ⟨_, _, rfl, rfl, rfl⟩ rfl sk0 ?_
    refine wpd_off 14 rfl zz6 ⟨_, _, rfl, rfl, rfl⟩ rfl sk0 ?_
    refine wpd_off 15 rfl zz6 ⟨_, _, rfl, rfl, rfl⟩ rfl sk0 ?_
    refine wpd_off 16 rfl zz6 ⟨_, _, rfl, rfl, rfl⟩ rfl sk0 ?_
    refine wpd_off 17 rfl zz6 ⟨_, _, rfl, rfl, rfl⟩ rfl sk0 ?_
    refine wpd_p 18 rfl zz6 trivial (q_pure rfl) rfl sk0 ?_
    refine wpd_p 19 rfl zz6 trivial (q_pure rfl) rfl sk0 ?_
    refine wpd_off 20 rfl zz6 ⟨_, _, rfl, rfl, rfl⟩ rfl sk0 ?_
    refine wpd_off 21 rfl zz6 ⟨_, _, rfl, rfl, rfl⟩ rfl sk0 ?_
    refine wpd_off 22 rfl zz6 ⟨_, _, rfl, rfl, rfl⟩ rfl sk0 ?_
    refine wpd_off 23 rfl zz6 ⟨_, _, rfl, rfl, rfl⟩ rfl sk0 ?_
    refine wpd_off 24 rfl zz6 ⟨_, _, rfl, rfl, rfl⟩ rfl sk0 ?_
    refine wpd_off 25 rfl zz6 ⟨_, _, rfl, rfl, rfl⟩ rfl sk0 ?_
    refine wpd_off 26 rfl zz6 ⟨_, _, rfl, rfl, rfl⟩ rfl sk0 ?_
    refine wpd_off 27 rfl zz6 ⟨_, _, rfl, rfl, rfl⟩ rfl sk0 ?_
    refine wpd_off 28 rfl zz6 ⟨_, _, rfl, rfl, rfl⟩ rfl sk0 ?_
    refine wpd_off 29 rfl zz6 ⟨_, _, rfl, rfl, rfl⟩ rfl sk0 ?_
    refine wpd_off 30 rfl zz6 ⟨_, _, rfl, rfl, rfl⟩ rfl sk0 ?_
    refine wpd_p 31 rfl zz6 trivial (q_pure rfl) rfl sk0 ?_
    refine wpd_done zz6 ?_
    refine ex_then ?_
    refine wpc_cond_t rfl ?_
    refine wpc_seq <| wpc_region <| wpl_q (q_pure rfl) rfl <| wpl_nil <| ex_then <| wpc_ret ?_
    refine ex_then_ret ?_
    refine ret1 (.inl rfl) rfl rfl ?_
    exact fun w h => ⟨by rw [hR], h.below⟩
   ·
    have hca : caF f hi lo = true := by simpa using hb13
    refine wpd_p 7 rfl zz6 ⟨_, rfl, rfl⟩ (q_field Tryd.underlying26 rfl Tryd.ti3 rfl rfl _ rfl) rfl sk0 ?_
    refine wpd_q 8 rfl zz6 ⟨_, rfl, rfl⟩ (q_ld Tryd.underlying3 rfl rfl zz34) rfl (fun _ h => h) ?_
    refine wpd_p 9 rfl zz6 ⟨_, rfl, rfl⟩ (q_pure rfl) rfl sk0 ?_
    refine wpd_p 10 rfl zz6 trivial (q_pure rfl) rfl sk0 ?_
    refine wpd_p 11 rfl zz6 trivial (q_pure rfl) rfl sk0 ?_
    refine wpd_bool2 18 16 rfl rfl (fun hb18 => ?_) (fun hb18 => ?_)
    ·
     simp only [decide_eq_true_eq] at hb18
     have hR : pfxF f hi lo ln = 8 := by rw [pfxF, if_neg hw0, if_pos (.inr (.inl hb18))]
     refine wpd_off 12 rfl zz6 ⟨_, _, rfl, rfl, rfl⟩ rfl sk0 ?_
     refine wpd_off 13 rfl zz6 ⟨_, _, rfl, rfl, rfl⟩ rfl sk0 ?_
     refine wpd_off 14 rfl zz6 ⟨_, _, rfl, rfl, rfl⟩ rfl sk0 ?_
     refine wpd_off 15 rfl zz6 ⟨_, _, rfl, rfl, rfl⟩ rfl sk0 ?_
     refine wpd_off 16 rfl zz6 ⟨_, _, rfl, rfl, rfl⟩ rfl sk0 ?_
     refine wpd_off 17 rfl zz6 ⟨_, _, rfl, rfl, rfl⟩ rfl sk0 ?_
     refine wpd_p 18 rfl zz6 trivial (q_pure rfl) rfl sk0 ?_
     refine wpd_p 19 rfl zz6 trivial (q_pure rfl) rfl sk0 ?_
     refine wpd_off 20 rfl zz6 ⟨_, _, rfl, rfl, rfl⟩ rfl sk0 ?_
     refine wpd_off 21 rfl zz6 ⟨_, _, rfl, rfl, rfl⟩ rfl sk0 ?_
     refine wpd_off 22 rfl zz6 ⟨_, _, rfl, rfl, rfl⟩ rfl sk0 ?_
     refine wpd_off 23 rfl zz6 ⟨_, _, rfl, rfl, rfl⟩ rfl sk0 ?_
     refine wpd_off 24 rfl zz6 ⟨_, _, rfl, rfl, rfl⟩ rfl sk0 ?_
     refine wpd_off 25 rfl zz6 ⟨_, _, rfl, rfl, rfl⟩ rfl sk0 ?_
     refine wpd_off 26 rfl zz6 ⟨_, _, rfl, rfl, rfl⟩ rfl sk0 ?_
     refine wpd_off 27 rfl zz6 ⟨_, _, rfl, rfl, rfl⟩ rfl sk0 ?_
     refine wpd_off 28 rfl zz6 ⟨_, _, rfl, rfl, rfl⟩ rfl sk0 ?_
     refine wpd_off 29 rfl zz6 ⟨_, _, rfl, rfl, rfl⟩ rfl sk0 ?_
     refine wpd_off 30 rfl zz6 ⟨_, _, rfl, rfl, rfl⟩ rfl sk0 ?_
     refine wpd_p 31 rfl zz6 trivial (q_pure rfl) rfl sk0 ?_
     refine wpd_done zz6 ?_
     refine ex_then ?_
     refine wpc_cond_t rfl ?_
     refine wpc_seq <| wpc_region <| wpl_q (q_pure rfl) rfl <| wpl_nil <| ex_then <| wpc_ret ?_
     refine ex_then_ret ?_
     refine ret1 (.inl rfl) rfl rfl ?_
     exact fun w h => ⟨by rw [hR], h.below⟩
    ·
     simp only [decide_eq_false_iff_not] at hb18
     refine wpd_p 12 rfl zz6 ⟨_, rfl, rfl⟩ (q_field Tryd.underlying26 rfl Tryd.ti3 rfl rfl _ rfl) rfl sk0 ?_
     refine wpd_q 13 rfl zz6 ⟨_, rfl, rfl⟩ (q_ld Tryd.underlying3 rfl rfl zz34) rfl (fun _ h => h) ?_
     refine wpd_p 14 rfl zz6 ⟨_, rfl, rfl⟩ (q_field Tryd.underlying26 rfl Tryd.ti5 rfl rfl _ rfl) rfl sk0 ?_
     refine wpd_q 15 rfl zz6 ⟨_, rfl, rfl⟩ (q_ld Tryd.underlying5 rfl rfl zz38) rfl (fun _ h => h) ?_
     refine wpd_t 16 rfl zz6 ⟨_, rfl, rfl⟩ (t_pur (v := .int .i64 ((widF f : Nat) : Int)) Tryd.hb61 rfl fun w h => width f w) rfl (fun _ => sk0) (fun b23 => ?_)
     refine wpd_p 17 rfl zz6 ⟨_, rfl, rfl⟩ (q_pure rfl) rfl sk0 ?_
     refine wpd_p 18 rfl zz6 trivial (q_pure rfl) rfl sk0 ?_
     refine wpd_p 19 rfl zz6 trivial (q_pure rfl) rfl sk0 ?_
     refine wpd_bool2 26 24 rfl rfl (fun hb26 => ?_) (fun hb26 => ?_)
     ·
      simp only [decide_eq_true_eq] at hb26
      have hR : pfxF f hi lo ln = 8 := by rw [pfxF, if_neg hw0, if_pos (.inr (.inr zz14))]
      refine wpd_off 20 rfl zz6 ⟨_, _, rfl, rfl, rfl⟩ rfl sk0 ?_
      refine wpd_off 21 rfl zz6 ⟨_, _, rfl, rfl, rfl⟩ rfl sk0 ?_
      refine wpd_off 22 rfl zz6 ⟨_, _, rfl, rfl, rfl⟩ rfl sk0 ?_
      refine wpd_off 23 rfl zz6 ⟨_, _, rfl, rfl, rfl⟩ rfl sk0 ?_
      refine wpd_off 24 rfl zz6 ⟨_, _, rfl, rfl, rfl⟩ rfl sk0 ?_
      refine wpd_off 25 rfl zz6 ⟨_, _, rfl, rfl, rfl⟩ rfl sk0 ?_
      refine wpd_off 26 rfl zz6 ⟨_, _, rfl, rfl, rfl⟩ rfl sk0 ?_
      refine wpd_off 27 rfl zz6 ⟨_, _, rfl, rfl, rfl⟩ rfl sk0 ?_
      refine wpd_off 28 rfl zz6 ⟨_, _, rfl, rfl, rfl⟩ rfl sk0 ?_
      refine wpd_off 29 rfl zz6 ⟨_, _, rfl, rfl, rfl⟩ rfl sk0 ?_
      refine wpd_off 30 rfl zz6 ⟨_, _, rfl, rfl, rfl⟩ rfl sk0 ?_
      refine wpd_p 31 rfl zz6 trivial (q_pure rfl) rfl sk0 ?_
      refine wpd_done zz6 ?_
      refine ex_then ?_
      refine wpc_cond_t rfl ?_
      refine wpc_seq <| wpc_region <| wpl_q (q_pure rfl) rfl <| wpl_nil <| ex_then <| wpc_ret ?_
      refine ex_then_ret ?_
      refine ret1 (.inl rfl) rfl rfl ?_
      exact fun w h => ⟨by rw [hR], h.below⟩
     ·
      simp only [decide_eq_false_iff_not] at hb26
      obtain ⟨k, rfl⟩ : ∃ k : Nat, ln = (k : Int) := ⟨ln.toNat, zz14⟩
      have hB : ¬ (caF f hi lo = false ∨ (k : Int) < 0 ∨ ((widF f : Nat) : Int) < (k : Int)) := by rintro (h | h | h); rw [hca] at h; cases h; exact hb18 h; omega
      have hmk := mask_ok (n := widF f - k) hca zz14 hw0
      refine wpd_p 20 rfl zz6 ⟨_, rfl, rfl⟩ (q_field Tryd.underlying26 rfl Tryd.ti24 rfl rfl _ rfl) rfl sk0 ?_
      refine wpd_q 21 rfl zz6 ⟨_, rfl, rfl⟩ (q_ldP Tryd.underlying24 rfl Tryd.ti24 rfl (adL hi lo) rfl zz2) rfl (fun _ h => h) ?_
      refine wpd_p 22 rfl zz6 ⟨_, rfl, rfl⟩ (q_field Tryd.underlying26 rfl Tryd.ti5 rfl rfl _ rfl) rfl sk0 ?_
      refine wpd_q 23 rfl zz6 ⟨_, rfl, rfl⟩ (q_ld Tryd.underlying5 rfl rfl zz38) rfl (fun _ h => h) ?_
      refine wpd_p 24 rfl zz6 ⟨_, rfl, rfl⟩ (q_field Tryd.underlying26 rfl Tryd.ti3 rfl rfl _ rfl) rfl sk0 ?_
      refine wpd_q 25 rfl zz6 ⟨_, rfl, rfl⟩ (q_ld Tryd.underlying3 rfl rfl zz34) rfl (fun _ h => h) ?_
      refine wpd_p 28 rfl zz6 ⟨_, rfl, rfl⟩ (q_field Tryd.underlying26 rfl Tryd.ti24 rfl rfl _ rfl) rfl sk0 ?_
      refine wpd_q 29 rfl zz6 ⟨_, rfl, rfl⟩ (q_ldP Tryd.underlying24 rfl Tryd.ti24 rfl (adL hi lo) rfl zz2) rfl (fun _ h => h) ?_
      refine wpd_t 26 rfl zz6 ⟨_, rfl, rfl⟩ (t_pur Tryd.hb64 rfl fun w h => mask f k w zz14) rfl (fun _ => sk0) (fun b33 => ?_)
      refine wpd_t 27 rfl zz6 ⟨_, rfl, rfl⟩ (t_pur Tryd.hb63 rfl fun w h => and_ hi lo _ _ w) rfl (fun _ => sk0) (fun b34 => ?_)
      refine wpd_p 30 rfl zz6 ⟨_, rfl, rfl⟩ (q_neAddr (a := hi &&& (maskF f (widF f - k)).1) (b := lo &&& (maskF f (widF f - k)).2) (c := hi) (d := lo) rfl rfl) rfl sk0 ?_
      refine wpd_p 31 rfl zz6 trivial (q_pure rfl) rfl sk0 ?_
      refine wpd_done zz6 ?_
      refine ex_then ?_
      refine wpc_cond rfl (fun hc38 => ?_) (fun hc38 => ?_)
      ·
       first | (have hR : pfxF f hi lo ln = 8 := hR) | (have hR : pfxF f hi lo (k : Int) = 8 := by rw [pfxF, if_neg hw0, if_neg hB, if_neg (fun h => by rw [Int.toNat_natCast] at h; simp [hmk.2 h] at hc38)])
       refine wpc_seq <| wpc_region <| wpl_q (q_pure rfl) rfl <| wpl_nil <| ex_then <| wpc_ret ?_
       refine ex_then_ret ?_
       refine ret1 (.inl rfl) rfl rfl ?_
       exact fun w h => ⟨by rw [hR], h.below⟩
      ·
       have hR : pfxF f hi lo (k : Int) = 0 := by rw [pfxF, if_neg hw0, if_neg hB, if_pos (by rw [Int.toNat_natCast]; exact hmk.1 (by simpa using hc38))]
       refine wpc_skip <| ex_then <| wpc_seq <| wpc_region <| wpl_q (q_pure rfl) rfl <| wpl_nil <| ex_then <| wpc_ret ?_
       refine ret1 (.inl rfl) rfl rfl ?_
       exact fun w h => ⟨by rw [hR], h.below⟩
section
variable {P : Program} {n : Cx} {R : World → Prop} {L : Slots}
theorem q64_quo {t t' : TypeId} {x y : Operand} {a b : UInt64} (hx : ev L x = some (.int .u64 a.toNat)) (hy : ev L y = some (.int .u64 b.toNat)) (h0 : b.toNat ≠ 0) : QOp P n R L (.binOp .quo t x y t') (.int .u64 (a / b).toNat) := by
  have := q_quo (P := P) (n := n) (R := R) (t := t) (t' := t') hx hy zz14
  have e : wk .u64 ((a.toNat : Int).tdiv b.toNat) = ((a / b).toNat : Nat) := by
    have h1 := (a / b).toNat_lt
    rw [UInt64.toNat_div] at h1 ⊢
    have h3 : ((a.toNat : Int).tdiv b.toNat) = ((a.toNat / b.toNat : Nat) : Int) := rfl
    rw [h3]; clear h3 this
    generalize a.toNat / b.toNat = q at *
    simp only [wk]; omega
  rwa [e] at this
theorem q64_rem {t t' : TypeId} {x y : Operand} {a b : UInt64} (hx : ev L x = some (.int .u64 a.toNat)) (hy : ev L y = some (.int .u64 b.toNat)) (h0 : b.toNat ≠ 0) : QOp P n R L (.binOp .rem t x y t') (.int .u64 (a % b).toNat) := by
  have := q_rem (P := P) (n := n) (R := R) (t := t) (t' := t') hx hy zz14
  rw [UInt64.toNat_mod]
  exact this
end
def powU (n : Nat) : UInt64 := UInt64.ofNat (2 ^ n)
theorem powU_toNat {n : Nat} (h : n ≤ 63) : (powU n).toNat = 2 ^ n := by
  unfold powU
  rw [UInt64.toNat_ofNat']
  exact Nat.mod_eq_of_lt (Nat.pow_lt_pow_right zz19 zz14)
theorem powU_succ {n : Nat} (h : n + 1 ≤ 63) : powU n + powU n = powU (n + 1) := by
  apply UInt64.toNat_inj.1
  have h1 : 2 ^ (n + 1) < 2 ^ 64 := Nat.pow_lt_pow_right zz19 zz14
  rw [UInt64.toNat_add, powU_toNat zz14, powU_toNat h, Nat.pow_succ] at *
  rw [← Nat.mul_two]
  exact Nat.mod_eq_of_lt h1
theorem powU_ne {n : Nat} (h : n ≤ 63) : (powU n).toNat ≠ 0 := by
  rw [powU_toNat h]
  have h2 : 0 < 2 ^ n := Nat.pow_pos zz19
  omega
theorem bit_u (x : UInt64) {n : Nat} (h : n ≤ 63) : ((x / powU n) % 2).toNat = x.toNat / 2 ^ n % 2 := by
  rw [UInt64.toNat_mod, UInt64.toNat_div, powU_toNat h]; rfl
def bitsF (w : Nat) (hi lo : UInt64) (i : Nat) : List Nat := (List.range i).map fun j => bitF hi lo (w - 1 - j)
theorem bitsF_len (w : Nat) (hi lo : UInt64) (i : Nat) : (bitsF w hi lo i).length = i := by simp [bitsF]
theorem bitsF_succ (w : Nat) (hi lo : UInt64) (i : Nat) : bitsF w hi lo (i + 1) = bitsF w hi lo i ++ [bitF hi lo (w - 1 - i)] := by simp [bitsF, List.range_succ]
theorem bitsF_get (w : Nat) (hi lo : UInt64) {i n : Nat} (h : i < n) : (bitsF w hi lo n).getD i 0 = bitF hi lo (w - 1 - i) := by
  rw [List.getD_eq_getElem?_getD, bitsF, List.getElem?_map, List.getElem?_range h]; rfl
theorem refPower1 (n : Nat) (w : World)  (hn : n ≤ 63) :
    Calls Tryd.prog 91 [.int .i64 ((n : Nat) : Int)].toArray w (Pur w (.int .u64 ((powU n).toNat : Int))) := by
  refine enter (m := 14) (R := Mem w [] [] []) Tryd.func91 rfl rfl (Nat.le_of_ble_eq_true rfl) (Mem.start w) ?_
  refine wpc_seq <| wpc_region <| wpl_q (q_pure rfl) rfl <| wpl_nil <| ex_then <| wpc_seq <| wpc_region <| wpl_q (q_pure rfl) rfl <| wpl_nil <| ex_then <| wpc_seq <| wpc_seq ?_
  refine wpc_region <| wpl_q (q_pure rfl) rfl <| wpl_nil <| ex_then <| wpc_block ?_
  refine wpc_loopc (ι := { x : Nat // (x ≤ n) }) [(0, _)] (fun x Lc => (4, .int .i64 ((x.1 : Nat) : Int)) :: (3, .int .u64 ((powU x.1).toNat : Int)) :: Lc) (fun x => Mem w [] [] []) (fun x => n - x.1) ⟨0, (Nat.zero_le _)⟩ zz10 ?_ ?_
  ·
   exact fun w h => h
  ·
   rintro ⟨i, hi0⟩; try dsimp only
   have hi0 : i ≤ n := hi0
   refine wpc_seq <| wpc_seq <| wpc_region <| wpl_q (q_pure rfl) rfl <| wpl_q (q_pure rfl) rfl <| wpl_q (q_pure rfl) rfl <| wpl_nil <| ex_then ?_
   refine wpc_cond rfl (fun hc7 => ?_) (fun hc7 => ?_)
   ·
    simp only [decide_eq_true_eq] at hc7
    refine wpc_skip <| ex_then <| wpc_seq <| wpc_block <| wpc_region <| wpl_q (q_pure rfl) rfl <| wpl_q (q_pure rfl) rfl <| wpl_q (q64_add rfl rfl) rfl ?_
    refine wpl_re 12 rfl (congrArg (fun x : UInt64 => Value.int .u64 (x.toNat : Int)) (powU_succ (n := i) zz14)) ?_
    refine wpl_q (q_pure rfl) rfl <| wpl_nil <| ex_block <| ex_then <| wpc_region <| wpl_q (q_pure rfl) rfl ?_
    refine wpl_q (q_addN (b := 1) rfl rfl zz1) rfl ?_
    refine wpl_q (q_pure rfl) rfl <| wpl_nil ?_
    refine ex_again ⟨i + 1, zz14⟩ ?_ ?_ ?_
    ·
     exact zz10
    ·
     exact fun w h => h
    ·
     (show n - (i + 1) < n - i); omega
   ·
    simp only [decide_eq_false_iff_not] at hc7
    obtain rfl : i = n := by omega
    refine wpc_exit ?_
    refine ex_then_exit ?_
    refine ex_then_exit ?_
    refine ex_block_hit ?_
    refine ex_then <| wpc_seq <| wpc_region <| wpl_q (q_pure rfl) rfl <| wpl_q (q_pure rfl) rfl <| wpl_nil <| ex_then <| wpc_ret ?_
    refine ret1 (.inl rfl) rfl rfl ?_
    exact fun w h => ⟨rfl, h.below⟩
theorem refBits (f : UInt8) (hi lo : UInt64) (w : World)   :
    Calls Tryd.prog 68 [.int .u8 f.toNat, .agg (adL hi lo).toArray].toArray w (GivesP w (fun v => SV v (widF f)) (fun v => v) (fun v => [.row v (widF f) 3 1 (vns (bitsF (widF f) hi lo (widF f)))]) (fun _ => [])) := by
  have hwl := widF_le f
  refine enter (m := 39) (R := Mem w [] [] []) Tryd.func68 rfl rfl (Nat.le_of_ble_eq_true rfl) (Mem.start w) ?_
  refine wpc_seq <| wpc_region ?_
  refine wpl_t (t_box rfl (adL hi lo) rfl) rfl (fun b3 => ?_)
  refine wpl_q (q_pure rfl) rfl <| wpl_nil <| ex_then <| wpc_seq <| wpc_region <| wpl_q (q_pure rfl) rfl <| wpl_nil <| ex_then <| wpc_seq <| wpc_region <| wpl_q (q_pure rfl) rfl ?_
  refine wpl_t (t_pur (v := .int .i64 ((widF f : Nat) : Int)) Tryd.hb66 rfl fun w h => refWidth f w) rfl (fun b11 => ?_)
  refine wpl_q (q_pure rfl) rfl <| wpl_nil <| ex_then <| wpc_seq <| wpc_seq <| wpc_region <| wpl_q (q_pure rfl) rfl <| wpl_nil <| ex_then <| wpc_block ?_
  refine wpc_loopc (ι := { x : Nat × Value // (x.1 ≤ widF f) ∧ (SV x.2 x.1) }) [(3, _), (6, _)] (fun x Lc => (7, .int .i64 ((x.1.1 : Nat) : Int)) :: (5, x.1.2) :: Lc) (fun x => Mem w [] [.row x.1.2 x.1.1 3 1 (vns (bitsF (widF f) hi lo x.1.1)), .blk b3 24 (adL hi lo)] []) (fun x => widF f - x.1.1) ⟨(0, .slice none 0 0), ⟨Nat.zero_le _, SV.nil⟩⟩ zz10 ?_ ?_
  ·
   exact fun w1 h => (show Mem w [] [.row (.slice none 0 0) 0 3 1 [], .blk b3 24 (adL hi lo)] [] w1 from h.nilRow 3 1)
  ·
   rintro ⟨⟨i, bv⟩, ⟨hi0, hi1⟩⟩; try dsimp only
   have hi0 : i ≤ widF f := hi0; have hi1 : SV bv i := hi1
   refine wpc_seq <| wpc_seq <| wpc_region <| wpl_q (q_pure rfl) rfl <| wpl_q (q_pure rfl) rfl <| wpl_q (q_pure rfl) rfl <| wpl_nil <| ex_then ?_
   refine wpc_cond rfl (fun hc14 => ?_) (fun hc14 => ?_)
   ·
    simp only [decide_eq_true_eq] at hc14
    have hiw : i < widF f := by omega
    refine wpc_skip <| ex_then <| wpc_seq <| wpc_block <| wpc_seq <| wpc_region <| wpl_q (q_pure rfl) rfl ?_
    refine wpl_q (q_subN (b := 1) rfl rfl zz14 zz1) rfl ?_
    refine wpl_q (q_pure rfl) rfl ?_
    refine wpl_q (q_subN rfl rfl zz14 zz1) rfl ?_
    refine wpl_q (q_pure rfl) rfl <| wpl_nil <| ex_then <| wpc_seq <| wpc_region <| wpl_q (q_field Tryd.underlying24 rfl Tryd.ti22 rfl rfl _ rfl) rfl ?_
    refine wpl_q (q_ld Tryd.underlying22 rfl rfl zz35) rfl ?_
    refine wpl_q (q_pure rfl) rfl <| wpl_nil <| ex_then <| wpc_seq <| wpc_seq <| wpc_region <| wpl_q (q_pure rfl) rfl <| wpl_q (q_pure rfl) rfl <| wpl_nil <| ex_then ?_
    refine wpc_cond rfl (fun hc24 => ?_) (fun hc24 => ?_)
    ·
     simp only [decide_eq_true_eq] at hc24
     have hbf : bitF hi lo (widF f - 1 - i) = hi.toNat / 2 ^ (widF f - 1 - i - 64) % 2 := by rw [bitF, if_pos zz14]
     refine wpc_seq <| wpc_region <| wpl_q (q_field Tryd.underlying24 rfl Tryd.ti22 rfl rfl _ rfl) rfl ?_
     refine wpl_q (q_ld Tryd.underlying22 rfl rfl zz35) rfl ?_
     refine wpl_q (q_pure rfl) rfl <| wpl_nil <| ex_then <| wpc_region <| wpl_q (q_pure rfl) rfl ?_
     refine wpl_q (q_subN (b := 64) rfl rfl zz14 zz1) rfl ?_
     refine wpl_q (q_pure rfl) rfl <| wpl_nil <| ex_then <| wpc_region <| wpl_q (q_pure rfl) rfl <| wpl_q (q_pure rfl) rfl <| wpl_q (q_pure rfl) rfl ?_
     refine wpl_t (t_pur Tryd.hb91 rfl fun w h => refPower1 _ w zz14) rfl (fun b32 => ?_)
     refine wpl_q (q64_quo rfl rfl (powU_ne zz14)) rfl ?_
     refine wpl_q (q64_rem (b := (2 : UInt64)) rfl rfl zz19) rfl ?_
     refine wpl_q (q64_intN Tryd.underlying22 Tryd.underlying3 rfl (by rw [bit_u _ zz14]; omega)) rfl ?_
     refine wpl_re 35 rfl (congrArg (fun n : Nat => Value.int .i64 (n : Int)) (show _ = bitF hi lo (widF f - 1 - i) by rw [hbf]; exact bit_u _ zz14)) ?_
     refine wpl_tp (t_bsV (vns [_]) Tryd.underlying124 Tryd.ti3 rfl rfl zz19 zz19 rfl (vns_one _)) rfl (fun b36 p36 => ?_)
     refine wpl_tp (t_apW Tryd.underlying124 Tryd.ti3 rfl zz19 rfl rfl (fun w h => zz11) (vns_one _) zz1 zz1 (vns (bitsF (widF f) hi lo (i + 1))) (by rw [bitsF_succ]; exact (vns_append _ _).symm)) rfl (fun b37 p37 => ?_)
     refine wpl_q (q_pure rfl) rfl <| wpl_nil <| ex_block <| ex_then <| wpc_region <| wpl_q (q_pure rfl) rfl ?_
     refine wpl_q (q_addN (b := 1) rfl rfl zz1) rfl ?_
     refine wpl_q (q_pure rfl) rfl <| wpl_nil ?_
     refine ex_again ⟨(i + 1, b37), ⟨zz59, p37⟩⟩ ?_ ?_ ?_
     ·
      exact zz10
     ·
      exact fun w h => by
        dsimp only
        exact h.sel
     ·
      (show widF f - (i + 1) < widF f - i); omega
    ·
     simp only [decide_eq_false_iff_not] at hc24
     have hbf : bitF hi lo (widF f - 1 - i) = lo.toNat / 2 ^ (widF f - 1 - i) % 2 := by rw [bitF, if_neg zz14]
     refine wpc_skip <| ex_then <| wpc_region <| wpl_q (q_pure rfl) rfl <| wpl_q (q_pure rfl) rfl <| wpl_q (q_pure rfl) rfl ?_
     refine wpl_t (t_pur Tryd.hb91 rfl fun w h => refPower1 _ w zz14) rfl (fun b32 => ?_)
     refine wpl_q (q64_quo rfl rfl (powU_ne zz14)) rfl ?_
     refine wpl_q (q64_rem (b := (2 : UInt64)) rfl rfl zz19) rfl ?_
     refine wpl_q (q64_intN Tryd.underlying22 Tryd.underlying3 rfl (by rw [bit_u _ zz14]; omega)) rfl ?_
     refine wpl_re 35 rfl (congrArg (fun n : Nat => Value.int .i64 (n : Int)) (show _ = bitF hi lo (widF f - 1 - i) by rw [hbf]; exact bit_u _ zz14)) ?_
     refine wpl_tp (t_bsV (vns [_]) Tryd.underlying124 Tryd.ti3 rfl rfl zz19 zz19 rfl (vns_one _)) rfl (fun b36 p36 => ?_)
     refine wpl_tp (t_apW Tryd.underlying124 Tryd.ti3 rfl zz19 rfl rfl (fun w h => zz11) (vns_one _) zz1 zz1 (vns (bitsF (widF f) hi lo (i + 1))) (by rw [bitsF_succ]; exact (vns_append _ _).symm)) rfl (fun b37 p37 => ?_)
     refine wpl_q (q_pure rfl) rfl <| wpl_nil <| ex_block <| ex_then <| wpc_region <| wpl_q (q_pure rfl) rfl ?_
     refine wpl_q (q_addN (b := 1) rfl rfl zz1) rfl ?_
     refine wpl_q (q_pure rfl) rfl <| wpl_nil ?_
     refine ex_again ⟨(i + 1, b37), ⟨zz59, p37⟩⟩ ?_ ?_ ?_
     ·
      exact zz10
     ·
      exact fun w h => by
        dsimp only
        exact h.sel
     ·
      (show widF f - (i + 1) < widF f - i); omega
   ·
    simp only [decide_eq_false_iff_not] at hc14
    obtain rfl : i = widF f := by omega
    refine wpc_exit ?_
    refine ex_then_exit ?_
    refine ex_then_exit ?_
    refine ex_block_hit ?_
    refine ex_then <| wpc_seq <| wpc_region <| wpl_q (q_pure rfl) rfl <| wpl_q (q_pure rfl) rfl <| wpl_nil <| ex_then <| wpc_ret ?_
    refine ret1 (.inl rfl) rfl rfl ?_
    exact fun w h => ⟨bv, hi1, rfl, h.below, h.made (.keep .nil) .nil⟩
theorem refCheck1 (f : UInt8) (hi lo : UInt64) (ln : Int) (w : World)   :
    Calls Tryd.prog 44 [.agg (pfL f hi lo ln).toArray].toArray w (Pur w (.int .i64 (pfxF f hi lo ln))) := by
  have hwl := widF_le f
  refine enter (m := 45) (R := Mem w [] [] []) Tryd.func44 rfl rfl (Nat.le_of_ble_eq_true rfl) (Mem.start w) ?_
  refine wpc_seq <| wpc_region ?_
  refine wpl_t (t_box rfl (pfL f hi lo ln) rfl) rfl (fun b1 => ?_)
  refine wpl_q (q_pure rfl) rfl <| wpl_nil <| ex_then <| wpc_seq <| wpc_region <| wpl_q (q_field Tryd.underlying26 rfl Tryd.ti5 rfl rfl _ rfl) rfl ?_
  refine wpl_q (q_ld Tryd.underlying5 rfl rfl zz38) rfl ?_
  refine wpl_t (t_pur (v := .int .i64 ((widF f : Nat) : Int)) Tryd.hb66 rfl fun w h => refWidth f w) rfl (fun b8 => ?_)
  refine wpl_q (q_pure rfl) rfl <| wpl_nil <| ex_then <| wpc_seq <| wpc_seq <| wpc_region <| wpl_q (q_pure rfl) rfl <| wpl_q (q_pure rfl) rfl <| wpl_nil <| ex_then ?_
  refine wpc_cond rfl (fun hc10 => ?_) (fun hc10 => ?_)
  ·
   have hw0 : widF f = 0 := by simpa using hc10
   have hR : pfxF f hi lo ln = 2 := by rw [pfxF, if_pos hw0]
   refine wpc_seq <| wpc_region <| wpl_q (q_pure rfl) rfl <| wpl_nil <| ex_then <| wpc_ret ?_
   refine ex_then_ret ?_
   refine ret1 (.inl rfl) rfl rfl ?_
   exact fun w h => ⟨by rw [hR], h.below⟩
  ·
   have hw0 : ¬ widF f = 0 := by simpa using hc10
   refine wpc_skip <| ex_then <| wpc_seq <| wpc_seq <| wpc_region <| wpl_q (q_field Tryd.underlying26 rfl Tryd.ti5 rfl rfl _ rfl) rfl ?_
   refine wpl_q (q_ld Tryd.underlying5 rfl rfl zz38) rfl ?_
   refine wpl_q (q_field Tryd.underlying26 rfl Tryd.ti24 rfl rfl _ rfl) rfl ?_
   refine wpl_q (q_ldP Tryd.underlying24 rfl Tryd.ti24 rfl (adL hi lo) rfl zz2) rfl ?_
   refine wpl_t (t_pur Tryd.hb67 rfl fun w h => refCheckAddr f hi lo w) rfl (fun b15 => ?_)
   refine wpl_q (q_pure rfl) rfl <| wpl_q (q_pure rfl) rfl ?_
   refine wpl_bool2 17 16 rfl rfl (fun hb17 => ?_) (fun hb17 => ?_)
   ·
    have hca : caF f hi lo = false := by simpa using hb17
    have hR : pfxF f hi lo ln = 8 := by rw [pfxF, if_neg hw0, if_pos (.inl hca)]
    refine wpl_off rfl rfl rfl rfl <| wpl_off rfl rfl rfl rfl <| wpl_off rfl rfl rfl rfl <| wpl_q (q_pure rfl) rfl <| wpl_q (q_pure rfl) rfl <| wpl_off rfl rfl rfl rfl <| wpl_off rfl rfl rfl rfl <| wpl_off rfl rfl rfl rfl <| wpl_off rfl rfl rfl rfl <| wpl_q (q_pure rfl) rfl <| wpl_nil <| ex_then ?_
    refine wpc_cond_t rfl ?_
    refine wpc_seq <| wpc_region <| wpl_q (q_pure rfl) rfl <| wpl_nil <| ex_then <| wpc_ret ?_
    refine ex_then_ret ?_
    refine ret1 (.inl rfl) rfl rfl ?_
    exact fun w h => ⟨by rw [hR], h.below⟩
   ·
    have hca : caF f hi lo = true := by simpa using hb17
    refine wpl_on rfl rfl <| wpl_q (q_field Tryd.underlying26 rfl Tryd.ti3 rfl rfl _ rfl) rfl <| wpl_on rfl rfl ?_
    refine wpl_q (q_ld Tryd.underlying3 rfl rfl zz34) rfl ?_
    refine wpl_on rfl rfl <| wpl_q (q_pure rfl) rfl <| wpl_q (q_pure rfl) rfl <| wpl_q (q_pure rfl) rfl ?_
    refine wpl_bool2 22 20 rfl rfl (fun hb22 => ?_) (fun hb22 => ?_)
    ·
     try simp only [decide_eq_true_eq] at hb22
     have hR : pfxF f hi lo ln = 8 := by rw [pfxF, if_neg hw0, if_pos (.inr (.inl hb22))]
     refine wpl_off rfl rfl rfl rfl <| wpl_off rfl rfl rfl rfl <| wpl_off rfl rfl rfl rfl <| wpl_off rfl rfl rfl rfl <| wpl_q (q_pure rfl) rfl <| wpl_nil <| ex_then ?_
     refine wpc_cond_t rfl ?_
     refine wpc_seq <| wpc_region <| wpl_q (q_pure rfl) rfl <| wpl_nil <| ex_then <| wpc_ret ?_
     refine ex_then_ret ?_
     refine ret1 (.inl rfl) rfl rfl ?_
     exact fun w h => ⟨by rw [hR], h.below⟩
    ·
     try simp only [decide_eq_false_iff_not] at hb22
     refine wpl_on rfl rfl <| wpl_q (q_field Tryd.underlying26 rfl Tryd.ti3 rfl rfl _ rfl) rfl <| wpl_on rfl rfl ?_
     refine wpl_q (q_ld Tryd.underlying3 rfl rfl zz34) rfl ?_
     refine wpl_on rfl rfl <| wpl_q (q_pure rfl) rfl <| wpl_on rfl rfl <| wpl_q (q_pure rfl) rfl <| wpl_q (q_pure rfl) rfl <| wpl_nil <| ex_then ?_
     refine wpc_cond rfl (fun hc27 => ?_) (fun hc27 => ?_)
     ·
      simp only [decide_eq_true_eq] at hc27
      have hR : pfxF f hi lo ln = 8 := by rw [pfxF, if_neg hw0, if_pos (.inr (.inr zz14))]
      refine wpc_seq <| wpc_region <| wpl_q (q_pure rfl) rfl <| wpl_nil <| ex_then <| wpc_ret ?_
      refine ex_then_ret ?_
      refine ret1 (.inl rfl) rfl rfl ?_
      exact fun w h => ⟨by rw [hR], h.below⟩
     ·
      simp only [decide_eq_false_iff_not] at hc27
      obtain ⟨k, rfl⟩ : ∃ k : Nat, ln = (k : Int) := ⟨ln.toNat, zz14⟩
      have hB : ¬ (caF f hi lo = false ∨ (k : Int) < 0 ∨ ((widF f : Nat) : Int) < (k : Int)) := by rintro (h | h | h); rw [hca] at h; cases h; exact hb22 h; omega
      refine wpc_skip <| ex_then <| wpc_seq <| wpc_region <| wpl_q (q_field Tryd.underlying26 rfl Tryd.ti5 rfl rfl _ rfl) rfl ?_
      refine wpl_q (q_ld Tryd.underlying5 rfl rfl zz38) rfl ?_
      refine wpl_q (q_field Tryd.underlying26 rfl Tryd.ti24 rfl rfl _ rfl) rfl ?_
      refine wpl_q (q_ldP Tryd.underlying24 rfl Tryd.ti24 rfl (adL hi lo) rfl zz2) rfl ?_
      refine wpl_tp (t_callP1 Tryd.hb68 rfl fun w h => refBits f hi lo w) rfl (fun b32 p32 => ?_)
      refine wpl_q (q_pure rfl) rfl <| wpl_nil <| ex_then <| wpc_seq <| wpc_seq <| wpc_region <| wpl_q (q_field Tryd.underlying26 rfl Tryd.ti3 rfl rfl _ rfl) rfl ?_
      refine wpl_q (q_ld Tryd.underlying3 rfl rfl zz34) rfl ?_
      refine wpl_q (q_pure rfl) rfl <| wpl_nil <| ex_then <| wpc_block ?_
      refine wpc_loopc (ι := { x : Nat // (k ≤ x) ∧ (x ≤ widF f) ∧ (∀ j, k ≤ j → j < x → bitF hi lo (widF f - 1 - j) = 0) }) [(3, _), (4, _)] (fun x Lc => (5, .int .i64 ((x.1 : Nat) : Int)) :: Lc) (fun x => Mem w [] [.row b32 (widF f) 3 1 (vns (bitsF (widF f) hi lo (widF f))), .blk b1 26 (pfL f hi lo (k : Int))] []) (fun x => widF f - x.1) ⟨k, ⟨Nat.le_refl _, zz14, fun j h1 h2 => zz14⟩⟩ zz10 ?_ ?_
      ·
       exact fun w h => h
      ·
       rintro ⟨i, ⟨hi0, hi1, hi2⟩⟩; try dsimp only
       have hi0 : k ≤ i := hi0; have hi1 : i ≤ widF f := hi1; have hi2 : ∀ j, k ≤ j → j < i → bitF hi lo (widF f - 1 - j) = 0 := hi2
       refine wpc_seq <| wpc_seq <| wpc_region <| wpl_q (q_pure rfl) rfl <| wpl_q (q_pure rfl) rfl <| wpl_q (q_pure rfl) rfl <| wpl_nil <| ex_then ?_
       refine wpc_cond rfl (fun hc37 => ?_) (fun hc37 => ?_)
       ·
        simp only [decide_eq_true_eq] at hc37
        have hiw : i < widF f := by omega
        refine wpc_skip <| ex_then <| wpc_seq <| wpc_block <| wpc_seq <| wpc_region <| wpl_q (q_pure rfl) rfl <| wpl_q (q_pure rfl) rfl ?_
        refine wpl_q (q_idxW1 Tryd.underlying124 Tryd.ti3 rfl rfl zz4 zz1) rfl ?_
        refine wpl_q (q_ldW Tryd.underlying3 rfl rfl (fun w h => zz11) (vns_get (by rw [bitsF_len]; exact hiw))) rfl ?_
        refine wpl_q (q_pure rfl) rfl <| wpl_nil <| ex_then ?_
        refine wpc_cond rfl (fun hc44 => ?_) (fun hc44 => ?_)
        ·
         have hnz : ¬ bitF hi lo (widF f - 1 - i) = 0 := by rw [← bitsF_get (widF f) hi lo hiw]; intro e; rw [e] at hc44; simp at hc44
         have hR : pfxF f hi lo (k : Int) = 8 := by rw [pfxF, if_neg hw0, if_neg hB, if_neg (fun h => hnz (h _ (by rw [Int.toNat_natCast]; omega)))]
         refine wpc_seq <| wpc_region <| wpl_q (q_pure rfl) rfl <| wpl_nil <| ex_then <| wpc_ret ?_
         refine ex_block_ret ?_
         refine ex_then_ret ?_
         refine ex_then_ret ?_
         refine ex_block_ret ?_
         refine ex_then_ret ?_
         refine ret1 (.inl rfl) rfl rfl ?_
         exact fun w h => ⟨by rw [hR], h.below⟩
        ·
         have hz : bitF hi lo (widF f - 1 - i) = 0 := by rw [← bitsF_get (widF f) hi lo hiw]; simpa using hc44
         refine wpc_skip <| ex_block <| ex_then <| wpc_region <| wpl_q (q_pure rfl) rfl ?_
         refine wpl_q (q_addN (b := 1) rfl rfl zz1) rfl ?_
         refine wpl_q (q_pure rfl) rfl <| wpl_nil ?_
         refine ex_again ⟨i + 1, ⟨zz14, zz14, fun j h1 h2 => by rcases Nat.lt_or_ge j i with h | h; exact hi2 j h1 h; obtain rfl : j = i := zz14; exact hz⟩⟩ ?_ ?_ ?_
         ·
          exact zz10
         ·
          exact fun w h => h
         ·
          (show widF f - (i + 1) < widF f - i); omega
       ·
        simp only [decide_eq_false_iff_not] at hc37
        have hR : pfxF f hi lo (k : Int) = 0 := by
          rw [pfxF, if_neg hw0, if_neg hB, if_pos]
          rw [Int.toNat_natCast]
          intro j hj
          have q := hi2 (widF f - 1 - j) zz14 zz14
          rwa [show widF f - 1 - (widF f - 1 - j) = j from zz14] at q
        refine wpc_exit ?_
        refine ex_then_exit ?_
        refine ex_then_exit ?_
        refine ex_block_hit ?_
        refine ex_then <| wpc_seq <| wpc_region <| wpl_q (q_pure rfl) rfl <| wpl_nil <| ex_then <| wpc_ret ?_
        refine ret1 (.inl rfl) rfl rfl ?_
        exact fun w h => ⟨by rw [hR], h.below⟩
end Go.Proofs.YtjpfhkjmjnjggaaDoor
namespace Go.Proofs.YtjpfhkjmjnjggaaDoor
open Go Go.PL Go.RowKit
abbrev S16 := { l : List UInt8 // l.length = 16 }
structure Hop where
  sy : UInt32
  cnt : UInt8
  fl : UInt8
  to : UInt32
  root : S16
  ht : Int
  ix : Int
  cv : Value
  chs : List (List UInt8)
  pv : Value
  ps : List (List UInt8)
def Hop.z : Hop := ⟨0, 0, 0, 0, ⟨List.replicate 16 0, rfl⟩, 0, 0, .slice none 0 0, [], .slice none 0 0, []⟩
def Hop.key (h : Hop) : List Value := v8s h.root.1 ++ [.int .i64 h.ht]
def Hop.sig (h : Hop) : List Value := [.int .i64 h.ix, h.cv, h.pv]
def Hop.c (h : Hop) : List Value := .int .u32 (h.sy.toNat : Int) :: .int .u8 (h.cnt.toNat : Int) :: .int .u8 (h.fl.toNat : Int) :: .int .u32 (h.to.toNat : Int) :: (v8s h.root.1 ++ [.int .i64 h.ht, .int .i64 h.ix, h.cv, h.pv])
theorem S16.len (r : S16) : (v8s r.1).length = 16 := by rw [v8s_length, r.2]
theorem Hop.c_length (h : Hop) : h.c.length = 24 := by simp [Hop.c, v8s_length, h.root.2]
instance lenC_hop {h : Hop} : LenC h.c 24 := ⟨h.c_length⟩
theorem Hop.c_sy (h : Hop) : h.c[0]? = some (.int .u32 (h.sy.toNat : Int)) := rfl
theorem Hop.c_cnt (h : Hop) : h.c[1]? = some (.int .u8 (h.cnt.toNat : Int)) := rfl
theorem Hop.c_fl (h : Hop) : h.c[2]? = some (.int .u8 (h.fl.toNat : Int)) := rfl
theorem Hop.c_to (h : Hop) : h.c[3]? = some (.int .u32 (h.to.toNat : Int)) := rfl
theorem Hop.c_at (h : Hop) (j : Nat) : h.c[20 + j]? = ([.int .i64 h.ht, .int .i64 h.ix, h.cv, h.pv] : List Value)[j]? := by
  have e : 20 + j = (v8s h.root.1).length + j + 4 := by rw [S16.len]; omega
  rw [e]
  show (v8s h.root.1 ++ [.int .i64 h.ht, .int .i64 h.ix, h.cv, h.pv])[(v8s h.root.1).length + j]? = _
  rw [List.getElem?_append_right zz14]
  congr 1
  omega
theorem Hop.c_ht (h : Hop) : h.c[20]? = some (.int .i64 h.ht) := h.c_at 0
theorem Hop.c_ix (h : Hop) : h.c[21]? = some (.int .i64 h.ix) := h.c_at 1
theorem Hop.c_cv (h : Hop) : h.c[22]? = some h.cv := h.c_at 2
theorem Hop.c_pv (h : Hop) : h.c[23]? = some h.pv := h.c_at 3
theorem Hop.c_drop4 (h : Hop) : h.c.drop 4 = v8s h.root.1 ++ [.int .i64 h.ht, .int .i64 h.ix, h.cv, h.pv] := rfl
theorem Hop.c_root (h : Hop) : (h.c.drop 4).take 16 = v8s h.root.1 := by rw [h.c_drop4, List.take_left' (S16.len _)]
theorem Hop.c_key (h : Hop) : (h.c.drop 4).take 17 = h.key := by
  rw [h.c_drop4, List.take_append, S16.len, List.take_of_length_le (by rw [S16.len]; decide)]; rfl
theorem Hop.c_sig (h : Hop) : (h.c.drop 21).take 3 = h.sig := by
  have e : h.c.drop 21 = (h.c.drop 4).drop 17 := by rw [List.drop_drop]
  rw [e, h.c_drop4, show 17 = (v8s h.root.1).length + 1 by rw [S16.len], ← List.drop_drop, List.drop_left]; rfl
theorem Hop.key_length (h : Hop) : h.key.length = 17 := by rw [Hop.key, List.length_append, S16.len]; rfl
def Hop.sv (h : Hop) : Prop := SV h.cv h.chs.length ∧ SV h.pv h.ps.length
theorem Hop.sv.one {h : Hop} (hs : h.sv) : OneC h.c := ⟨by
  intro u hu
  simp only [Hop.c, List.mem_cons, List.mem_append, List.not_mem_nil, or_false] at hu
  rcases hu with rfl | rfl | rfl | rfl | hu | rfl | rfl | rfl | rfl
  · rfl
  · rfl
  · rfl
  · rfl
  · exact v8s_one _ u hu
  · rfl
  · rfl
  · exact hs.1.one
  · exact hs.2.one⟩
def Hop.seen (r : Rd) (h : Hop) : Prop := Seen r h.cv h.chs.length 16 (v8s h.chs.flatten) ∧ (∀ x ∈ h.chs, x.length = 16) ∧ Seen r h.pv h.ps.length 16 (v8s h.ps.flatten) ∧ ∀ x ∈ h.ps, x.length = 16
theorem Hop.seen.sv {r : Rd} {h : Hop} (hs : h.seen r) : h.sv := ⟨hs.1.sv, hs.2.2.1.sv⟩
theorem Hop.seen.mono {r r' : Rd} (hr : ∀ a v, r a = some v → r' a = some v) {h : Hop} (hs : h.seen r) : h.seen r' := ⟨hs.1.mono hr, hs.2.1, hs.2.2.1.mono hr, hs.2.2.2⟩
abbrev hcs (l : List Hop) : List Value := (l.map Hop.c).flatten
theorem getD_memO {l : List Hop} {i : Nat} (h : i < l.length) : l.getD i Hop.z ∈ l := by
  rw [List.getD_eq_getElem?_getD, List.getElem?_eq_getElem h]; exact List.getElem_mem h
structure Pth where
  pf : UInt8
  pa : UInt64
  pb : UInt64
  pl : Int
  hv : Value
  hs : List Hop
def Pth.c (p : Pth) : List Value := [.int .u8 (p.pf.toNat : Int), .int .u64 (p.pa.toNat : Int), .int .u64 (p.pb.toNat : Int), .int .i64 p.pl, p.hv]
def Pth.z : Pth := ⟨0, 0, 0, 0, .slice none 0 0, []⟩
def Pth.sv (p : Pth) : Prop := SV p.hv p.hs.length
theorem Pth.sv.one {p : Pth} (h : p.sv) : OneC p.c := OneC.cons rfl (OneC.cons rfl (OneC.cons rfl (OneC.cons rfl (OneC.cons (SV.one h) oneC_nil))))
instance oneC_pthz : OneC Pth.z.c := Pth.sv.one SV.nil
def Pth.seen (r : Rd) (p : Pth) : Prop := Seen r p.hv p.hs.length 24 (hcs p.hs) ∧ ∀ h ∈ p.hs, h.seen r
theorem Pth.seen.mono {r r' : Rd} (hr : ∀ a v, r a = some v → r' a = some v) {p : Pth} (hs : p.seen r) : p.seen r' := ⟨hs.1.mono hr, fun h hh => (hs.2 h hh).mono hr⟩
theorem Pth.seen.old {w0 w : World} {M : List Ent} {S : List Fact} {p : Pth} (hs : p.seen w0.cell?) (h : Mem w0 [] M S w) : p.seen w.cell? := hs.mono fun _ _ hc => h.cell_old hc
theorem Hop.seen.old {w0 w : World} {M : List Ent} {S : List Fact} {p : Hop} (hs : p.seen w0.cell?) (h : Mem w0 [] M S w) : p.seen w.cell? := hs.mono fun _ _ hc => h.cell_old hc
def badH (hs : List Hop) (i : Nat) : Prop := 1 < (hs.getD i Hop.z).fl.toNat ∨ checkF (hs.getD i Hop.z).ht (hs.getD i Hop.z).ix (hs.getD i Hop.z).chs.length (hs.getD i Hop.z).ps.length ≠ 0 ∨ (0 < i ∧ (hs.getD i Hop.z).sy ≠ (hs.getD (i - 1) Hop.z).to)
instance {hs : List Hop} {i : Nat} : Decidable (badH hs i) := by unfold badH; exact inferInstance
def chkP (p : Pth) : Int := if 30 < p.hs.length then 4 else if pfxF p.pf p.pa p.pb p.pl ≠ 0 then pfxF p.pf p.pa p.pb p.pl else if p.hs.length = 0 ∨ ¬ (∀ i, i < p.hs.length → ¬ badH p.hs i) then 8 else 0
end Go.Proofs.YtjpfhkjmjnjggaaDoor
namespace Go.Proofs.YtjpfhkjmjnjggaaDoor
open Go Go.PL Go.RowKit
section
variable {H : Type} {enc : TypeId × Value → H} {w : World} {base : Nat} {sp : Nat → Bool} {held : Bool}
theorem opensAddr : Opens enc Tryd.prog w base sp held 24 (fun (a : UInt64 × UInt64) c _ => c = adL a.1 a.2) := by
  intro n c y h
  obtain ⟨⟨a, b, _⟩, x0, y0, d0, e0, h0, x1, y1, d1, e1, h1, h2⟩ := opens_struct Tryd.underlying24 (fin := 2) zz6 (OpensFs.cons (s := 1) rfl zz6 (opens_u64 Tryd.underlying22) (OpensFs.cons (s := 1) rfl zz6 (opens_u64 Tryd.underlying22) (OpensFs.nil _))) n c y h
  dsimp only at h0 h1 h2
  refine ⟨(a, b), ?_⟩
  rw [e0, e1, h0, h1, h2]; rfl
theorem opensPfx : Opens enc Tryd.prog w base sp held 26 (fun (a : UInt8 × UInt64 × UInt64 × Int) c _ => c = pfL a.1 a.2.1 a.2.2.1 a.2.2.2) := by
  intro n c y h
  obtain ⟨⟨f, ⟨a, b⟩, l, _⟩, x0, y0, d0, e0, h0, x1, y1, d1, e1, h1, x2, y2, d2, e2, h2, h3⟩ := opens_struct Tryd.underlying26 (fin := 4) zz6 (OpensFs.cons (s := 1) rfl zz6 (opens_u8 Tryd.underlying5) (OpensFs.cons (s := 2) rfl zz6 opensAddr (OpensFs.cons (s := 1) rfl zz6 (opens_i64 Tryd.underlying3) (OpensFs.nil _)))) n c y h
  dsimp only at h0 h1 h2 h3
  refine ⟨(f, a, b, l), ?_⟩
  rw [e0, e1, e2, h0, h1, h2.1, h3]; rfl
theorem opensKey : Opens enc Tryd.prog w base sp held 63 (fun (a : S16 × Int) c _ => c = v8s a.1.1 ++ [.int .i64 a.2]) := by
  intro n c y h
  obtain ⟨⟨r, t, _⟩, x0, y0, d0, e0, h0, x1, y1, d1, e1, h1, h2⟩ := opens_struct Tryd.underlying63 (fin := 17) zz6 (OpensFs.cons (s := 16) rfl zz6 (opens_arr Tryd.underlying61 zz6 zz6 (opens_u8 Tryd.underlying5)) (OpensFs.cons (s := 1) rfl zz6 (opens_i64 Tryd.underlying3) (OpensFs.nil _))) n c y h
  dsimp only at h0 h1 h2
  have e : c = v8s r ++ [.int .i64 t] := by rw [e0, e1, h0.1, h1.1, h2]; rfl
  exact ⟨(⟨r, h0.2⟩, t), e⟩
abbrev VL := Value × List (List UInt8)
theorem opensSig : Opens enc Tryd.prog w base sp held 66 (fun (a : Int × VL × VL) c _ => c = [.int .i64 a.1, a.2.1.1, a.2.2.1] ∧ (Seen w.cell? a.2.1.1 a.2.1.2.length 16 (v8s a.2.1.2.flatten) ∧ ∀ x ∈ a.2.1.2, x.length = 16) ∧ Seen w.cell? a.2.2.1 a.2.2.2.length 16 (v8s a.2.2.2.flatten) ∧ ∀ x ∈ a.2.2.2, x.length = 16) := by
  intro n c y h
  obtain ⟨⟨i, p, q, _⟩, x0, y0, d0, e0, h0, x1, y1, d1, e1, h1, x2, y2, d2, e2, h2, h3⟩ := opens_struct Tryd.underlying66 (fin := 3) zz6 (OpensFs.cons (s := 1) rfl zz6 (opens_i64 Tryd.underlying3) (OpensFs.cons (s := 1) rfl zz6 (opens_arrs Tryd.underlying64 Tryd.underlying61 Tryd.underlying5 zz6 zz6) (OpensFs.cons (s := 1) rfl zz6 (opens_arrs Tryd.underlying64 Tryd.underlying61 Tryd.underlying5 zz6 zz6) (OpensFs.nil _)))) n c y h
  dsimp only at h0 h1 h2 h3
  refine ⟨(i, p, q), ?_, ⟨h1.2.1, h1.2.2⟩, h2.2.1, h2.2.2⟩
  rw [e0, e1, e2, h0.1, h1.1, h2.1, h3]; rfl
theorem opensHop : Opens enc Tryd.prog w base sp held 68 (fun (a : Hop) c _ => c = a.c ∧ a.seen w.cell?) := by
  intro n c y h
  obtain ⟨⟨sy, cnt, fl, to, ⟨r, t⟩, ⟨i, p, q⟩, _⟩, x0, y0, d0, e0, h0, x1, y1, d1, e1, h1, x2, y2, d2, e2, h2, x3, y3, d3, e3, h3, x4, y4, d4, e4, h4, x5, y5, d5, e5, h5, h6⟩ := opens_struct Tryd.underlying68 (fin := 24) zz6 (OpensFs.cons (s := 1) rfl zz6 (opens_u32 Tryd.underlying49) (OpensFs.cons (s := 1) rfl zz6 (opens_u8 Tryd.underlying5) (OpensFs.cons (s := 1) rfl zz6 (opens_u8 Tryd.underlying5) (OpensFs.cons (s := 1) rfl zz6 (opens_u32 Tryd.underlying49) (OpensFs.cons (s := 17) rfl zz6 opensKey (OpensFs.cons (s := 3) rfl zz6 opensSig (OpensFs.nil _))))))) n c y h
  dsimp only at h0 h1 h2 h3 h4 h5 h6
  refine ⟨⟨sy, cnt, fl, to, r, t, i, p.1, p.2, q.1, q.2⟩, ?_, h5.2.1.1, h5.2.1.2, h5.2.2.1, h5.2.2.2⟩
  rw [e0, e1, e2, e3, e4, e5, h0, h1, h2, h3, h4, h5.1, h6]
  simp [Hop.c]
theorem opensHops : Opens enc Tryd.prog w base sp held 27 (fun (p : Value × List Hop) c _ => c = [p.1] ∧ Seen w.cell? p.1 p.2.length 24 (hcs p.2) ∧ ∀ h ∈ p.2, h.seen w.cell?) := by
  intro n cs y h
  obtain ⟨⟨v, qs⟩, h1, h2, h3, _⟩ := opens_slice Tryd.underlying27 (sz := 24) zz6 opensHop n cs y h
  refine ⟨(v, qs.map (·.1)), h1, ?_, fun h hh => ?_⟩
  · have e : (qs.map (·.2.1)).flatten = hcs (qs.map (·.1)) := by
      rw [hcs, List.map_map]
      congr 1
      exact List.map_congr_left fun q hq => (h3 q hq).1.1
    dsimp only at h2 ⊢
    rw [List.length_map, ← e]; exact h2
  · obtain ⟨q, hq, rfl⟩ := List.mem_map.1 hh
    exact (h3 q hq).1.2
theorem opensPth : Opens enc Tryd.prog w base sp held 29 (fun (a : Pth) c _ => c = a.c ∧ a.seen w.cell?) := by
  intro n c y h
  obtain ⟨⟨⟨f, a, b, l⟩, ⟨v, hs⟩, _⟩, x0, y0, d0, e0, h0, x1, y1, d1, e1, h1, h2⟩ := opens_struct Tryd.underlying29 (fin := 5) zz6 (OpensFs.cons (s := 4) rfl zz6 opensPfx (OpensFs.cons (s := 1) rfl zz6 opensHops (OpensFs.nil _))) n c y h
  dsimp only at h0 h1 h2
  refine ⟨⟨f, a, b, l, v, hs⟩, ?_, h1.2.1, h1.2.2⟩
  rw [e0, e1, h0, h1.1, h2]; rfl
end
end Go.Proofs.YtjpfhkjmjnjggaaDoor
namespace Go.Proofs.YtjpfhkjmjnjggaaDoor
open Go Go.PL Go.RowKit
theorem chk_many {p : Pth} (h : 30 < p.hs.length) : chkP p = 4 := if_pos h
theorem chk_pfx {p : Pth} (h : ¬ 30 < p.hs.length) (h2 : pfxF p.pf p.pa p.pb p.pl ≠ 0) : chkP p = pfxF p.pf p.pa p.pb p.pl := (if_neg h).trans (if_pos h2)
theorem chk_none {p : Pth} (h : ¬ 30 < p.hs.length) (h2 : ¬ pfxF p.pf p.pa p.pb p.pl ≠ 0) (h3 : p.hs.length = 0) : chkP p = 8 := (if_neg h).trans ((if_neg h2).trans (if_pos (.inl h3)))
theorem chk_bad {p : Pth} (h : ¬ 30 < p.hs.length) (h2 : ¬ pfxF p.pf p.pa p.pb p.pl ≠ 0) {i : Nat} (hi : i < p.hs.length) (h3 : badH p.hs i) : chkP p = 8 := (if_neg h).trans ((if_neg h2).trans (if_pos (.inr fun hh => hh i hi h3)))
theorem chk_ok {p : Pth} (h : ¬ 30 < p.hs.length) (h2 : ¬ pfxF p.pf p.pa p.pb p.pl ≠ 0) (h0 : ¬ p.hs.length = 0) (h3 : ∀ i, i < p.hs.length → ¬ badH p.hs i) : chkP p = 0 := (if_neg h).trans ((if_neg h2).trans (if_neg (by rintro (h | h); exact h0 h; exact h h3)))
theorem chk_inv {p : Pth} (h : chkP p = 0) : p.hs.length ≤ 30 ∧ pfxF p.pf p.pa p.pb p.pl = 0 ∧ p.hs.length ≠ 0 ∧ ∀ i, i < p.hs.length → ¬ badH p.hs i := by
  unfold chkP at h
  split at h
  · cases h
  · split at h
    · exact absurd h ‹_›
    · split at h
      · cases h
      · rename_i h1 h2 h3
        rw [not_or, Decidable.not_not] at h3
        exact ⟨zz14, Decidable.not_not.1 h2, h3.1, h3.2⟩
theorem hopCheck (p : Pth) (w : World) (hp : p.seen w.cell?)  :
    Calls Tryd.prog 17 [.agg p.c.toArray].toArray w (Pur w (.int .i64 (chkP p))) := by
  obtain ⟨pf, pa, pb, pl, hv, hs⟩ := p
  have hh : Seen w.cell? hv hs.length 24 (hcs hs) := hp.1
  have hq : ∀ h ∈ hs, h.seen w.cell? := hp.2
  have svh := hh.sv
  have lh := svh.le
  simp only [maxLen] at lh
  refine enter (m := 57) (R := Mem w [] [] []) Tryd.func17 rfl rfl (Nat.le_of_ble_eq_true rfl) (Mem.start w) ?_
  refine wpc_seq <| wpc_region ?_
  refine wpl_t (t_box rfl [.int .u8 (pf.toNat : Int), .int .u64 (pa.toNat : Int), .int .u64 (pb.toNat : Int), .int .i64 pl, hv] rfl) rfl (fun b1 => ?_)
  refine wpl_q (q_pure rfl) rfl <| wpl_nil <| ex_then <| wpc_seq <| wpc_seq <| wpc_region <| wpl_q (q_field Tryd.underlying29 rfl Tryd.ti27 rfl rfl _ rfl) rfl <| wpl_q (q_ld Tryd.underlying27 rfl rfl rfl) rfl ?_
  refine wpl_q (q_lenW Tryd.underlying27 rfl zz4) rfl ?_
  refine wpl_q (q_pure rfl) rfl <| wpl_nil <| ex_then ?_
  refine wpc_cond rfl (fun hc9 => ?_) (fun hc9 => ?_)
  ·
   simp only [decide_eq_true_eq] at hc9
   have hR : chkP ⟨pf, pa, pb, pl, hv, hs⟩ = 4 := chk_many (p := ⟨pf, pa, pb, pl, hv, hs⟩) (by show 30 < hs.length; omega)
   refine wpc_seq <| wpc_region <| wpl_q (q_pure rfl) rfl <| wpl_nil <| ex_then <| wpc_ret ?_
   refine ex_then_ret ?_
   refine ret1 (.inl rfl) rfl rfl ?_
   exact fun w h => ⟨by rw [hR], h.below⟩
  ·
   simp only [decide_eq_false_iff_not] at hc9
   have hn30 : ¬ 30 < hs.length := by omega
   refine wpc_skip <| ex_then <| wpc_seq <| wpc_region <| wpl_q (q_field Tryd.underlying29 rfl Tryd.ti26 rfl rfl _ rfl) rfl ?_
   refine wpl_q (q_ldP Tryd.underlying26 rfl Tryd.ti26 rfl (pfL pf pa pb pl) rfl zz2) rfl ?_
   refine wpl_t (t_pur Tryd.hb42 rfl fun w h => numCheck pf pa pb pl w) rfl (fun b12 => ?_)
   refine wpl_q (q_pure rfl) rfl <| wpl_nil <| ex_then <| wpc_seq <| wpc_seq <| wpc_region <| wpl_q (q_pure rfl) rfl <| wpl_q (q_pure rfl) rfl <| wpl_nil <| ex_then ?_
   refine wpc_cond rfl (fun hc14 => ?_) (fun hc14 => ?_)
   ·
    have hpx : pfxF pf pa pb pl ≠ 0 := by simpa using hc14
    have hR : chkP ⟨pf, pa, pb, pl, hv, hs⟩ = pfxF pf pa pb pl := chk_pfx (p := ⟨pf, pa, pb, pl, hv, hs⟩) hn30 hpx
    refine wpc_seq <| wpc_region <| wpl_q (q_pure rfl) rfl <| wpl_q (q_pure rfl) rfl <| wpl_nil <| ex_then <| wpc_ret ?_
    refine ex_then_ret ?_
    refine ret1 (.inl rfl) rfl rfl ?_
    exact fun w h => ⟨by rw [hR], h.below⟩
   ·
    have hpx : ¬ pfxF pf pa pb pl ≠ 0 := by simpa using hc14
    refine wpc_skip <| ex_then <| wpc_seq <| wpc_seq <| wpc_region <| wpl_q (q_field Tryd.underlying29 rfl Tryd.ti27 rfl rfl _ rfl) rfl <| wpl_q (q_ld Tryd.underlying27 rfl rfl rfl) rfl ?_
    refine wpl_q (q_lenW Tryd.underlying27 rfl zz4) rfl ?_
    refine wpl_q (q_pure rfl) rfl <| wpl_nil <| ex_then ?_
    refine wpc_cond rfl (fun hc19 => ?_) (fun hc19 => ?_)
    ·
     have h0 : hs.length = 0 := by simpa using hc19
     have hR : chkP ⟨pf, pa, pb, pl, hv, hs⟩ = 8 := chk_none (p := ⟨pf, pa, pb, pl, hv, hs⟩) hn30 hpx h0
     refine wpc_seq <| wpc_region <| wpl_q (q_pure rfl) rfl <| wpl_nil <| ex_then <| wpc_ret ?_
     refine ex_then_ret ?_
     refine ret1 (.inl rfl) rfl rfl ?_
     exact fun w h => ⟨by rw [hR], h.below⟩
    ·
     have h0 : ¬ hs.length = 0 := by simpa using hc19
     refine wpc_skip <| ex_then <| wpc_seq <| wpc_seq <| wpc_region <| wpl_q (q_field Tryd.underlying29 rfl Tryd.ti27 rfl rfl _ rfl) rfl <| wpl_q (q_ld Tryd.underlying27 rfl rfl rfl) rfl ?_
     refine wpl_q (q_lenW Tryd.underlying27 rfl zz4) rfl ?_
     refine wpl_q (q_pure rfl) rfl <| wpl_nil <| ex_then <| wpc_block ?_
     refine wpc_loopc (ι := { x : Nat // (x ≤ hs.length) ∧ (∀ j, j < x → ¬ badH hs j) }) [(1, _), (21, _), (22, _)] (fun x Lc => (23, .int .i64 ((x.1 : Nat) : Int)) :: Lc) (fun x => Mem w [] [.blk b1 29 [.int .u8 (pf.toNat : Int), .int .u64 (pa.toNat : Int), .int .u64 (pb.toNat : Int), .int .i64 pl, hv]] []) (fun x => hs.length - x.1) ⟨0, ⟨Nat.zero_le _, fun j hj => zz14⟩⟩ zz10 ?_ ?_
     ·
      exact fun w h => h.sub SubC.h .nil
     ·
      rintro ⟨i, ⟨hi0, hi1⟩⟩; try dsimp only
      have hi0 : i ≤ hs.length := hi0; have hi1 : ∀ j, j < i → ¬ badH hs j := hi1
      refine wpc_seq <| wpc_region <| wpl_q (q_pure rfl) rfl <| wpl_nil <| ex_then <| wpc_seq ?_
      refine wpc_cond rfl (fun hc24 => ?_) (fun hc24 => ?_)
      ·
       simp only [decide_eq_true_eq] at hc24
       have hil : i < hs.length := by omega
       have hsi := hq _ (getD_memO hil)
       haveI := hsi.sv.one
       refine wpc_skip <| ex_then <| wpc_seq <| wpc_block <| wpc_seq <| wpc_region <| wpl_q (q_pure rfl) rfl ?_
       refine wpl_q (q_idxW Tryd.underlying27 Tryd.ti68 rfl rfl zz4 zz1) rfl ?_
       refine wpl_q (q_ldWN Tryd.underlying68 rfl Tryd.ti68 rfl (fun w h => h.seen_old hh) (hs.getD i Hop.z).c (cat_part Hop.c_length Hop.z hil) (Hop.c_length _)) rfl ?_
       refine wpl_t (t_alloc Tryd.ti68 Hop.z.c rfl) rfl (fun b5 => ?_)
       refine wpl_q (q_pure rfl) rfl ?_
       refine wpl_t0 (t_stA Tryd.ti68 rfl rfl LenC.h OneC.h LenC.h) (fun _ => ?_)
       refine wpl_nil <| ex_then <| wpc_seq ?_
       refine wpc_draw 99 zz6 (fun _ h => h.drew) ?_
       refine wpd_p 0 rfl zz6 trivial (q_field Tryd.underlying68 rfl Tryd.ti5 rfl rfl _ rfl) rfl sk0 ?_
       refine wpd_q 1 rfl zz6 trivial (q_ld Tryd.underlying5 rfl rfl (Hop.c_fl _)) rfl (fun _ h => h) ?_
       refine wpd_p 2 rfl zz6 trivial (q_pure rfl) rfl sk0 ?_
       refine wpd_p 3 rfl zz6 trivial (q_pure rfl) rfl sk0 ?_
       refine wpd_bool2 31 30 rfl rfl (fun hb31 => ?_) (fun hb31 => ?_)
       ·
        have hbad : badH hs i := .inl (by simp only [decide_eq_true_eq] at hb31; omega)
        have hR : chkP ⟨pf, pa, pb, pl, hv, hs⟩ = 8 := chk_bad (p := ⟨pf, pa, pb, pl, hv, hs⟩) hn30 hpx hil hbad
        refine wpd_off 4 rfl zz6 ⟨_, _, rfl, rfl, rfl⟩ rfl sk0 ?_
        refine wpd_off 5 rfl zz6 ⟨_, _, rfl, rfl, rfl⟩ rfl sk0 ?_
        refine wpd_off 6 rfl zz6 ⟨_, _, rfl, rfl, rfl⟩ rfl sk0 ?_
        refine wpd_off 7 rfl zz6 ⟨_, _, rfl, rfl, rfl⟩ rfl sk0 ?_
        refine wpd_off 8 rfl zz6 ⟨_, _, rfl, rfl, rfl⟩ rfl sk0 ?_
        refine wpd_off 9 rfl zz6 ⟨_, _, rfl, rfl, rfl⟩ rfl sk0 ?_
        refine wpd_off 10 rfl zz6 ⟨_, _, rfl, rfl, rfl⟩ rfl sk0 ?_
        refine wpd_p 11 rfl zz6 trivial (q_pure rfl) rfl sk0 ?_
        refine wpd_p 12 rfl zz6 trivial (q_pure rfl) rfl sk0 ?_
        refine wpd_off 13 rfl zz6 ⟨_, _, rfl, rfl, rfl⟩ rfl sk0 ?_
        refine wpd_off 14 rfl zz6 ⟨_, _, rfl, rfl, rfl⟩ rfl sk0 ?_
        refine wpd_off 15 rfl zz6 ⟨_, _, rfl, rfl, rfl⟩ rfl sk0 ?_
        refine wpd_off 16 rfl zz6 ⟨_, _, rfl, rfl, rfl⟩ rfl sk0 ?_
        refine wpd_off 17 rfl zz6 ⟨_, _, rfl, rfl, rfl⟩ rfl sk0 ?_
        refine wpd_off 18 rfl zz6 ⟨_, _, rfl, rfl, rfl⟩ rfl sk0 ?_
        refine wpd_off 19 rfl zz6 ⟨_, _, rfl, rfl, rfl⟩ rfl sk0 ?_
        refine wpd_off 20 rfl zz6 ⟨_, _, rfl, rfl, rfl⟩ rfl sk0 ?_
        refine wpd_off 21 rfl zz6 ⟨_, _, rfl, rfl, rfl⟩ rfl sk0 ?_
        refine wpd_off 22 rfl zz6 ⟨_, _, rfl, rfl, rfl⟩ rfl sk0 ?_
        refine wpd_off 23 rfl zz6 ⟨_, _, rfl, rfl, rfl⟩ rfl sk0 ?_
        refine wpd_off 24 rfl zz6 ⟨_, _, rfl, rfl, rfl⟩ rfl sk0 ?_
        refine wpd_off 25 rfl zz6 ⟨_, _, rfl, rfl, rfl⟩ rfl sk0 ?_
        refine wpd_off 26 rfl zz6 ⟨_, _, rfl, rfl, rfl⟩ rfl sk0 ?_
        refine wpd_p 27 rfl zz6 trivial (q_pure rfl) rfl sk0 ?_
        refine wpd_done zz6 ?_
        refine ex_then ?_
        refine wpc_cond_t rfl ?_
        refine wpc_seq <| wpc_region <| wpl_q (q_pure rfl) rfl <| wpl_nil <| ex_then <| wpc_ret ?_
        refine ex_block_ret ?_
        refine ex_then_ret ?_
        refine ex_then_ret ?_
        refine ex_block_ret ?_
        refine ex_then_ret ?_
        refine ret1 (.inl rfl) rfl rfl ?_
        exact fun w h => ⟨by rw [hR], h.below⟩
       ·
        have n1 : ¬ 1 < (hs.getD i Hop.z).fl.toNat := by simp only [decide_eq_false_iff_not] at hb31; omega
        refine wpd_p 4 rfl zz6 ⟨_, rfl, rfl⟩ (q_field Tryd.underlying68 rfl Tryd.ti63 rfl rfl _ rfl) rfl sk0 ?_
        refine wpd_p 5 rfl zz6 ⟨_, rfl, rfl⟩ (q_field Tryd.underlying63 rfl Tryd.ti3 rfl rfl _ rfl) rfl sk0 ?_
        refine wpd_q 6 rfl zz6 ⟨_, rfl, rfl⟩ (q_ld Tryd.underlying3 rfl rfl (Hop.c_ht _)) rfl (fun _ h => h) ?_
        refine wpd_p 7 rfl zz6 ⟨_, rfl, rfl⟩ (q_field Tryd.underlying68 rfl Tryd.ti66 rfl rfl _ rfl) rfl sk0 ?_
        refine wpd_q 8 rfl zz6 ⟨_, rfl, rfl⟩ (q_ldP Tryd.underlying66 rfl Tryd.ti66 rfl (hs.getD i Hop.z).sig (Hop.c_sig _) rfl) rfl (fun _ h => h) ?_
        refine wpd_t 9 rfl zz6 ⟨_, rfl, rfl⟩ (t_pur Tryd.hb43 rfl fun w h => check7 _ _ _ _ _ _ w (hsi.old h).1 (hsi.old h).2.1 (hsi.old h).2.2.1 (hsi.old h).2.2.2) rfl (fun _ => sk0) (fun b37 => ?_)
        refine wpd_p 10 rfl zz6 ⟨_, rfl, rfl⟩ (q_pure rfl) rfl sk0 ?_
        refine wpd_p 11 rfl zz6 trivial (q_pure rfl) rfl sk0 ?_
        refine wpd_p 12 rfl zz6 trivial (q_pure rfl) rfl sk0 ?_
        refine wpd_bool2 40 38 rfl rfl (fun hb40 => ?_) (fun hb40 => ?_)
        ·
         have hbad : badH hs i := .inr (.inl (by simpa using hb40))
         have hR : chkP ⟨pf, pa, pb, pl, hv, hs⟩ = 8 := chk_bad (p := ⟨pf, pa, pb, pl, hv, hs⟩) hn30 hpx hil hbad
         refine wpd_off 13 rfl zz6 ⟨_, _, rfl, rfl, rfl⟩ rfl sk0 ?_
         refine wpd_off 14 rfl zz6 ⟨_, _, rfl, rfl, rfl⟩ rfl sk0 ?_
         refine wpd_off 15 rfl zz6 ⟨_, _, rfl, rfl, rfl⟩ rfl sk0 ?_
         refine wpd_off 16 rfl zz6 ⟨_, _, rfl, rfl, rfl⟩ rfl sk0 ?_
         refine wpd_off 17 rfl zz6 ⟨_, _, rfl, rfl, rfl⟩ rfl sk0 ?_
         refine wpd_off 18 rfl zz6 ⟨_, _, rfl, rfl, rfl⟩ rfl sk0 ?_
         refine wpd_off 19 rfl zz6 ⟨_, _, rfl, rfl, rfl⟩ rfl sk0 ?_
         refine wpd_off 20 rfl zz6 ⟨_, _, rfl, rfl, rfl⟩ rfl sk0 ?_
         refine wpd_off 21 rfl zz6 ⟨_, _, rfl, rfl, rfl⟩ rfl sk0 ?_
         refine wpd_off 22 rfl zz6 ⟨_, _, rfl, rfl, rfl⟩ rfl sk0 ?_
         refine wpd_off 23 rfl zz6 ⟨_, _, rfl, rfl, rfl⟩ rfl sk0 ?_
         refine wpd_off 24 rfl zz6 ⟨_, _, rfl, rfl, rfl⟩ rfl sk0 ?_
         refine wpd_off 25 rfl zz6 ⟨_, _, rfl, rfl, rfl⟩ rfl sk0 ?_
         refine wpd_off 26 rfl zz6 ⟨_, _, rfl, rfl, rfl⟩ rfl sk0 ?_
         refine wpd_p 27 rfl zz6 trivial (q_pure rfl) rfl sk0 ?_
         refine wpd_done zz6 ?_
         refine ex_then ?_
         refine wpc_cond_t rfl ?_
         refine wpc_seq <| wpc_region <| wpl_q (q_pure rfl) rfl <| wpl_nil <| ex_then <| wpc_ret ?_
         refine ex_block_ret ?_
         refine ex_then_ret ?_
         refine ex_then_ret ?_
         refine ex_block_ret ?_
         refine ex_then_ret ?_
         refine ret1 (.inl rfl) rfl rfl ?_
         exact fun w h => ⟨by rw [hR], h.below⟩
        ·
         have n2 : ¬ checkF (hs.getD i Hop.z).ht (hs.getD i Hop.z).ix (hs.getD i Hop.z).chs.length (hs.getD i Hop.z).ps.length ≠ 0 := by simpa using hb40
         refine wpd_p 13 rfl zz6 ⟨_, rfl, rfl⟩ (q_pure rfl) rfl sk0 ?_
         refine wpd_p 14 rfl zz6 ⟨_, rfl, rfl⟩ (q_pure rfl) rfl sk0 ?_
         refine wpd_p 15 rfl zz6 ⟨_, rfl, rfl⟩ (q_pure rfl) rfl sk0 ?_
         refine wpd_bool2 43 42 rfl rfl (fun hb43 => ?_) (fun hb43 => ?_)
         ·
          simp only [decide_eq_true_eq] at hb43
          have p3 : 0 < i := by omega
          refine wpd_p 16 rfl zz6 ⟨_, rfl, rfl⟩ (q_field Tryd.underlying68 rfl Tryd.ti49 rfl rfl _ rfl) rfl sk0 ?_
          refine wpd_q 17 rfl zz6 ⟨_, rfl, rfl⟩ (q_ld Tryd.underlying49 rfl rfl (Hop.c_sy _)) rfl (fun _ h => h) ?_
          refine wpd_p 18 rfl zz6 ⟨_, rfl, rfl⟩ (q_field Tryd.underlying29 rfl Tryd.ti27 rfl rfl _ rfl) rfl sk0 ?_
          refine wpd_q 19 rfl zz6 ⟨_, rfl, rfl⟩ (q_ld Tryd.underlying27 rfl rfl rfl) rfl (fun _ h => h) ?_
          refine wpd_p 20 rfl zz6 ⟨_, rfl, rfl⟩ (q_pure rfl) rfl sk0 ?_
          refine wpd_p 21 rfl zz6 ⟨_, rfl, rfl⟩ (q_subN (b := 1) rfl rfl zz14 zz1) rfl sk0 ?_
          refine wpd_p 22 rfl zz6 ⟨_, rfl, rfl⟩ (q_idxW Tryd.underlying27 Tryd.ti68 rfl rfl zz4 zz1) rfl sk0 ?_
          refine wpd_p 23 rfl zz6 ⟨_, rfl, rfl⟩ (q_fieldPo 3 Tryd.underlying68 rfl Tryd.ti49 rfl rfl rfl) rfl sk0 ?_
          refine wpd_q 24 rfl zz6 ⟨_, rfl, rfl⟩ (q_ldWF Tryd.underlying49 rfl rfl (fun w h => h.seen_old hh) (cat_get Hop.c_length Hop.z (show i - 1 < hs.length from zz14) (Hop.c_to _))) rfl (fun _ h => h) ?_
          refine wpd_p 25 rfl zz6 ⟨_, rfl, rfl⟩ (q32_neq rfl rfl) rfl sk0 ?_
          refine wpd_p 26 rfl zz6 ⟨_, rfl, rfl⟩ (q_pure rfl) rfl sk0 ?_
          refine wpd_p 27 rfl zz6 trivial (q_pure rfl) rfl sk0 ?_
          refine wpd_done zz6 ?_
          refine ex_then ?_
          refine wpc_cond rfl (fun hc55 => ?_) (fun hc55 => ?_)
          ·
           have hbad : badH hs i := .inr (.inr ⟨p3, by simpa using hc55⟩)
           have hR : chkP ⟨pf, pa, pb, pl, hv, hs⟩ = 8 := chk_bad (p := ⟨pf, pa, pb, pl, hv, hs⟩) hn30 hpx hil hbad
           refine wpc_seq <| wpc_region <| wpl_q (q_pure rfl) rfl <| wpl_nil <| ex_then <| wpc_ret ?_
           refine ex_block_ret ?_
           refine ex_then_ret ?_
           refine ex_then_ret ?_
           refine ex_block_ret ?_
           refine ex_then_ret ?_
           refine ret1 (.inl rfl) rfl rfl ?_
           exact fun w h => ⟨by rw [hR], h.below⟩
          ·
           try have hok : ¬ badH hs i := by rintro (h | h | h); exact n1 h; exact n2 h; exact h.2 (by simpa using hc55)
           refine wpc_skip <| ex_block <| ex_then <| wpc_region ?_
           refine wpl_q (q_addN (b := 1) rfl rfl zz1) rfl ?_
           refine wpl_q (q_pure rfl) rfl <| wpl_nil ?_
           refine ex_again ⟨i + 1, ⟨zz14, fun j hj => zz51⟩⟩ ?_ ?_ ?_
           ·
            exact zz10
           ·
            exact fun w h => h.sub SubC.h .nil
           ·
            (show hs.length - (i + 1) < hs.length - i); omega
         ·
          simp only [decide_eq_false_iff_not] at hb43
          have hok : ¬ badH hs i := by rintro (h | h | h); exact n1 h; exact n2 h; exact absurd h.1 zz14
          refine wpd_off 16 rfl zz6 ⟨_, _, rfl, rfl, rfl⟩ rfl sk0 ?_
          refine wpd_off 17 rfl zz6 ⟨_, _, rfl, rfl, rfl⟩ rfl sk0 ?_
          refine wpd_off 18 rfl zz6 ⟨_, _, rfl, rfl, rfl⟩ rfl sk0 ?_
          refine wpd_off 19 rfl zz6 ⟨_, _, rfl, rfl, rfl⟩ rfl sk0 ?_
          refine wpd_off 20 rfl zz6 ⟨_, _, rfl, rfl, rfl⟩ rfl sk0 ?_
          refine wpd_off 21 rfl zz6 ⟨_, _, rfl, rfl, rfl⟩ rfl sk0 ?_
          refine wpd_off 22 rfl zz6 ⟨_, _, rfl, rfl, rfl⟩ rfl sk0 ?_
          refine wpd_off 23 rfl zz6 ⟨_, _, rfl, rfl, rfl⟩ rfl sk0 ?_
          refine wpd_off 24 rfl zz6 ⟨_, _, rfl, rfl, rfl⟩ rfl sk0 ?_
          refine wpd_off 25 rfl zz6 ⟨_, _, rfl, rfl, rfl⟩ rfl sk0 ?_
          refine wpd_p 26 rfl zz6 ⟨_, rfl, rfl⟩ (q_pure rfl) rfl sk0 ?_
          refine wpd_p 27 rfl zz6 trivial (q_pure rfl) rfl sk0 ?_
          refine wpd_done zz6 ?_
          refine ex_then ?_
          refine wpc_cond_f rfl ?_
          refine wpc_skip <| ex_block <| ex_then <| wpc_region ?_
          refine wpl_q (q_addN (b := 1) rfl rfl zz1) rfl ?_
          refine wpl_q (q_pure rfl) rfl <| wpl_nil ?_
          refine ex_again ⟨i + 1, ⟨zz14, fun j hj => zz51⟩⟩ ?_ ?_ ?_
          ·
           exact zz10
          ·
           exact fun w h => h.sub SubC.h .nil
          ·
           (show hs.length - (i + 1) < hs.length - i); omega
      ·
       simp only [decide_eq_false_iff_not] at hc24
       have hR : chkP ⟨pf, pa, pb, pl, hv, hs⟩ = 0 := chk_ok (p := ⟨pf, pa, pb, pl, hv, hs⟩) hn30 hpx h0 (fun j hj => hi1 j (by have hj : j < hs.length := hj; omega))
       refine wpc_exit ?_
       refine ex_then_exit ?_
       refine ex_then_exit ?_
       refine ex_block_hit ?_
       refine ex_then <| wpc_seq <| wpc_region <| wpl_q (q_pure rfl) rfl <| wpl_nil <| ex_then <| wpc_ret ?_
       refine ret1 (.inl rfl) rfl rfl ?_
       exact fun w h => ⟨by rw [hR], h.below⟩
theorem refCheck42 (p : Pth) (w : World) (hp : p.seen w.cell?)  :
    Calls Tryd.prog 18 [.agg p.c.toArray].toArray w (Pur w (.int .i64 (chkP p))) := by
  obtain ⟨pf, pa, pb, pl, hv, hs⟩ := p
  have hh : Seen w.cell? hv hs.length 24 (hcs hs) := hp.1
  have hq : ∀ h ∈ hs, h.seen w.cell? := hp.2
  have svh := hh.sv
  have lh := svh.le
  simp only [maxLen] at lh
  refine enter (m := 60) (R := Mem w [] [] []) Tryd.func18 rfl rfl (Nat.le_of_ble_eq_true rfl) (Mem.start w) ?_
  refine wpc_seq <| wpc_region ?_
  refine wpl_t (t_box rfl [.int .u8 (pf.toNat : Int), .int .u64 (pa.toNat : Int), .int .u64 (pb.toNat : Int), .int .i64 pl, hv] rfl) rfl (fun b1 => ?_)
  refine wpl_q (q_pure rfl) rfl <| wpl_nil <| ex_then <| wpc_seq <| wpc_seq <| wpc_region <| wpl_q (q_field Tryd.underlying29 rfl Tryd.ti27 rfl rfl _ rfl) rfl <| wpl_q (q_ld Tryd.underlying27 rfl rfl rfl) rfl ?_
  refine wpl_q (q_lenW Tryd.underlying27 rfl zz4) rfl ?_
  refine wpl_q (q_pure rfl) rfl <| wpl_nil <| ex_then ?_
  refine wpc_cond rfl (fun hc9 => ?_) (fun hc9 => ?_)
  ·
   simp only [decide_eq_true_eq] at hc9
   have hR : chkP ⟨pf, pa, pb, pl, hv, hs⟩ = 4 := chk_many (p := ⟨pf, pa, pb, pl, hv, hs⟩) (by show 30 < hs.length; omega)
   refine wpc_seq <| wpc_region <| wpl_q (q_pure rfl) rfl <| wpl_nil <| ex_then <| wpc_ret ?_
   refine ex_then_ret ?_
   refine ret1 (.inl rfl) rfl rfl ?_
   exact fun w h => ⟨by rw [hR], h.below⟩
  ·
   simp only [decide_eq_false_iff_not] at hc9
   have hn30 : ¬ 30 < hs.length := by omega
   refine wpc_skip <| ex_then <| wpc_seq <| wpc_region <| wpl_q (q_field Tryd.underlying29 rfl Tryd.ti26 rfl rfl _ rfl) rfl ?_
   refine wpl_q (q_ldP Tryd.underlying26 rfl Tryd.ti26 rfl (pfL pf pa pb pl) rfl zz2) rfl ?_
   refine wpl_t (t_pur Tryd.hb44 rfl fun w h => refCheck1 pf pa pb pl w) rfl (fun b12 => ?_)
   refine wpl_q (q_pure rfl) rfl <| wpl_nil <| ex_then <| wpc_seq <| wpc_seq <| wpc_region <| wpl_q (q_pure rfl) rfl <| wpl_q (q_pure rfl) rfl <| wpl_nil <| ex_then ?_
   refine wpc_cond rfl (fun hc14 => ?_) (fun hc14 => ?_)
   ·
    have hpx : pfxF pf pa pb pl ≠ 0 := by simpa using hc14
    have hR : chkP ⟨pf, pa, pb, pl, hv, hs⟩ = pfxF pf pa pb pl := chk_pfx (p := ⟨pf, pa, pb, pl, hv, hs⟩) hn30 hpx
    refine wpc_seq <| wpc_region <| wpl_q (q_pure rfl) rfl <| wpl_q (q_pure rfl) rfl <| wpl_nil <| ex_then <| wpc_ret ?_
    refine ex_then_ret ?_
    refine ret1 (.inl rfl) rfl rfl ?_
    exact fun w h => ⟨by rw [hR], h.below⟩
   ·
    have hpx : ¬ pfxF pf pa pb pl ≠ 0 := by simpa using hc14
    refine wpc_skip <| ex_then <| wpc_seq <| wpc_seq <| wpc_region <| wpl_q (q_pure rfl) rfl <| wpl_nil <| ex_then <| wpc_block ?_
    refine wpc_loopc (ι := { x : Nat // (x ≤ hs.length) ∧ (∀ j, j < x → ¬ badH hs j) }) [(1, _)] (fun x Lc => (4, .int .i64 ((x.1 : Nat) : Int)) :: Lc) (fun x => Mem w [] [.blk b1 29 [.int .u8 (pf.toNat : Int), .int .u64 (pa.toNat : Int), .int .u64 (pb.toNat : Int), .int .i64 pl, hv]] []) (fun x => hs.length - x.1) ⟨0, ⟨Nat.zero_le _, fun j hj => zz14⟩⟩ zz10 ?_ ?_
    ·
     exact fun w h => h.sub SubC.h .nil
    ·
     rintro ⟨i, ⟨hi0, hi1⟩⟩; try dsimp only
     have hi0 : i ≤ hs.length := hi0; have hi1 : ∀ j, j < i → ¬ badH hs j := hi1
     refine wpc_seq <| wpc_seq <| wpc_region <| wpl_q (q_pure rfl) rfl <| wpl_q (q_field Tryd.underlying29 rfl Tryd.ti27 rfl rfl _ rfl) rfl <| wpl_q (q_ld Tryd.underlying27 rfl rfl rfl) rfl ?_
     refine wpl_q (q_lenW Tryd.underlying27 rfl zz4) rfl ?_
     refine wpl_q (q_pure rfl) rfl <| wpl_nil <| ex_then ?_
     refine wpc_cond rfl (fun hc20 => ?_) (fun hc20 => ?_)
     ·
      simp only [decide_eq_true_eq] at hc20
      have hil : i < hs.length := by omega
      have hsi := hq _ (getD_memO hil)
      haveI := hsi.sv.one
      refine wpc_skip <| ex_then <| wpc_seq <| wpc_block <| wpc_seq <| wpc_region <| wpl_q (q_field Tryd.underlying29 rfl Tryd.ti27 rfl rfl _ rfl) rfl <| wpl_q (q_ld Tryd.underlying27 rfl rfl rfl) rfl <| wpl_q (q_pure rfl) rfl ?_
      refine wpl_q (q_idxW Tryd.underlying27 Tryd.ti68 rfl rfl zz4 zz1) rfl ?_
      refine wpl_q (q_ldWN Tryd.underlying68 rfl Tryd.ti68 rfl (fun w h => h.seen_old hh) (hs.getD i Hop.z).c (cat_part Hop.c_length Hop.z hil) (Hop.c_length _)) rfl ?_
      refine wpl_t (t_alloc Tryd.ti68 Hop.z.c rfl) rfl (fun b5 => ?_)
      refine wpl_t0 (t_stA Tryd.ti68 rfl rfl LenC.h OneC.h LenC.h) (fun _ => ?_)
      refine wpl_nil <| ex_then <| wpc_seq ?_
      refine wpc_draw 99 zz6 (fun _ h => h.drew) ?_
      refine wpd_p 0 rfl zz6 trivial (q_field Tryd.underlying68 rfl Tryd.ti5 rfl rfl _ rfl) rfl sk0 ?_
      refine wpd_q 1 rfl zz6 trivial (q_ld Tryd.underlying5 rfl rfl (Hop.c_fl _)) rfl (fun _ h => h) ?_
      refine wpd_p 2 rfl zz6 trivial (q_pure rfl) rfl sk0 ?_
      refine wpd_p 3 rfl zz6 trivial (q_pure rfl) rfl sk0 ?_
      refine wpd_bool2 31 30 rfl rfl (fun hb31 => ?_) (fun hb31 => ?_)
      ·
       have hbad : badH hs i := .inl (by simp only [decide_eq_true_eq] at hb31; omega)
       have hR : chkP ⟨pf, pa, pb, pl, hv, hs⟩ = 8 := chk_bad (p := ⟨pf, pa, pb, pl, hv, hs⟩) hn30 hpx hil hbad
       refine wpd_off 4 rfl zz6 ⟨_, _, rfl, rfl, rfl⟩ rfl sk0 ?_
       refine wpd_off 5 rfl zz6 ⟨_, _, rfl, rfl, rfl⟩ rfl sk0 ?_
       refine wpd_off 6 rfl zz6 ⟨_, _, rfl, rfl, rfl⟩ rfl sk0 ?_
       refine wpd_off 7 rfl zz6 ⟨_, _, rfl, rfl, rfl⟩ rfl sk0 ?_
       refine wpd_off 8 rfl zz6 ⟨_, _, rfl, rfl, rfl⟩ rfl sk0 ?_
       refine wpd_off 9 rfl zz6 ⟨_, _, rfl, rfl, rfl⟩ rfl sk0 ?_
       refine wpd_off 10 rfl zz6 ⟨_, _, rfl, rfl, rfl⟩ rfl sk0 ?_
       refine wpd_p 11 rfl zz6 trivial (q_pure rfl) rfl sk0 ?_
       refine wpd_p 12 rfl zz6 trivial (q_pure rfl) rfl sk0 ?_
       refine wpd_off 13 rfl zz6 ⟨_, _, rfl, rfl, rfl⟩ rfl sk0 ?_
       refine wpd_off 14 rfl zz6 ⟨_, _, rfl, rfl, rfl⟩ rfl sk0 ?_
       refine wpd_off 15 rfl zz6 ⟨_, _, rfl, rfl, rfl⟩ rfl sk0 ?_
       refine wpd_off 16 rfl zz6 ⟨_, _, rfl, rfl, rfl⟩ rfl sk0 ?_
       refine wpd_off 17 rfl zz6 ⟨_, _, rfl, rfl, rfl⟩ rfl sk0 ?_
       refine wpd_off 18 rfl zz6 ⟨_, _, rfl, rfl, rfl⟩ rfl sk0 ?_
       refine wpd_off 19 rfl zz6 ⟨_, _, rfl, rfl, rfl⟩ rfl sk0 ?_
       refine wpd_off 20 rfl zz6 ⟨_, _, rfl, rfl, rfl⟩ rfl sk0 ?_
       refine wpd_off 21 rfl zz6 ⟨_, _, rfl, rfl, rfl⟩ rfl sk0 ?_
       refine wpd_off 22 rfl zz6 ⟨_, _, rfl, rfl, rfl⟩ rfl sk0 ?_
       refine wpd_off 23 rfl zz6 ⟨_, _, rfl, rfl, rfl⟩ rfl sk0 ?_
       refine wpd_off 24 rfl zz6 ⟨_, _, rfl, rfl, rfl⟩ rfl sk0 ?_
       refine wpd_off 25 rfl zz6 ⟨_, _, rfl, rfl, rfl⟩ rfl sk0 ?_
       refine wpd_off 26 rfl zz6 ⟨_, _, rfl, rfl, rfl⟩ rfl sk0 ?_
       refine wpd_p 27 rfl zz6 trivial (q_pure rfl) rfl sk0 ?_
       refine wpd_done zz6 ?_
       refine ex_then ?_
       refine wpc_cond_t rfl ?_
       refine wpc_seq <| wpc_region <| wpl_q (q_pure rfl) rfl <| wpl_nil <| ex_then <| wpc_ret ?_
       refine ex_block_ret ?_
       refine ex_then_ret ?_
       refine ex_then_ret ?_
       refine ex_block_ret ?_
       refine ex_then_ret ?_
       refine ret1 (.inl rfl) rfl rfl ?_
       exact fun w h => ⟨by rw [hR], h.below⟩
      ·
       have n1 : ¬ 1 < (hs.getD i Hop.z).fl.toNat := by simp only [decide_eq_false_iff_not] at hb31; omega
       refine wpd_p 4 rfl zz6 ⟨_, rfl, rfl⟩ (q_field Tryd.underlying68 rfl Tryd.ti63 rfl rfl _ rfl) rfl sk0 ?_
       refine wpd_p 5 rfl zz6 ⟨_, rfl, rfl⟩ (q_field Tryd.underlying63 rfl Tryd.ti3 rfl rfl _ rfl) rfl sk0 ?_
       refine wpd_q 6 rfl zz6 ⟨_, rfl, rfl⟩ (q_ld Tryd.underlying3 rfl rfl (Hop.c_ht _)) rfl (fun _ h => h) ?_
       refine wpd_p 7 rfl zz6 ⟨_, rfl, rfl⟩ (q_field Tryd.underlying68 rfl Tryd.ti66 rfl rfl _ rfl) rfl sk0 ?_
       refine wpd_q 8 rfl zz6 ⟨_, rfl, rfl⟩ (q_ldP Tryd.underlying66 rfl Tryd.ti66 rfl (hs.getD i Hop.z).sig (Hop.c_sig _) rfl) rfl (fun _ h => h) ?_
       refine wpd_t 9 rfl zz6 ⟨_, rfl, rfl⟩ (t_pur Tryd.hb45 rfl fun w h => refCheck7 _ _ _ _ _ _ w (hsi.old h).1 (hsi.old h).2.1 (hsi.old h).2.2.1 (hsi.old h).2.2.2) rfl (fun _ => sk0) (fun b37 => ?_)
       refine wpd_p 10 rfl zz6 ⟨_, rfl, rfl⟩ (q_pure rfl) rfl sk0 ?_
       refine wpd_p 11 rfl zz6 trivial (q_pure rfl) rfl sk0 ?_
       refine wpd_p 12 rfl zz6 trivial (q_pure rfl) rfl sk0 ?_
       refine wpd_bool2 40 38 rfl rfl (fun hb40 => ?_) (fun hb40 => ?_)
       ·
        have hbad : badH hs i := .inr (.inl (by simpa using hb40))
        have hR : chkP ⟨pf, pa, pb, pl, hv, hs⟩ = 8 := chk_bad (p := ⟨pf, pa, pb, pl, hv, hs⟩) hn30 hpx hil hbad
        refine wpd_off 13 rfl zz6 ⟨_, _, rfl, rfl, rfl⟩ rfl sk0 ?_
        refine wpd_off 14 rfl zz6 ⟨_, _, rfl, rfl, rfl⟩ rfl sk0 ?_
        refine wpd_off 15 rfl zz6 ⟨_, _, rfl, rfl, rfl⟩ rfl sk0 ?_
        refine wpd_off 16 rfl zz6 ⟨_, _, rfl, rfl, rfl⟩ rfl sk0 ?_
        refine wpd_off 17 rfl zz6 ⟨_, _, rfl, rfl, rfl⟩ rfl sk0 ?_
        refine wpd_off 18 rfl zz6 ⟨_, _, rfl, rfl, rfl⟩ rfl sk0 ?_
        refine wpd_off 19 rfl zz6 ⟨_, _, rfl, rfl, rfl⟩ rfl sk0 ?_
        refine wpd_off 20 rfl zz6 ⟨_, _, rfl, rfl, rfl⟩ rfl sk0 ?_
        refine wpd_off 21 rfl zz6 ⟨_, _, rfl, rfl, rfl⟩ rfl sk0 ?_
        refine wpd_off 22 rfl zz6 ⟨_, _, rfl, rfl, rfl⟩ rfl sk0 ?_
        refine wpd_off 23 rfl zz6 ⟨_, _, rfl, rfl, rfl⟩ rfl sk0 ?_
        refine wpd_off 24 rfl zz6 ⟨_, _, rfl, rfl, rfl⟩ rfl sk0 ?_
        refine wpd_off 25 rfl zz6 ⟨_, _, rfl, rfl, rfl⟩ rfl sk0 ?_
        refine wpd_off 26 rfl zz6 ⟨_, _, rfl, rfl, rfl⟩ rfl sk0 ?_
        refine wpd_p 27 rfl zz6 trivial (q_pure rfl) rfl sk0 ?_
        refine wpd_done zz6 ?_
        refine ex_then ?_
        refine wpc_cond_t rfl ?_
        refine wpc_seq <| wpc_region <| wpl_q (q_pure rfl) rfl <| wpl_nil <| ex_then <| wpc_ret ?_
        refine ex_block_ret ?_
        refine ex_then_ret ?_
        refine ex_then_ret ?_
        refine ex_block_ret ?_
        refine ex_then_ret ?_
        refine ret1 (.inl rfl) rfl rfl ?_
        exact fun w h => ⟨by rw [hR], h.below⟩
       ·
        have n2 : ¬ checkF (hs.getD i Hop.z).ht (hs.getD i Hop.z).ix (hs.getD i Hop.z).chs.length (hs.getD i Hop.z).ps.length ≠ 0 := by simpa using hb40
        refine wpd_p 13 rfl zz6 ⟨_, rfl, rfl⟩ (q_pure rfl) rfl sk0 ?_
        refine wpd_p 14 rfl zz6 ⟨_, rfl, rfl⟩ (q_pure rfl) rfl sk0 ?_
        refine wpd_p 15 rfl zz6 ⟨_, rfl, rfl⟩ (q_pure rfl) rfl sk0 ?_
        refine wpd_bool2 43 42 rfl rfl (fun hb43 => ?_) (fun hb43 => ?_)
        ·
         simp only [decide_eq_true_eq] at hb43
         have p3 : 0 < i := by omega
         refine wpd_p 16 rfl zz6 ⟨_, rfl, rfl⟩ (q_field Tryd.underlying68 rfl Tryd.ti49 rfl rfl _ rfl) rfl sk0 ?_
         refine wpd_q 17 rfl zz6 ⟨_, rfl, rfl⟩ (q_ld Tryd.underlying49 rfl rfl (Hop.c_sy _)) rfl (fun _ h => h) ?_
         refine wpd_p 18 rfl zz6 ⟨_, rfl, rfl⟩ (q_field Tryd.underlying29 rfl Tryd.ti27 rfl rfl _ rfl) rfl sk0 ?_
         refine wpd_q 19 rfl zz6 ⟨_, rfl, rfl⟩ (q_ld Tryd.underlying27 rfl rfl rfl) rfl (fun _ h => h) ?_
         refine wpd_p 20 rfl zz6 ⟨_, rfl, rfl⟩ (q_pure rfl) rfl sk0 ?_
         refine wpd_p 21 rfl zz6 ⟨_, rfl, rfl⟩ (q_subN (b := 1) rfl rfl zz14 zz1) rfl sk0 ?_
         refine wpd_p 22 rfl zz6 ⟨_, rfl, rfl⟩ (q_idxW Tryd.underlying27 Tryd.ti68 rfl rfl zz4 zz1) rfl sk0 ?_
         refine wpd_p 23 rfl zz6 ⟨_, rfl, rfl⟩ (q_fieldPo 3 Tryd.underlying68 rfl Tryd.ti49 rfl rfl rfl) rfl sk0 ?_
         refine wpd_q 24 rfl zz6 ⟨_, rfl, rfl⟩ (q_ldWF Tryd.underlying49 rfl rfl (fun w h => h.seen_old hh) (cat_get Hop.c_length Hop.z (show i - 1 < hs.length from zz14) (Hop.c_to _))) rfl (fun _ h => h) ?_
         refine wpd_p 25 rfl zz6 ⟨_, rfl, rfl⟩ (q32_neq rfl rfl) rfl sk0 ?_
         refine wpd_p 26 rfl zz6 ⟨_, rfl, rfl⟩ (q_pure rfl) rfl sk0 ?_
         refine wpd_p 27 rfl zz6 trivial (q_pure rfl) rfl sk0 ?_
         refine wpd_done zz6 ?_
         refine ex_then ?_
         refine wpc_cond rfl (fun hc55 => ?_) (fun hc55 => ?_)
         ·
          have hbad : badH hs i := .inr (.inr ⟨p3, by simpa using hc55⟩)
          have hR : chkP ⟨pf, pa, pb, pl, hv, hs⟩ = 8 := chk_bad (p := ⟨pf, pa, pb, pl, hv, hs⟩) hn30 hpx hil hbad
          refine wpc_seq <| wpc_region <| wpl_q (q_pure rfl) rfl <| wpl_nil <| ex_then <| wpc_ret ?_
          refine ex_block_ret ?_
          refine ex_then_ret ?_
          refine ex_then_ret ?_
          refine ex_block_ret ?_
          refine ex_then_ret ?_
          refine ret1 (.inl rfl) rfl rfl ?_
          exact fun w h => ⟨by rw [hR], h.below⟩
         ·
          try have hok : ¬ badH hs i := by rintro (h | h | h); exact n1 h; exact n2 h; exact h.2 (by simpa using hc55)
          refine wpc_skip <| ex_block <| ex_then <| wpc_region <| wpl_q (q_pure rfl) rfl ?_
          refine wpl_q (q_addN (b := 1) rfl rfl zz1) rfl ?_
          refine wpl_q (q_pure rfl) rfl <| wpl_nil ?_
          refine ex_again ⟨i + 1, ⟨zz14, fun j hj => zz51⟩⟩ ?_ ?_ ?_
          ·
           exact zz10
          ·
           exact fun w h => h.sub SubC.h .nil
          ·
           (show hs.length - (i + 1) < hs.length - i); omega
        ·
         simp only [decide_eq_false_iff_not] at hb43
         have hok : ¬ badH hs i := by rintro (h | h | h); exact n1 h; exact n2 h; exact absurd h.1 zz14
         refine wpd_off 16 rfl zz6 ⟨_, _, rfl, rfl, rfl⟩ rfl sk0 ?_
         refine wpd_off 17 rfl zz6 ⟨_, _, rfl, rfl, rfl⟩ rfl sk0 ?_
         refine wpd_off 18 rfl zz6 ⟨_, _, rfl, rfl, rfl⟩ rfl sk0 ?_
         refine wpd_off 19 rfl zz6 ⟨_, _, rfl, rfl, rfl⟩ rfl sk0 ?_
         refine wpd_off 20 rfl zz6 ⟨_, _, rfl, rfl, rfl⟩ rfl sk0 ?_
         refine wpd_off 21 rfl zz6 ⟨_, _, rfl, rfl, rfl⟩ rfl sk0 ?_
         refine wpd_off 22 rfl zz6 ⟨_, _, rfl, rfl, rfl⟩ rfl sk0 ?_
         refine wpd_off 23 rfl zz6 ⟨_, _, rfl, rfl, rfl⟩ rfl sk0 ?_
         refine wpd_off 24 rfl zz6 ⟨_, _, rfl, rfl, rfl⟩ rfl sk0 ?_
         refine wpd_off 25 rfl zz6 ⟨_, _, rfl, rfl, rfl⟩ rfl sk0 ?_
         refine wpd_p 26 rfl zz6 ⟨_, rfl, rfl⟩ (q_pure rfl) rfl sk0 ?_
         refine wpd_p 27 rfl zz6 trivial (q_pure rfl) rfl sk0 ?_
         refine wpd_done zz6 ?_
         refine ex_then ?_
         refine wpc_cond_f rfl ?_
         refine wpc_skip <| ex_block <| ex_then <| wpc_region <| wpl_q (q_pure rfl) rfl ?_
         refine wpl_q (q_addN (b := 1) rfl rfl zz1) rfl ?_
         refine wpl_q (q_pure rfl) rfl <| wpl_nil ?_
         refine ex_again ⟨i + 1, ⟨zz14, fun j hj => zz51⟩⟩ ?_ ?_ ?_
         ·
          exact zz10
         ·
          exact fun w h => h.sub SubC.h .nil
         ·
          (show hs.length - (i + 1) < hs.length - i); omega
     ·
      simp only [decide_eq_false_iff_not] at hc20
      refine wpc_exit ?_
      refine ex_then_exit ?_
      refine ex_then_exit ?_
      refine ex_block_hit ?_
      refine ex_then <| wpc_seq <| wpc_seq <| wpc_region <| wpl_q (q_field Tryd.underlying29 rfl Tryd.ti27 rfl rfl _ rfl) rfl <| wpl_q (q_ld Tryd.underlying27 rfl rfl rfl) rfl ?_
      refine wpl_q (q_lenW Tryd.underlying27 rfl zz4) rfl ?_
      refine wpl_q (q_pure rfl) rfl <| wpl_nil <| ex_then ?_
      refine wpc_cond rfl (fun hc59 => ?_) (fun hc59 => ?_)
      ·
       simp only [decide_eq_true_eq] at hc59
       have hR : chkP ⟨pf, pa, pb, pl, hv, hs⟩ = 8 := chk_none (p := ⟨pf, pa, pb, pl, hv, hs⟩) hn30 hpx (by show hs.length = 0; omega)
       refine wpc_seq <| wpc_region <| wpl_q (q_pure rfl) rfl <| wpl_nil <| ex_then <| wpc_ret ?_
       refine ex_then_ret ?_
       refine ret1 (.inl rfl) rfl rfl ?_
       exact fun w h => ⟨by rw [hR], h.below⟩
      ·
       simp only [decide_eq_false_iff_not] at hc59
       have hR : chkP ⟨pf, pa, pb, pl, hv, hs⟩ = 0 := chk_ok (p := ⟨pf, pa, pb, pl, hv, hs⟩) hn30 hpx (by show ¬ hs.length = 0; omega) (fun j hj => hi1 j (by have hj : j < hs.length := hj; omega))
       refine wpc_skip <| ex_then <| wpc_seq <| wpc_region <| wpl_q (q_pure rfl) rfl <| wpl_nil <| ex_then <| wpc_ret ?_
       refine ret1 (.inl rfl) rfl rfl ?_
       exact fun w h => ⟨by rw [hR], h.below⟩
end Go.Proofs.YtjpfhkjmjnjggaaDoor
namespace Go.Proofs.YtjpfhkjmjnjggaaDoor
open Go Go.PL Go.RowKit
def numK : Nat → Nat → List UInt8
  | 0, _ => []
  | k + 1, n => numK k (n / 256) ++ [of8 ((n % 256 : Nat) : Int)]
theorem numK_len : ∀ (k n : Nat), (numK k n).length = k
  | 0, _ => rfl
  | k + 1, n => by rw [numK, List.length_append, numK_len k]; rfl
theorem of8_mod (n : Nat) : of8 (((n % 256 : Nat) : Nat) : Int) = of8 ((n : Nat) : Int) := by
  apply UInt8.toNat_inj.1
  have h1 := of8_toNat ((n % 256 : Nat) : Int)
  have h2 := of8_toNat ((n : Nat) : Int)
  omega
theorem div_pow (n i : Nat) : n / 2 ^ (8 * (i + 1)) = n / 2 ^ (8 * i) / 256 := by
  rw [Nat.div_div_eq_div_mul, show 8 * (i + 1) = 8 * i + 8 from zz14, Nat.pow_add]
theorem num_step (n k s : Nat) (hs : 1 ≤ s) (hk : s ≤ k) : numK (k - (s - 1)) (n / 2 ^ (8 * (s - 1))) = numK (k - s) (n / 2 ^ (8 * s)) ++ [of8 ((n / 2 ^ (8 * (s - 1)) : Nat) : Int)] := by
  obtain ⟨m, rfl⟩ : ∃ m, s = m + 1 := ⟨s - 1, zz14⟩
  rw [show k - (m + 1 - 1) = (k - (m + 1)) + 1 from zz14, numK, Nat.add_sub_cancel, ← div_pow]
  congr 2
  exact of8_mod _
theorem numK_cons : ∀ (k n : Nat), numK (k + 1) n = of8 ((n / 2 ^ (8 * k) : Nat) : Int) :: numK k n
  | 0, n => by
    show [of8 ((n % 256 : Nat) : Int)] = [of8 ((n / 2 ^ 0 : Nat) : Int)]
    rw [of8_mod, Nat.pow_zero, Nat.div_one]
  | k + 1, n => by
    rw [numK, numK_cons k (n / 256), show numK (k + 1) n = numK k (n / 256) ++ [of8 ((n % 256 : Nat) : Int)] from rfl, List.cons_append, Nat.div_div_eq_div_mul, show 256 * 2 ^ (8 * k) = 2 ^ (8 * (k + 1)) by rw [show 8 * (k + 1) = 8 * k + 8 from zz14, Nat.pow_add]; omega]
theorem rep_set (m : Nat) (x : UInt8) (l : List UInt8) : (List.replicate (m + 1) (0 : UInt8) ++ l).set m x = List.replicate m 0 ++ (x :: l) := by
  rw [List.replicate_succ', List.append_assoc, List.set_append_right _ _ zz50]
  simp
def rdO (Ln : List Nat) (w : World) : Rd := fun a => if a.block ∈ Ln then none else w.cell? a
theorem rdO_some {Ln : List Nat} {w : World} {a : Addr} {v : Value} (h : rdO Ln w a = some v) : a.block ∉ Ln ∧ w.cell? a = some v := by
  unfold rdO at h
  split at h
  · cases h
  · exact ⟨‹_›, h⟩
theorem rdo_old {w0 w : World} {Ln : List Nat} {M : List Ent} {S : List Fact} (h : Mem w0 Ln M S w) : ∀ a v, rdO Ln w0 a = some v → w.cell? a = some v := fun a v hv => by
  obtain ⟨h1, h2⟩ := rdO_some hv
  exact h.cell_oldL h2 h1
theorem rdo_nums {w0 w : World} {Ln : List Nat} {M : List Ent} {S : List Fact} (h : Mem w0 Ln M S w) {e : Ent} (he : e ∈ M) : ∀ a v, rdO Ln w0 a = some v → rdO (nums [e]) w a = some v := fun a v hv => by
  obtain ⟨h1, h2⟩ := rdO_some hv
  have h3 := h.cell_oldL h2 h1
  have hlt := World.block_lt_of_cell? w0 a h2
  unfold rdO
  rw [if_neg]
  · exact h3
  · intro hm
    obtain ⟨f, hf, hn⟩ := mem_nums.1 hm
    rw [List.mem_singleton] at hf
    subst hf
    rcases h.new f he _ hn with h4 | h4
    · omega
    · exact h1 h4
theorem rdo_nil {w0 w : World} {M : List Ent} {S : List Fact} (h : Mem w0 [] M S w) {e : Ent} (he : e ∈ M) : ∀ a v, w0.cell? a = some v → rdO (nums [e]) w a = some v := fun a v hv => rdo_nums h he a v (by unfold rdO; rw [if_neg zz50]; exact hv)
theorem sr64_8 (m : UInt64) : (sr64 m 8).toNat = m.toNat / 256 := by
  have := m.toNat_lt
  show (UInt64.ofNat (m.toNat / 2 ^ min 8 64)).toNat = _
  rw [UInt64.toNat_ofNat']
  show m.toNat / 256 % 2 ^ 64 = _
  omega
theorem sr64_k (z : UInt64) {m : Nat} (h : m ≤ 7) : (sr64 z (8 * m)).toNat = z.toNat / 2 ^ (8 * m) := by
  have := z.toNat_lt
  show (UInt64.ofNat (z.toNat / 2 ^ min (8 * m) 64)).toNat = _
  rw [UInt64.toNat_ofNat', Nat.min_eq_left zz14]
  exact Nat.mod_eq_of_lt (Nat.lt_of_le_of_lt (Nat.div_le_self _ _) this)
theorem get16 {l : List (List UInt8)} (h : ∀ x ∈ l, x.length = 16) {i : Nat} (hi : i < l.length) : ((v8s l.flatten).drop (i * 16)).take 16 = v8s (l.getD i []) := by rw [v8s_drop, v8s_take, flat_part l h i hi]
theorem flat_take {l : List (List UInt8)} (h : ∀ x ∈ l, x.length = 16) {i : Nat} (hi : i < l.length) : (l.take (i + 1)).flatten = (l.take i).flatten ++ l.getD i [] := by
  rw [List.take_add_one, List.getD_eq_getElem?_getD, List.getElem?_eq_getElem hi, List.flatten_append]
  simp
theorem flat_takeL {l : List (List UInt8)} (h : ∀ x ∈ l, x.length = 16) {i : Nat} (hi : i ≤ l.length) : (l.take i).flatten.length = i * 16 := by
  rw [flat_len _ (fun x hx => h x (List.mem_of_mem_take hx)), List.length_take, Nat.min_eq_left hi]
theorem wordB (z : UInt64) (k : Nat) (w : World)  (hk : k ≤ 8) :
    Calls Tryd.prog 74 [.int .u64 z.toNat, .int .i64 ((k : Nat) : Int)].toArray w (GivesP w (fun v => SV v k) (fun v => v) (fun v => [.row v k 5 1 (v8s (numK k z.toNat))]) (fun _ => [])) := by
  refine enter (m := 26) (R := Mem w [] [] []) Tryd.func74 rfl rfl (Nat.le_of_ble_eq_true rfl) (Mem.start w) ?_
  refine wpc_seq <| wpc_region <| wpl_q (q_pure rfl) rfl <| wpl_nil <| ex_then <| wpc_seq <| wpc_region <| wpl_q (q_pure rfl) rfl ?_
  refine wpl_tp (t_mkW Tryd.underlying32 Tryd.ti5 rfl rfl zz1 zz1 zz1 _ rfl (mk8 _)) rfl (fun b8 p8 => ?_)
  refine wpl_q (q_pure rfl) rfl <| wpl_nil <| ex_then <| wpc_seq <| wpc_seq <| wpc_region <| wpl_q (q_pure rfl) rfl ?_
  refine wpl_q (q_lenW Tryd.underlying32 rfl zz4) rfl ?_
  refine wpl_q (q_pure rfl) rfl <| wpl_nil <| ex_then <| wpc_block ?_
  refine wpc_loopc (ι := { x : Nat × UInt64 // (x.1 ≤ k) ∧ (x.2.toNat = z.toNat / 2 ^ (8 * x.1)) }) [(1, _), (5, _), (10, _)] (fun x Lc => (11, .int .i64 ((x.1.1 : Nat) : Int)) :: (0, .int .u64 (x.1.2.toNat : Int)) :: Lc) (fun x => Mem w [] [.row b8 k 5 1 (v8s (List.replicate (k - x.1.1) 0 ++ numK x.1.1 z.toNat))] []) (fun x => k - x.1.1) ⟨(0, z), ⟨Nat.zero_le _, by rw [Nat.mul_zero, Nat.pow_zero, Nat.div_one]⟩⟩ zz10 ?_ ?_
  ·
   exact fun w h => by
     dsimp only
     rw [numK, List.append_nil]
     exact h
  ·
   rintro ⟨⟨i, m⟩, ⟨hi0, hi1⟩⟩; try dsimp only
   have hi0 : i ≤ k := hi0; have hi1 : m.toNat = z.toNat / 2 ^ (8 * i) := hi1
   refine wpc_seq <| wpc_region <| wpl_q (q_pure rfl) rfl <| wpl_nil <| ex_then <| wpc_seq ?_
   refine wpc_cond rfl (fun hc12 => ?_) (fun hc12 => ?_)
   ·
    simp only [decide_eq_true_eq] at hc12
    have hik : i < k := by omega
    have hrl : (List.replicate (k - i) (0 : UInt8) ++ numK i z.toNat).length = k := by rw [List.length_append, List.length_replicate, numK_len]; omega
    refine wpc_skip <| ex_then <| wpc_seq <| wpc_block <| wpc_seq <| wpc_region <| wpl_q (q_pure rfl) rfl <| wpl_q (q_pure rfl) rfl <| wpl_nil <| ex_then <| wpc_seq <| wpc_region ?_
    refine wpl_q (q_pure rfl) rfl <| wpl_q (q_pure rfl) rfl ?_
    refine wpl_q (q_subN (b := 1) rfl rfl zz14 zz1) rfl ?_
    refine wpl_q (q_pure rfl) rfl ?_
    refine wpl_q (q_subN rfl rfl zz14 zz1) rfl ?_
    refine wpl_q (q_pure rfl) rfl <| wpl_q (q8_conv Tryd.underlying22 Tryd.underlying5 rfl) rfl ?_
    refine wpl_q (q_idxW1 Tryd.underlying32 Tryd.ti5 rfl rfl zz4 zz1) rfl ?_
    refine wpl_t0 (t_stW Tryd.ti5 rfl rfl rfl (by rw [v8s_length, hrl]; omega) _ ((v8s_set _).trans (congrArg v8s (show _ = List.replicate (k - (i + 1)) (0 : UInt8) ++ numK (i + 1) z.toNat by rw [numK_cons, ← hi1, show k - 1 - i = k - (i + 1) from zz14, show k - i = k - (i + 1) + 1 from zz14, rep_set])))) (fun _ => ?_)
    refine wpl_nil <| ex_then <| wpc_region <| wpl_q (q_pure rfl) rfl ?_
    refine wpl_q (q64_shr rfl rfl zz30 8 rfl) rfl ?_
    refine wpl_q (q_pure rfl) rfl <| wpl_nil <| ex_block <| ex_then <| wpc_region ?_
    refine wpl_q (q_addN (b := 1) rfl rfl zz1) rfl ?_
    refine wpl_q (q_pure rfl) rfl <| wpl_nil ?_
    refine ex_again ⟨(i + 1, sr64 m 8), ⟨zz59, by rw [div_pow, ← hi1]; exact sr64_8 m⟩⟩ ?_ ?_ ?_
    ·
     exact zz10
    ·
     exact fun w h => h
    ·
     (show k - (i + 1) < k - i); omega
   ·
    simp only [decide_eq_false_iff_not] at hc12
    obtain rfl : i = k := by omega
    rw [Nat.sub_self, List.replicate_zero, List.nil_append]
    refine wpc_exit ?_
    refine ex_then_exit ?_
    refine ex_then_exit ?_
    refine ex_block_hit ?_
    refine ex_then <| wpc_seq <| wpc_region <| wpl_q (q_pure rfl) rfl <| wpl_q (q_pure rfl) rfl <| wpl_nil <| ex_then <| wpc_ret ?_
    refine ret1 (.inl rfl) rfl rfl ?_
    exact fun w h => ⟨b8, p8, rfl, h.below, h.made SubC.h .nil⟩
theorem number (v : Value) (xs : List UInt8) (z : UInt64) (k : Nat) (w : World) (hrow : (Ent.row v xs.length 5 1 (v8s xs)).at w) (sv : SV v xs.length) (hk : 1 ≤ k) (hk8 : k ≤ 8) (hxl : xs.length ≤ 100000) :
    Calls Tryd.prog 56 [v, .int .u64 z.toNat, .int .i64 ((k : Nat) : Int)].toArray w (GivesR w (.row v xs.length 5 1 (v8s xs)) (xs.length + k) 5 1 (v8s (xs ++ numK k z.toNat))) := by
  refine enter (m := 24) (R := Mem w (nums [(.row v xs.length 5 1 (v8s xs))]) [(.row v xs.length 5 1 (v8s xs))] []) Tryd.func56 rfl rfl (Nat.le_of_ble_eq_true rfl) (Mem.startR w hrow) ?_
  refine wpc_seq <| wpc_region <| wpl_q (q_pure rfl) rfl <| wpl_nil <| ex_then <| wpc_seq <| wpc_seq <| wpc_region <| wpl_q (q_pure rfl) rfl ?_
  refine wpl_q (q_subN (b := 1) rfl rfl zz14 zz1) rfl ?_
  refine wpl_re 9 rfl (congrArg (Value.int .i64) (show ((k - 1 : Nat) : Int) = ((k : Nat) : Int) - 1 from zz14)) ?_
  refine wpl_q (q_pure rfl) rfl <| wpl_nil <| ex_then <| wpc_block ?_
  refine wpc_loopc (ι := { x : Nat × Value // (x.1 ≤ k) ∧ (SV x.2 (xs.length + (k - x.1))) }) [(1, _)] (fun x Lc => (7, .int .i64 (((x.1.1 : Nat) : Int) - 1)) :: (0, x.1.2) :: Lc) (fun x => Mem w (nums [.row v xs.length 5 1 (v8s xs)]) [.row x.1.2 (xs.length + (k - x.1.1)) 5 1 (v8s (xs ++ numK (k - x.1.1) (z.toNat / 2 ^ (8 * x.1.1))))] []) (fun x => x.1.1) ⟨(k, v), ⟨Nat.le_refl _, by rw [Nat.sub_self]; exact sv⟩⟩ zz10 ?_ ?_
  ·
   exact fun w h => by
     dsimp only
     rw [Nat.sub_self, numK, List.append_nil]
     exact h
  ·
   rintro ⟨⟨s, v3⟩, ⟨hi0, hi1⟩⟩; try dsimp only
   have hi0 : s ≤ k := hi0; have hi1 : SV v3 (xs.length + (k - s)) := hi1
   refine wpc_seq <| wpc_seq <| wpc_region <| wpl_q (q_pure rfl) rfl <| wpl_q (q_pure rfl) rfl <| wpl_nil <| ex_then ?_
   refine wpc_cond rfl (fun hc11 => ?_) (fun hc11 => ?_)
   ·
    simp only [decide_eq_true_eq] at hc11
    obtain ⟨m, rfl⟩ : ∃ m, s = m + 1 := ⟨s - 1, zz14⟩
    refine wpc_re 7 rfl (congrArg (Value.int .i64) (show (((m + 1 : Nat) : Int) - 1) = ((m : Nat) : Int) from zz14)) ?_
    refine wpc_skip <| ex_then <| wpc_seq <| wpc_block <| wpc_region <| wpl_q (q_pure rfl) rfl <| wpl_q (q_pure rfl) rfl <| wpl_q (q_pure rfl) rfl ?_
    refine wpl_q (q_mulN (a := 8) rfl rfl zz1) rfl ?_
    refine wpl_q (q64_conv Tryd.underlying3 Tryd.underlying116 rfl) rfl ?_
    refine wpl_q (q64_shrC rfl rfl zz14) rfl ?_
    refine wpl_q (q8_conv Tryd.underlying22 Tryd.underlying5 rfl) rfl ?_
    refine wpl_tp (t_bsV (v8s [_]) Tryd.underlying32 Tryd.ti5 rfl rfl zz19 zz19 rfl (v8s_one _)) rfl (fun b21 p21 => ?_)
    refine wpl_tp (t_apW Tryd.underlying32 Tryd.ti5 rfl zz19 rfl rfl (fun w h => zz11) OneC.h zz1 zz1 (v8s (xs ++ numK (k - m) (z.toNat / 2 ^ (8 * m)))) (by have q := num_step z.toNat k (m + 1) zz14 hi0; rw [Nat.add_sub_cancel] at q; rw [q, ← List.append_assoc, ← sr64_k z (show m ≤ 7 from zz14)]; exact (v8s_append _ _).symm)) rfl (fun b22 p22 => ?_)
    refine wpl_q (q_pure rfl) rfl <| wpl_nil <| ex_block <| ex_then <| wpc_region <| wpl_q (q_pure rfl) rfl ?_
    first | refine wpl_q (qop_eq (q_pure rfl) (congrArg (Value.int .i64) (wk_i64 zz14 zz14))) rfl ?_ | refine wpl_q (q_pure rfl) rfl ?_
    refine wpl_q (q_pure rfl) rfl <| wpl_nil ?_
    refine ex_again ⟨(m, b22), ⟨zz14, by show SV b22 (xs.length + (k - m)); rw [show k - m = (k - (m + 1)) + 1 from zz14]; exact p22⟩⟩ ?_ ?_ ?_
    ·
     exact zz10
    ·
     exact fun w h => by
       dsimp only
       rw [show xs.length + (k - (m + 1)) + 1 = xs.length + (k - m) from zz14] at h
       exact h.sel
    ·
     show m < m + 1; omega
   ·
    simp only [decide_eq_false_iff_not] at hc11
    obtain rfl : s = 0 := by omega
    have e0 : z.toNat / 2 ^ (8 * 0) = z.toNat := by rw [Nat.mul_zero, Nat.pow_zero, Nat.div_one]
    refine wpc_exit ?_
    refine ex_then_exit ?_
    refine ex_then_exit ?_
    refine ex_block_hit ?_
    refine ex_then <| wpc_seq <| wpc_region <| wpl_q (q_pure rfl) rfl <| wpl_q (q_pure rfl) rfl <| wpl_nil <| ex_then <| wpc_ret ?_
    refine ret1 (.inl rfl) rfl rfl ?_
    exact fun w1 h => ⟨v3, hi1, rfl, by rw [e0] at h; exact h⟩
theorem shorts (cv : Value) (l : List (List UInt8)) (w : World) (hcv : Seen w.cell? cv l.length 16 (v8s l.flatten)) (hll : ∀ x ∈ l, x.length = 16) (hlim : l.length ≤ 1000) :
    Calls Tryd.prog 77 [cv].toArray w (GivesP w (fun v => SV v (l.length * 16)) (fun v => v) (fun v => [.row v (l.length * 16) 5 1 (v8s l.flatten)]) (fun _ => [])) := by
  have scv := hcv.sv
  have lcv := scv.le
  simp only [maxLen] at lcv
  refine enter (m := 17) (R := Mem w [] [] []) Tryd.func77 rfl rfl (Nat.le_of_ble_eq_true rfl) (Mem.start w) ?_
  refine wpc_seq <| wpc_region <| wpl_q (q_pure rfl) rfl <| wpl_nil <| ex_then <| wpc_seq <| wpc_region <| wpl_q (q_pure rfl) rfl <| wpl_nil <| ex_then <| wpc_seq <| wpc_seq ?_
  refine wpc_region <| wpl_q (q_pure rfl) rfl ?_
  refine wpl_q (q_lenW Tryd.underlying64 rfl zz4) rfl ?_
  refine wpl_q (q_pure rfl) rfl <| wpl_nil <| ex_then <| wpc_block ?_
  refine wpc_loopc (ι := { x : Nat × Value // (x.1 ≤ l.length) ∧ (SV x.2 (x.1 * 16)) }) [(6, _), (7, _)] (fun x Lc => (8, .int .i64 ((x.1.1 : Nat) : Int)) :: (3, x.1.2) :: Lc) (fun x => Mem w [] [.row x.1.2 (x.1.1 * 16) 5 1 (v8s (l.take x.1.1).flatten)] []) (fun x => l.length - x.1.1) ⟨(0, .slice none 0 0), ⟨Nat.zero_le _, SV.nil⟩⟩ zz10 ?_ ?_
  ·
   exact fun w h => by
     dsimp only
     rw [List.take_zero]
     exact h.nilRow 5 1
  ·
   rintro ⟨⟨i, v⟩, ⟨hi0, hi1⟩⟩; try dsimp only
   have hi0 : i ≤ l.length := hi0; have hi1 : SV v (i * 16) := hi1
   refine wpc_seq <| wpc_region <| wpl_q (q_pure rfl) rfl <| wpl_nil <| ex_then <| wpc_seq ?_
   refine wpc_cond rfl (fun hc9 => ?_) (fun hc9 => ?_)
   ·
    simp only [decide_eq_true_eq] at hc9
    have hil : i < l.length := by omega
    have hgl : (l.getD i []).length = 16 := getD_mem_len hll hil
    refine wpc_skip <| ex_then <| wpc_seq <| wpc_block <| wpc_seq <| wpc_region ?_
    refine wpl_q (q_idxW Tryd.underlying64 Tryd.ti61 rfl rfl zz4 zz1) rfl ?_
    refine wpl_q (q_ldWN Tryd.underlying61 rfl Tryd.ti61 rfl (fun w h => zz11) (v8s (l.getD i [])) (get16 hll hil) (by rw [v8s_length]; exact hgl)) rfl ?_
    refine wpl_t (t_alloc Tryd.ti61 (v8s (List.replicate 16 0)) rfl) rfl (fun b5 => ?_)
    refine wpl_t0 (t_stA Tryd.ti61 rfl rfl (by rw [v8s_length]; exact hgl) (v8s_one _) zz40) (fun _ => ?_)
    refine wpl_nil <| ex_then <| wpc_region <| wpl_q (q_pure rfl) rfl <| wpl_q (q_arAll Tryd.underlying61 Tryd.ti5 rfl rfl) rfl ?_
    refine wpl_tp (t_apW Tryd.underlying32 Tryd.ti5 rfl zz19 rfl rfl (fun w h => h.seenA zz19 (by rw [v8s_length, hgl])) (v8s_one _) zz1 zz1 (v8s (l.take (i + 1)).flatten) (by rw [flat_take hll hil]; exact (v8s_append _ _).symm)) rfl (fun b14 p14 => ?_)
    refine wpl_q (q_pure rfl) rfl <| wpl_nil <| ex_block <| ex_then <| wpc_region ?_
    refine wpl_q (q_addN (b := 1) rfl rfl zz1) rfl ?_
    refine wpl_q (q_pure rfl) rfl <| wpl_nil ?_
    refine ex_again ⟨(i + 1, b14), ⟨zz59, by rw [Nat.add_mul]; exact p14⟩⟩ ?_ ?_ ?_
    ·
     exact zz10
    ·
     exact fun w h => by
       dsimp only
       rw [Nat.add_mul]
       exact h.sel
    ·
     (show l.length - (i + 1) < l.length - i); omega
   ·
    simp only [decide_eq_false_iff_not] at hc9
    obtain rfl : i = l.length := by omega
    rw [List.take_length]
    refine wpc_exit ?_
    refine ex_then_exit ?_
    refine ex_then_exit ?_
    refine ex_block_hit ?_
    refine ex_then <| wpc_seq <| wpc_region <| wpl_q (q_pure rfl) rfl <| wpl_q (q_pure rfl) rfl <| wpl_nil <| ex_then <| wpc_ret ?_
    refine ret1 (.inl rfl) rfl rfl ?_
    exact fun w h => ⟨v, hi1, rfl, h.below, h.made SubC.h .nil⟩
end Go.Proofs.YtjpfhkjmjnjggaaDoor
namespace Go.Proofs.YtjpfhkjmjnjggaaDoor
open Go Go.PL Go.RowKit
theorem refShorts (v : Value) (xs : List UInt8) (cv : Value) (l : List (List UInt8)) (w : World) (hrow : (Ent.row v xs.length 5 1 (v8s xs)).at w) (sv : SV v xs.length) (hcv : Seen (rdO (nums [.row v xs.length 5 1 (v8s xs)]) w) cv l.length 16 (v8s l.flatten)) (hll : ∀ x ∈ l, x.length = 16) (hlim : l.length ≤ 1000) (hxl : xs.length ≤ 100000) :
    Calls Tryd.prog 57 [v, cv].toArray w (GivesR w (.row v xs.length 5 1 (v8s xs)) (xs.length + l.length * 16) 5 1 (v8s (xs ++ l.flatten))) := by
  have scv := hcv.sv
  have lcv := scv.le
  simp only [maxLen] at lcv
  refine enter (m := 27) (R := Mem w (nums [(.row v xs.length 5 1 (v8s xs))]) [(.row v xs.length 5 1 (v8s xs))] []) Tryd.func57 rfl rfl (Nat.le_of_ble_eq_true rfl) (Mem.startR w hrow) ?_
  refine wpc_seq <| wpc_region <| wpl_q (q_pure rfl) rfl <| wpl_nil <| ex_then <| wpc_seq <| wpc_seq <| wpc_region <| wpl_q (q_pure rfl) rfl <| wpl_nil <| ex_then <| wpc_block ?_
  refine wpc_loopc (ι := { x : Nat × Value // (x.1 ≤ l.length) ∧ (SV x.2 (xs.length + (x.1 * 16 + 0))) }) [(1, _)] (fun x Lc => (5, .int .i64 ((x.1.1 : Nat) : Int)) :: (0, x.1.2) :: Lc) (fun x => Mem w (nums [.row v xs.length 5 1 (v8s xs)]) [.row x.1.2 (xs.length + (x.1.1 * 16 + 0)) 5 1 (v8s (xs ++ upto l x.1.1 0))] []) (fun x => l.length - x.1.1) ⟨(0, v), ⟨Nat.zero_le _, sv⟩⟩ zz10 ?_ ?_
  ·
   exact fun w h => by
     dsimp only
     rw [show upto l 0 0 = [] from rfl, List.append_nil]
     exact h
  ·
   rintro ⟨⟨i, v2⟩, ⟨hi0, hi1⟩⟩; try dsimp only
   have hi0 : i ≤ l.length := hi0; have hi1 : SV v2 (xs.length + (i * 16 + 0)) := hi1
   refine wpc_seq <| wpc_seq <| wpc_region <| wpl_q (q_pure rfl) rfl <| wpl_q (q_pure rfl) rfl ?_
   refine wpl_q (q_lenW Tryd.underlying64 rfl zz4) rfl ?_
   refine wpl_q (q_pure rfl) rfl <| wpl_nil <| ex_then ?_
   refine wpc_cond rfl (fun hc10 => ?_) (fun hc10 => ?_)
   ·
    simp only [decide_eq_true_eq] at hc10
    have hil : i < l.length := by omega
    have hiv := hi1
    refine wpc_skip <| ex_then <| wpc_seq <| wpc_block <| wpc_seq <| wpc_region <| wpl_q (q_pure rfl) rfl <| wpl_nil <| ex_then <| wpc_block ?_
    refine wpc_loopc (ι := { x : Nat × Value // (x.1 ≤ 16) ∧ (SV x.2 (xs.length + (i * 16 + x.1))) }) [(1, _), (5, _)] (fun x Lc => (6, .int .i64 ((x.1.1 : Nat) : Int)) :: (0, x.1.2) :: Lc) (fun x => Mem w (nums [.row v xs.length 5 1 (v8s xs)]) [.row x.1.2 (xs.length + (i * 16 + x.1.1)) 5 1 (v8s (xs ++ upto l i x.1.1))] []) (fun x => 16 - x.1.1) ⟨(0, v2), ⟨Nat.zero_le _, hiv⟩⟩ zz10 ?_ ?_
    ·
     exact fun w h => h
    ·
     rintro ⟨⟨k, v3⟩, ⟨hi0, hi1⟩⟩; try dsimp only
     have hi0 : k ≤ 16 := hi0; have hi1 : SV v3 (xs.length + (i * 16 + k)) := hi1
     refine wpc_seq <| wpc_seq <| wpc_region <| wpl_q (q_pure rfl) rfl <| wpl_q (q_pure rfl) rfl <| wpl_nil <| ex_then ?_
     refine wpc_cond rfl (fun hc14 => ?_) (fun hc14 => ?_)
     ·
      simp only [decide_eq_true_eq] at hc14
      have hk16 : k < 16 := by omega
      refine wpc_skip <| ex_then <| wpc_seq <| wpc_block <| wpc_region <| wpl_q (q_pure rfl) rfl <| wpl_q (q_pure rfl) rfl <| wpl_q (q_pure rfl) rfl <| wpl_q (q_pure rfl) rfl ?_
      refine wpl_q (q_idxW Tryd.underlying64 Tryd.ti61 rfl rfl zz4 zz1) rfl ?_
      refine wpl_q (q_idxP1 Tryd.underlying61 Tryd.ti5 rfl rfl zz14) rfl ?_
      refine wpl_q (q_ldWF Tryd.underlying5 rfl rfl (fun w h => hcv.mono (rdo_old h)) (get2 hll hil hk16)) rfl ?_
      refine wpl_tp (t_bsV (v8s [_]) Tryd.underlying32 Tryd.ti5 rfl rfl zz19 zz19 rfl (v8s_one _)) rfl (fun b24 p24 => ?_)
      refine wpl_tp (t_apW Tryd.underlying32 Tryd.ti5 rfl zz19 rfl rfl (fun w h => zz11) OneC.h zz1 zz1 (v8s (xs ++ upto l i (k + 1))) (by rw [← upto_step l i k hll hil hk16, ← List.append_assoc]; exact (v8s_append _ _).symm)) rfl (fun b25 p25 => ?_)
      refine wpl_q (q_pure rfl) rfl <| wpl_nil <| ex_block <| ex_then <| wpc_region <| wpl_q (q_pure rfl) rfl ?_
      refine wpl_q (q_addN (b := 1) rfl rfl zz1) rfl ?_
      refine wpl_q (q_pure rfl) rfl <| wpl_nil ?_
      refine ex_again ⟨(k + 1, b25), ⟨zz59, p25⟩⟩ ?_ ?_ ?_
      ·
       exact zz10
      ·
       exact fun w h => by
         dsimp only
         exact h.sel
      ·
       (show 16 - (k + 1) < 16 - k); omega
     ·
      simp only [decide_eq_false_iff_not] at hc14
      obtain rfl : k = 16 := by omega
      refine wpc_exit ?_
      refine ex_then_exit ?_
      refine ex_then_exit ?_
      refine ex_block_hit ?_
      refine ex_block <| ex_then <| wpc_region <| wpl_q (q_pure rfl) rfl ?_
      refine wpl_q (q_addN (b := 1) rfl rfl zz1) rfl ?_
      refine wpl_q (q_pure rfl) rfl <| wpl_nil ?_
      refine ex_again ⟨(i + 1, v3), ⟨zz59, by show SV v3 (xs.length + ((i + 1) * 16 + 0)); rw [show (i + 1) * 16 + 0 = i * 16 + 16 from zz14]; exact hi1⟩⟩ ?_ ?_ ?_
      ·
       exact zz10
      ·
       exact fun w h => by
         dsimp only
         rw [← upto_next l i hll hil, show (i + 1) * 16 + 0 = i * 16 + 16 from zz14]
         exact h
      ·
       (show l.length - (i + 1) < l.length - i); omega
   ·
    simp only [decide_eq_false_iff_not] at hc10
    obtain rfl : i = l.length := by omega
    have hup : upto l l.length 0 = l.flatten := by unfold upto; rw [List.take_zero, List.append_nil, List.take_of_length_le (Nat.le_refl _)]
    refine wpc_exit ?_
    refine ex_then_exit ?_
    refine ex_then_exit ?_
    refine ex_block_hit ?_
    refine ex_then <| wpc_seq <| wpc_region <| wpl_q (q_pure rfl) rfl <| wpl_q (q_pure rfl) rfl <| wpl_nil <| ex_then <| wpc_ret ?_
    refine ret1 (.inl rfl) rfl rfl ?_
    exact fun w1 h => ⟨v2, hi1, rfl, by rw [hup] at h; exact h⟩
theorem mem_trim0 {w0 w : World} {Ln : List Nat} {M : List Ent} {v : Value} {m : Nat} {e : TypeId} {sz : Nat} {xs : List Value} (h : Mem w0 Ln (.row v m e sz xs :: M) [] w) (hm : 0 < m) : Mem w0 Ln (.row (slv v 0 0 sz) 0 e sz [] :: M) [] w := by
  have ho := h.own _ (List.mem_cons_self ..)
  obtain ⟨hl, ho | ⟨g, cap, cur, rfl, hb, hg, hn, hc, hs, ht⟩⟩ := ho
  · omega
  have e1 : slv (.slice (some ⟨g, 0, none⟩) m cap) 0 0 sz = .slice (some ⟨g, 0, none⟩) 0 cap := by simp [slv, sliced]; intro _; rfl
  rw [e1]
  refine ⟨h.os, h.tape, h.output, h.size, h.old, fun e he => ?_, fun e he => ?_, ?_, zz50⟩
  · rcases List.mem_cons.1 he with rfl | he
    · exact ⟨zz50, .inr ⟨g, cap, cur, rfl, hb, hg, Nat.zero_le _, hc, hs, zz50⟩⟩
    · exact h.own _ (List.mem_cons_of_mem _ he)
  · rcases List.mem_cons.1 he with rfl | he
    · exact fun k hk => h.new (.row (.slice (some ⟨g, 0, none⟩) m cap) m e sz xs) (List.mem_cons_self ..) k hk
    · exact h.new _ (List.mem_cons_of_mem _ he)
  · have := h.apart
    rw [List.pairwise_cons] at this ⊢
    exact ⟨fun f hf k hk => this.1 f hf k hk, this.2⟩
def PartsK (r : Rd) (v : Value) (ps : List (Value × List UInt8)) : Prop := Seen r v ps.length 1 (ps.map Prod.fst) ∧ ∀ q ∈ ps, Seen r q.1 q.2.length 1 (v8s q.2)
def flatK (ps : List (Value × List UInt8)) (i : Nat) : List UInt8 := ((ps.take i).map Prod.snd).flatten
theorem flatK_succ (ps : List (Value × List UInt8)) (i : Nat) (h : i < ps.length) : flatK ps (i + 1) = flatK ps i ++ (ps.getD i (undef, [])).2 := by
  unfold flatK
  rw [List.take_add_one, List.getD_eq_getElem?_getD, List.getElem?_eq_getElem h, List.map_append, List.flatten_append]
  show _ ++ ([(ps[i]).2] : List (List UInt8)).flatten = _ ++ (ps[i]).2
  simp
theorem flatK_le (ps : List (Value × List UInt8)) (i : Nat) (h : i < ps.length) : (flatK ps i).length + (ps.getD i (undef, [])).2.length ≤ (flatK ps ps.length).length := by
  have e : flatK ps ps.length = flatK ps (i + 1) ++ ((ps.drop (i + 1)).map Prod.snd).flatten := by
    unfold flatK
    rw [← List.flatten_append, ← List.map_append, List.take_append_drop, List.take_length]
  rw [e, flatK_succ ps i h, List.length_append, List.length_append]; omega
theorem flatK_2 (a b : Value × List UInt8) : flatK [a, b] [a, b].length = a.2 ++ b.2 := by simp [flatK]
theorem getD_memK (ps : List (Value × List UInt8)) (i : Nat) (h : i < ps.length) : ps.getD i (undef, []) ∈ ps := by
  rw [List.getD_eq_getElem?_getD, List.getElem?_eq_getElem h]; exact List.getElem_mem h
theorem fst_get (ps : List (Value × List UInt8)) (i : Nat) (h : i < ps.length) : (ps.map Prod.fst)[i]? = some (ps.getD i (undef, [])).1 := by
  rw [List.getElem?_map, List.getD_eq_getElem?_getD, List.getElem?_eq_getElem h]; rfl
theorem grow (n : Nat) (w : World)  (hn : n ≤ 100000) :
    Calls Tryd.prog 109 [.slice none 0 0, .int .i64 ((n : Nat) : Int)].toArray w (GivesP w (fun v => SV v 0) (fun v => v) (fun v => [.row v 0 5 1 []]) (fun _ => [])) := by
  refine enter (m := 27) (R := Mem w [] [] []) Tryd.func109 rfl rfl (Nat.le_of_ble_eq_true rfl) (Mem.start w) ?_
  refine wpc_seq <| wpc_region <| wpl_q (q_pure rfl) rfl <| wpl_nil <| ex_then <| wpc_seq <| wpc_seq <| wpc_region <| wpl_q (q_pure rfl) rfl <| wpl_q (q_pure rfl) rfl <| wpl_nil <| ex_then ?_
  refine wpc_cond rfl (fun hc6 => ?_) (fun hc6 => ?_)
  ·
   simp only [decide_eq_true_eq] at hc6; omega
  ·
   refine wpc_skip <| ex_then <| wpc_seq <| wpc_seq <| wpc_region <| wpl_q (q_pure rfl) rfl <| wpl_q (q_pure rfl) rfl <| wpl_q (q_capW Tryd.underlying32 rfl) rfl <| wpl_q (q_pure rfl) rfl ?_
   refine wpl_q (q_lenW Tryd.underlying32 rfl zz4) rfl ?_
   first | refine wpl_q (qop_eq (q_pure rfl) (congrArg (Value.int .i64) (wk_i64 zz14 zz14))) rfl ?_ | refine wpl_q (q_pure rfl) rfl ?_
   first | refine wpl_q (qop_eq (q_pure rfl) (congrArg (Value.int .i64) (wk_i64 zz14 zz14))) rfl ?_ | refine wpl_q (q_pure rfl) rfl ?_
   refine wpl_q (q_pure rfl) rfl ?_
   refine wpl_re 1 rfl (show _ = Value.int .i64 ((n : Nat) : Int) from congrArg (Value.int .i64) zz14) ?_
   refine wpl_nil <| ex_then <| wpc_seq <| wpc_region <| wpl_q (q_pure rfl) rfl <| wpl_q (q_pure rfl) rfl <| wpl_nil <| ex_then ?_
   refine wpc_cond rfl (fun hc16 => ?_) (fun hc16 => ?_)
   ·
    simp only [decide_eq_true_eq, gt_iff_lt] at hc16
    have h0 : 0 < n := by omega
    refine wpc_region <| wpl_q (q_pure rfl) rfl <| wpl_q (q_pure rfl) rfl <| wpl_q (q_capW Tryd.underlying32 rfl) rfl ?_
    refine wpl_q (q_slWh Tryd.underlying32 Tryd.ti5 rfl rfl zz4 zz14) rfl ?_
    refine wpl_q (q_pure rfl) rfl ?_
    refine wpl_tp (t_apZ Tryd.underlying32 Tryd.underlying3 Tryd.ti5 rfl zz19 rfl rfl h0 (by simp only [maxLen]; omega) zz14 _ rfl) rfl (fun b22 p22 => ?_)
    refine wpl_q (q_pure rfl) rfl ?_
    refine wpl_q (q_lenW Tryd.underlying32 rfl zz4) rfl ?_
    refine wpl_q (q_slWh Tryd.underlying32 Tryd.ti5 rfl rfl zz4 zz14) rfl ?_
    refine wpl_q (q_pure rfl) rfl <| wpl_nil <| ex_then <| wpc_seq <| wpc_region <| wpl_q (q_pure rfl) rfl <| wpl_q (q_pure rfl) rfl <| wpl_nil <| ex_then <| wpc_ret ?_
    refine ret1 (.inl rfl) rfl rfl ?_
    exact fun w h => ⟨slv b22 0 0 1, SV.slv (l := 0) (k := 0) (sz := 1) p22 zz14 zz14, rfl, h.below, (mem_trim0 h h0).made SubC.h .nil⟩
   ·
    simp only [decide_eq_false_iff_not, gt_iff_lt] at hc16
    refine wpc_skip <| ex_then <| wpc_seq <| wpc_region <| wpl_q (q_pure rfl) rfl <| wpl_q (q_pure rfl) rfl <| wpl_nil <| ex_then <| wpc_ret ?_
    refine ret1 (.inl rfl) rfl rfl ?_
    exact fun w h => ⟨.slice none 0 0, SV.nil, rfl, h.below, (h.nilRow 5 1).made zz8 .nil⟩
theorem concat (pv : Value) (ps : List (Value × List UInt8)) (w : World) (hP : PartsK w.cell? pv ps) (hlim : (flatK ps ps.length).length ≤ 100000) :
    Calls Tryd.prog 92 [pv].toArray w (GivesP w (fun v => SV v (flatK ps ps.length).length) (fun v => v) (fun v => [.row v (flatK ps ps.length).length 5 1 (v8s (flatK ps ps.length))]) (fun _ => [])) := by
  have spv := hP.1.sv
  have lpv := spv.le
  simp only [maxLen] at lpv
  refine enter (m := 36) (R := Mem w [] [] []) Tryd.func92 rfl rfl (Nat.le_of_ble_eq_true rfl) (Mem.start w) ?_
  refine wpc_seq <| wpc_region <| wpl_q (q_pure rfl) rfl <| wpl_nil <| ex_then <| wpc_seq <| wpc_region <| wpl_q (q_pure rfl) rfl ?_
  first | refine wpl_re 3 rfl (congrArg (fun n : Nat => Value.int .i64 (n : Int)) hfs) ?_ | skip
  refine wpl_nil <| ex_then <| wpc_seq <| wpc_seq <| wpc_region <| wpl_q (q_pure rfl) rfl ?_
  refine wpl_q (q_lenW Tryd.underlying160 rfl zz4) rfl ?_
  refine wpl_q (q_pure rfl) rfl <| wpl_nil <| ex_then <| wpc_block ?_
  refine wpc_loopc (ι := { x : Nat // (x ≤ ps.length) }) [(0, _), (9, _), (10, _)] (fun x Lc => (11, .int .i64 ((x.1 : Nat) : Int)) :: (3, .int .i64 (((flatK ps x.1).length : Nat) : Int)) :: Lc) (fun x => Mem w [] [] []) (fun x => ps.length - x.1) ⟨0, zz18⟩ zz10 ?_ ?_
  ·
   exact fun w h => h
  ·
   rintro ⟨i, hi0⟩; try dsimp only
   have hi0 : i ≤ ps.length := hi0
   refine wpc_seq <| wpc_region <| wpl_q (q_pure rfl) rfl <| wpl_nil <| ex_then <| wpc_seq ?_
   refine wpc_cond rfl (fun hc12 => ?_) (fun hc12 => ?_)
   ·
    simp only [decide_eq_true_eq] at hc12
    have hi : i < ps.length := by omega
    have hle := flatK_le ps i hi
    have hsq := hP.2 _ (getD_memK ps i hi)
    have ssq := hsq.sv
    have hfs : (flatK ps i).length + (ps.getD i (undef, [])).2.length = (flatK ps (i + 1)).length := by rw [flatK_succ ps i hi, List.length_append]
    refine wpc_skip <| ex_then <| wpc_seq <| wpc_block <| wpc_seq <| wpc_region ?_
    refine wpl_q (q_idxW1 Tryd.underlying160 Tryd.ti32 rfl rfl zz4 zz1) rfl ?_
    refine wpl_q (q_ldW Tryd.underlying32 rfl rfl (fun w h => h.seen_old hP.1) (fst_get ps i hi)) rfl ?_
    refine wpl_q (q_pure rfl) rfl <| wpl_nil <| ex_then <| wpc_seq <| wpc_region <| wpl_q (q_pure rfl) rfl <| wpl_q (q_pure rfl) rfl ?_
    refine wpl_q (q_lenW Tryd.underlying32 rfl zz4) rfl ?_
    refine wpl_q (q_addN rfl rfl zz1) rfl ?_
    refine wpl_q (q_pure rfl) rfl ?_
    first | refine wpl_re 3 rfl (congrArg (fun n : Nat => Value.int .i64 (n : Int)) hfs) ?_ | skip
    refine wpl_nil <| ex_then <| wpc_seq <| wpc_region <| wpl_q (q_pure rfl) rfl <| wpl_q (q_pure rfl) rfl <| wpl_nil <| ex_then ?_
    refine wpc_cond rfl (fun hc20 => ?_) (fun hc20 => ?_)
    ·
     simp only [decide_eq_true_eq] at hc20; omega
    ·
     refine wpc_skip <| ex_block <| ex_then <| wpc_region ?_
     refine wpl_q (q_addN (b := 1) rfl rfl zz1) rfl ?_
     refine wpl_q (q_pure rfl) rfl <| wpl_nil ?_
     refine ex_again ⟨i + 1, zz18⟩ ?_ ?_ ?_
     ·
      exact zz10
     ·
      exact fun w h => by first | exact h | exact h.sub SubC.h SubC.h | exact h.sub zz8 zz8
     ·
      (show ps.length - (i + 1) < ps.length - i); omega
   ·
    simp only [decide_eq_false_iff_not] at hc12
    obtain rfl : i = ps.length := by omega
    refine wpc_exit ?_
    refine ex_then_exit ?_
    refine ex_then_exit ?_
    refine ex_block_hit ?_
    refine ex_then <| wpc_seq <| wpc_region <| wpl_q (q_pure rfl) rfl ?_
    refine wpl_tp (t_callP1 Tryd.hb109 rfl fun w h => grow _ w hlim) rfl (fun b24 p24 => ?_)
    refine wpl_q (q_pure rfl) rfl <| wpl_nil <| ex_then <| wpc_seq <| wpc_seq <| wpc_region <| wpl_q (q_pure rfl) rfl ?_
    refine wpl_q (q_lenW Tryd.underlying160 rfl zz4) rfl ?_
    refine wpl_q (q_pure rfl) rfl <| wpl_nil <| ex_then <| wpc_block ?_
    refine wpc_loopc (ι := { x : Nat × Value // (x.1 ≤ ps.length) ∧ (SV x.2 (flatK ps x.1).length) }) [(25, _), (26, _)] (fun x Lc => (27, .int .i64 ((x.1.1 : Nat) : Int)) :: (6, x.1.2) :: Lc) (fun x => Mem w [] [.row x.1.2 (flatK ps x.1.1).length 5 1 (v8s (flatK ps x.1.1))] []) (fun x => ps.length - x.1.1) ⟨(0, b24), ⟨Nat.zero_le _, p24⟩⟩ zz10 ?_ ?_
    ·
     exact fun w h => h
    ·
     rintro ⟨⟨i, v⟩, ⟨hi0, hi1⟩⟩; try dsimp only
     have hi0 : i ≤ ps.length := hi0; have hi1 : SV v (flatK ps i).length := hi1
     refine wpc_seq <| wpc_region <| wpl_q (q_pure rfl) rfl <| wpl_nil <| ex_then <| wpc_seq ?_
     refine wpc_cond rfl (fun hc28 => ?_) (fun hc28 => ?_)
     ·
      simp only [decide_eq_true_eq] at hc28
      have hi : i < ps.length := by omega
      have hle := flatK_le ps i hi
      have hsq := hP.2 _ (getD_memK ps i hi)
      have ssq := hsq.sv
      refine wpc_skip <| ex_then <| wpc_seq <| wpc_block <| wpc_seq <| wpc_region ?_
      refine wpl_q (q_idxW1 Tryd.underlying160 Tryd.ti32 rfl rfl zz4 zz1) rfl ?_
      refine wpl_q (q_ldW Tryd.underlying32 rfl rfl (fun w h => h.seen_old hP.1) (fst_get ps i hi)) rfl ?_
      refine wpl_q (q_pure rfl) rfl <| wpl_nil <| ex_then <| wpc_region <| wpl_q (q_pure rfl) rfl <| wpl_q (q_pure rfl) rfl ?_
      refine wpl_tp (t_apW Tryd.underlying32 Tryd.ti5 rfl zz19 rfl rfl (fun w h => h.seen_old hsq) (v8s_one _) zz1 zz1 (v8s (flatK ps i ++ (ps.getD i (undef, [])).2)) (by rw [v8s_append])) rfl (fun b33 p33 => ?_)
      refine wpl_q (q_pure rfl) rfl <| wpl_nil <| ex_block <| ex_then <| wpc_region ?_
      refine wpl_q (q_addN (b := 1) rfl rfl zz1) rfl ?_
      refine wpl_q (q_pure rfl) rfl <| wpl_nil ?_
      refine ex_again ⟨(i + 1, b33), ⟨zz14, by rw [flatK_succ ps i hi, List.length_append]; exact p33⟩⟩ ?_ ?_ ?_
      ·
       exact zz10
      ·
       exact fun w h => by dsimp only; rw [flatK_succ ps i hi, List.length_append]; exact h.sub SubC.h SubC.h
      ·
       (show ps.length - (i + 1) < ps.length - i); omega
     ·
      simp only [decide_eq_false_iff_not] at hc28
      obtain rfl : i = ps.length := by omega
      refine wpc_exit ?_
      refine ex_then_exit ?_
      refine ex_then_exit ?_
      refine ex_block_hit ?_
      refine ex_then <| wpc_seq <| wpc_region <| wpl_q (q_pure rfl) rfl <| wpl_q (q_pure rfl) rfl <| wpl_nil <| ex_then <| wpc_ret ?_
      refine ret1 (.inl rfl) rfl rfl ?_
      exact fun w h => ⟨v, hi1, rfl, h.below, h.made SubC.h .nil⟩
theorem joinB (pv : Value) (ps : List (Value × List UInt8)) (w : World) (hP : PartsK w.cell? pv ps) (hlim : (flatK ps ps.length).length ≤ 100000) :
    Calls Tryd.prog 73 [pv].toArray w (GivesP w (fun v => SV v (flatK ps ps.length).length) (fun v => v) (fun v => [.row v (flatK ps ps.length).length 5 1 (v8s (flatK ps ps.length))]) (fun _ => [])) := by
  refine enter (m := 5) (R := Mem w [] [] []) Tryd.func73 rfl rfl (Nat.le_of_ble_eq_true rfl) (Mem.start w) ?_
  refine wpc_seq <| wpc_region <| wpl_q (q_pure rfl) rfl <| wpl_nil <| ex_then <| wpc_seq <| wpc_region <| wpl_q (q_pure rfl) rfl ?_
  refine wpl_tp (t_callP1 Tryd.hb92 rfl fun w h => concat pv ps w ⟨h.seen_old hP.1, fun q hq => h.seen_old (hP.2 q hq)⟩ hlim) rfl (fun b4 p4 => ?_)
  refine wpl_q (q_pure rfl) rfl <| wpl_nil <| ex_then <| wpc_ret ?_
  refine ret1 (.inl rfl) rfl rfl ?_
  exact fun w h => ⟨b4, p4, rfl, h.below, h.made SubC.h .nil⟩
end Go.Proofs.YtjpfhkjmjnjggaaDoor
namespace Go.Proofs.YtjpfhkjmjnjggaaDoor
open Go Go.PL Go.RowKit
theorem get_one {L : Slots} {d : Nat} {v : Value} (h : get L d = some v) : ∀ t u, get [(d, v)] t = some u → get L t = some u := by
  intro t u ht
  rw [get_cons] at ht
  split at ht
  · rename_i e
    cases ht
    rw [← e]; exact h
  · cases ht
theorem seenR {w0 w : World} {Ln : List Nat} {M : List Ent} {S : List Fact} (h : Mem w0 Ln M S w) {v : Value} {m : Nat} {e : TypeId} {sz : Nat} {xs : List Value} (hm : Ent.row v m e sz xs ∈ M) : Seen w.cell? v m sz xs := h.seen_row hm
theorem word32 (x : UInt32) (w : World) : Calls Tryd.prog 74 [.int .u64 ((of64 ((x.toNat : Nat) : Int)).toNat : Int), .int .i64 4].toArray w (GivesP w (fun v => SV v 4) (fun v => v) (fun v => [.row v 4 5 1 (v8s (numK 4 x.toNat))]) (fun _ => [])) := by
  have q := wordB (of64 ((x.toNat : Nat) : Int)) 4 w zz19
  have e : (of64 ((x.toNat : Nat) : Int)).toNat = x.toNat := of64_nat _ (by have := x.toNat_lt; omega)
  clear q
  generalize of64 ((x.toNat : Nat) : Int) = z at e ⊢
  have q := wordB z 4 w zz19
  rw [e] at q ⊢
  exact q
def headB (h : Hop) : List UInt8 := numK 4 h.to.toNat ++ (numK 4 h.sy.toNat ++ ([h.cnt, h.fl] ++ (h.root.1 ++ [of8 h.ht])))
theorem headFlat (h : Hop) (a b c d e : Value) : flatK [(a, numK 4 h.to.toNat), (b, numK 4 h.sy.toNat), (c, [h.cnt, h.fl]), (d, [h.root.1].flatten), (e, [of8 h.ht])] [(a, numK 4 h.to.toNat), (b, numK 4 h.sy.toNat), (c, [h.cnt, h.fl]), (d, [h.root.1].flatten), (e, [of8 h.ht])].length = headB h := by simp [flatK, headB]
theorem headB_len (h : Hop) : (headB h).length = 27 := by simp [headB, numK_len, h.root.2]
theorem head (hp : Hop) (w : World) (hsv : hp.sv)  :
    Calls Tryd.prog 75 [.agg hp.c.toArray].toArray w (GivesP w (fun v => SV v 27) (fun v => v) (fun v => [.row v 27 5 1 (v8s (headB hp))]) (fun _ => [])) := by
  haveI := hsv.one
  refine enter (m := 28) (R := Mem w [] [] []) Tryd.func75 rfl rfl (Nat.le_of_ble_eq_true rfl) (Mem.start w) ?_
  refine wpc_seq <| wpc_region ?_
  refine wpl_t (t_box rfl hp.c rfl) rfl (fun b1 => ?_)
  refine wpl_q (q_pure rfl) rfl <| wpl_nil <| ex_then <| wpc_seq ?_
  refine wpc_draw 99 zz6 (fun _ h => h.drew) ?_
  refine wpd_p 0 rfl zz6 trivial (q_field Tryd.underlying68 rfl Tryd.ti49 rfl rfl _ rfl) rfl sk0 ?_
  refine wpd_q 1 rfl zz6 trivial (q_ld Tryd.underlying49 rfl rfl hp.c_to) rfl (fun _ h => h) ?_
  refine wpd_p 2 rfl zz6 trivial (q64_conv Tryd.underlying49 Tryd.underlying22 rfl) rfl sk0 ?_
  refine wpd_p 4 rfl zz6 trivial (q_field Tryd.underlying68 rfl Tryd.ti49 rfl rfl _ rfl) rfl sk0 ?_
  refine wpd_q 5 rfl zz6 trivial (q_ld Tryd.underlying49 rfl rfl hp.c_sy) rfl (fun _ h => h) ?_
  refine wpd_p 6 rfl zz6 trivial (q64_conv Tryd.underlying49 Tryd.underlying22 rfl) rfl sk0 ?_
  refine wpd_p 8 rfl zz6 trivial (q_field Tryd.underlying68 rfl Tryd.ti5 rfl rfl _ rfl) rfl sk0 ?_
  refine wpd_q 9 rfl zz6 trivial (q_ld Tryd.underlying5 rfl rfl hp.c_cnt) rfl (fun _ h => h) ?_
  refine wpd_p 10 rfl zz6 trivial (q_field Tryd.underlying68 rfl Tryd.ti5 rfl rfl _ rfl) rfl sk0 ?_
  refine wpd_q 11 rfl zz6 trivial (q_ld Tryd.underlying5 rfl rfl hp.c_fl) rfl (fun _ h => h) ?_
  refine wpd_p 13 rfl zz6 trivial (q_field Tryd.underlying68 rfl Tryd.ti63 rfl rfl _ rfl) rfl sk0 ?_
  refine wpd_p 14 rfl zz6 trivial (q_field Tryd.underlying63 rfl Tryd.ti61 rfl rfl _ rfl) rfl sk0 ?_
  refine wpd_q 15 rfl zz6 trivial (q_ldP Tryd.underlying61 rfl Tryd.ti61 rfl (v8s hp.root.1) hp.c_root (S16.len _)) rfl (fun _ h => h) ?_
  refine wpd_p 18 rfl zz6 trivial (q_field Tryd.underlying68 rfl Tryd.ti63 rfl rfl _ rfl) rfl sk0 ?_
  refine wpd_p 19 rfl zz6 trivial (q_field Tryd.underlying63 rfl Tryd.ti3 rfl rfl _ rfl) rfl sk0 ?_
  refine wpd_q 20 rfl zz6 trivial (q_ld Tryd.underlying3 rfl rfl hp.c_ht) rfl (fun _ h => h) ?_
  refine wpd_p 21 rfl zz6 trivial (q8_conv Tryd.underlying3 Tryd.underlying5 rfl) rfl sk0 ?_
  refine wpd_makers (lf := #[true, true, true, true, true, true, true, true, true, true, true, true, true, true, true, true, true, true, true, true, true, true, true, false, false, false]) [0, 1, 2, 4, 5, 6, 8, 9, 10, 11, 13, 14, 15, 18, 19, 20, 21] [⟨3, 6, [], (fun _ v => SV v 4), (fun _ v => .row v 4 5 1 (v8s (numK 4 hp.to.toNat)))⟩, ⟨7, 10, [], (fun _ v => SV v 4), (fun _ v => .row v 4 5 1 (v8s (numK 4 hp.sy.toNat)))⟩, ⟨12, 15, [], (fun _ v => SV v 2), (fun _ v => .row v 2 5 1 (v8s [hp.cnt, hp.fl]))⟩, ⟨16, 19, [], (fun _ v => SV v 1), (fun _ v => .row v 1 61 16 (v8s [hp.root.1].flatten))⟩, ⟨17, 20, [16], (fun _ v => SV v 16), (fun _ v => .row v 16 5 1 (v8s [hp.root.1].flatten))⟩, ⟨22, 25, [], (fun _ v => SV v 1), (fun _ v => .row v 1 5 1 (v8s [of8 hp.ht]))⟩] 6 rfl zz6 zz29 (fun σ w h => h.sub (sub_app _ _) (Sub.refl _)) ?_ ?_
  ·
   intro m hm o ho σ hσ hd
   simp only [List.mem_cons, List.not_mem_nil, or_false] at hm
   rcases hm with rfl | rfl | rfl | rfl | rfl | rfl
   ·
    obtain rfl := Option.some.inj ho
    show TOpP _ _ _ _ _ _ Value (fun v => SV v 4) (fun v => v) (fun v => Mem _ _ (.row v 4 5 1 (v8s (numK 4 hp.to.toNat)) :: _) _)
    exact TOpP.weakL (fun t u hh => slots_base t hh _ zz29) (t_callP1 Tryd.hb74 rfl fun w h => word32 hp.to w)
   ·
    obtain rfl := Option.some.inj ho
    show TOpP _ _ _ _ _ _ Value (fun v => SV v 4) (fun v => v) (fun v => Mem _ _ (.row v 4 5 1 (v8s (numK 4 hp.sy.toNat)) :: _) _)
    exact TOpP.weakL (fun t u hh => slots_base t hh _ zz29) (t_callP1 Tryd.hb74 rfl fun w h => word32 hp.sy w)
   ·
    obtain rfl := Option.some.inj ho
    show TOpP _ _ _ _ _ _ Value (fun v => SV v 2) (fun v => v) (fun v => Mem _ _ (.row v 2 5 1 (v8s [hp.cnt, hp.fl]) :: _) _)
    exact TOpP.weakL (fun t u hh => slots_base t hh _ zz29) (t_bsV (v8s [hp.cnt, hp.fl]) Tryd.underlying32 Tryd.ti5 rfl rfl zz19 zz19 rfl (v8s_one _))
   ·
    obtain rfl := Option.some.inj ho
    show TOpP _ _ _ _ _ _ Value (fun v => SV v 1) (fun v => v) (fun v => Mem _ _ (.row v 1 61 16 (v8s [hp.root.1].flatten) :: _) _)
    exact TOpP.weakL (fun t u hh => slots_base t hh _ zz29) (t_bsS [hp.root.1] Tryd.underlying64 Tryd.ti61 rfl zz19 rfl zz19 zz19 rfl (all_one hp.root.2))
   ·
    obtain rfl := Option.some.inj ho
    show TOpP _ _ _ _ _ _ Value (fun v => SV v 16) (fun v => v) (fun v => Mem _ _ (.row v 16 5 1 (v8s [hp.root.1].flatten) :: _) _)
    have m19 : (⟨16, 19, [], (fun _ v => SV v 1), (fun _ v => .row v 1 61 16 (v8s [hp.root.1].flatten))⟩ : Mk) ∈ [⟨3, 6, [], (fun _ v => SV v 4), (fun _ v => .row v 4 5 1 (v8s (numK 4 hp.to.toNat)))⟩, ⟨7, 10, [], (fun _ v => SV v 4), (fun _ v => .row v 4 5 1 (v8s (numK 4 hp.sy.toNat)))⟩, ⟨12, 15, [], (fun _ v => SV v 2), (fun _ v => .row v 2 5 1 (v8s [hp.cnt, hp.fl]))⟩, ⟨16, 19, [], (fun _ v => SV v 1), (fun _ v => .row v 1 61 16 (v8s [hp.root.1].flatten))⟩, ⟨17, 20, [16], (fun _ v => SV v 16), (fun _ v => .row v 16 5 1 (v8s [hp.root.1].flatten))⟩, ⟨22, 25, [], (fun _ v => SV v 1), (fun _ v => .row v 1 5 1 (v8s [of8 hp.ht]))⟩] := List.mem_cons_of_mem _ (List.mem_cons_of_mem _ (List.mem_cons_of_mem _ (List.mem_cons_self ..)))
    obtain ⟨v19, h19⟩ := Option.isSome_iff_exists.1 (hd 16 zz50)
    exact TOpP.weakL (L' := [(19, v19)]) (get_one (slots_mk h19 _ (apartB_spec (by rfl)) m19)) (t_callP1 Tryd.hb77 rfl fun w h => shorts v19 [hp.root.1] w (seenR h (List.mem_append_left _ (ents_mk h19 _ m19))) (all_one hp.root.2) (show 1 ≤ 1000 from zz19))
   ·
    obtain rfl := Option.some.inj ho
    show TOpP _ _ _ _ _ _ Value (fun v => SV v 1) (fun v => v) (fun v => Mem _ _ (.row v 1 5 1 (v8s [of8 hp.ht]) :: _) _)
    exact TOpP.weakL (fun t u hh => slots_base t hh _ zz29) (t_bsV (v8s [of8 hp.ht]) Tryd.underlying32 Tryd.ti5 rfl rfl zz19 zz19 rfl (v8s_one _))
  ·
   intro σ hσ hall
   obtain ⟨b6, q6⟩ := Option.isSome_iff_exists.1 (hall _ (List.mem_cons_self ..))
   obtain ⟨b10, q10⟩ := Option.isSome_iff_exists.1 (hall _ (List.mem_cons_of_mem _ (List.mem_cons_self ..)))
   obtain ⟨b15, q15⟩ := Option.isSome_iff_exists.1 (hall _ (List.mem_cons_of_mem _ (List.mem_cons_of_mem _ (List.mem_cons_self ..))))
   obtain ⟨b19, q19⟩ := Option.isSome_iff_exists.1 (hall _ (List.mem_cons_of_mem _ (List.mem_cons_of_mem _ (List.mem_cons_of_mem _ (List.mem_cons_self ..)))))
   obtain ⟨b20, q20⟩ := Option.isSome_iff_exists.1 (hall _ (List.mem_cons_of_mem _ (List.mem_cons_of_mem _ (List.mem_cons_of_mem _ (List.mem_cons_of_mem _ (List.mem_cons_self ..))))))
   obtain ⟨b25, q25⟩ := Option.isSome_iff_exists.1 (hall _ (List.mem_cons_of_mem _ (List.mem_cons_of_mem _ (List.mem_cons_of_mem _ (List.mem_cons_of_mem _ (List.mem_cons_of_mem _ (List.mem_cons_self ..)))))))
   have p6 := (hσ _ (List.mem_cons_self ..) b6 q6).2
   try dsimp only at p6
   have p10 := (hσ _ (List.mem_cons_of_mem _ (List.mem_cons_self ..)) b10 q10).2
   try dsimp only at p10
   have p15 := (hσ _ (List.mem_cons_of_mem _ (List.mem_cons_of_mem _ (List.mem_cons_self ..))) b15 q15).2
   try dsimp only at p15
   have p19 := (hσ _ (List.mem_cons_of_mem _ (List.mem_cons_of_mem _ (List.mem_cons_of_mem _ (List.mem_cons_self ..)))) b19 q19).2
   try dsimp only at p19
   have p20 := (hσ _ (List.mem_cons_of_mem _ (List.mem_cons_of_mem _ (List.mem_cons_of_mem _ (List.mem_cons_of_mem _ (List.mem_cons_self ..))))) b20 q20).2
   try dsimp only at p20
   have p25 := (hσ _ (List.mem_cons_of_mem _ (List.mem_cons_of_mem _ (List.mem_cons_of_mem _ (List.mem_cons_of_mem _ (List.mem_cons_of_mem _ (List.mem_cons_self ..)))))) b25 q25).2
   try dsimp only at p25
   try dsimp only at q6 q10 q15 q19 q20 q25
   simp only [mkEnts, mkSlots, q6, q10, q15, q19, q20, q25, List.cons_append, List.nil_append, List.map_cons, List.map_nil, Asg.v, Option.getD_some]
   refine wpd_tp 23 rfl zz6 trivial (t_bsV [b6, b10, b15, b20, b25] Tryd.underlying160 Tryd.ti32 rfl rfl zz19 zz19 rfl (by intro u hu; simp only [List.mem_cons, List.not_mem_nil, or_false] at hu; rcases hu with rfl | rfl | rfl | rfl | rfl <;> exact SV.one zz57)) rfl (fun _ => (fun w h => .inr (h.sub SubC.h SubC.h))) (fun b26 p26 => ?_)
   refine wpd_tp 24 rfl zz6 trivial (t_callP1 Tryd.hb73 rfl fun w h => by
     have q := joinB b26 [(b6, numK 4 hp.to.toNat), (b10, numK 4 hp.sy.toNat), (b15, [hp.cnt, hp.fl]), (b20, [hp.root.1].flatten), (b25, [of8 hp.ht])] w ⟨h.seenV, fun q hq => by
     simp only [List.mem_cons, List.not_mem_nil, or_false] at hq
     rcases hq with rfl | rfl | rfl | rfl | rfl <;> exact Seen.re8 h.seenV⟩ (by rw [headFlat, headB_len]; decide)
     rwa [headFlat, headB_len] at q) rfl (fun _ => (fun w h => .inr (h.sub SubC.h SubC.h))) (fun b27 p27 => ?_)
   refine wpd_p 25 rfl zz6 trivial (q_pure rfl) rfl (fun w h => .inr (h.sub SubC.h SubC.h)) ?_
   refine wpd_done zz6 ?_
   refine ex_then <| wpc_ret ?_
   refine ret1 (.inl rfl) rfl rfl ?_
   exact fun w1 h2 => ⟨b27, p27, rfl, h2.below, h2.made SubC.h .nil⟩
end Go.Proofs.YtjpfhkjmjnjggaaDoor
namespace Go.Proofs.YtjpfhkjmjnjggaaDoor
open Go Go.PL Go.RowKit
def rest0 (p : Pth) : List UInt8 := [p.pf, of8 p.pl] ++ (numK 8 p.pa.toNat ++ numK 8 p.pb.toNat)
def tailH (h : Hop) : List UInt8 := numK 4 (of64 h.ix).toNat ++ (h.chs.flatten ++ h.ps.flatten)
def restF (p : Pth) : Nat → List UInt8
  | 0 => rest0 p
  | i + 1 => sumF ((headB (p.hs.getD i Hop.z) ++ restF p i) ++ tailH (p.hs.getD i Hop.z))
def msgB (p : Pth) (i : Nat) : List UInt8 := headB (p.hs.getD i Hop.z) ++ restF p i
def msgs (p : Pth) : List (Nat × List UInt8) := (List.range p.hs.length).map fun i => (i, msgB p i)
theorem adL_one (a b : UInt64) : ∀ u ∈ adL a b, u.oneCell' = true := by
  intro u hu
  simp only [adL, List.mem_cons, List.not_mem_nil, or_false] at hu
  rcases hu with rfl | rfl <;> rfl
theorem adL_len (a b : UInt64) : (adL a b).length = 2 := rfl
theorem rest0_len (p : Pth) : (rest0 p).length = 18 := by simp [rest0, numK_len]
theorem restF_len (p : Pth) (i : Nat) : (restF p i).length ≤ 32 := by
  cases i with
  | zero => rw [restF, rest0_len]; decide
  | succ n => rw [restF, sumF_length]; exact Nat.le_refl _
theorem msgB_len (p : Pth) (i : Nat) : (msgB p i).length ≤ 59 := by
  have := restF_len p i
  rw [msgB, List.length_append, headB_len]; omega
theorem msgs_take {p : Pth} {i : Nat} (hi : i < p.hs.length) : (msgs p).take i ++ [(i, msgB p i)] = (msgs p).take (i + 1) := by
  rw [List.take_add_one, msgs, List.getElem?_map, List.getElem?_range hi]
  rfl
theorem msgs_pre {p : Pth} {i : Nat} (hi : i < p.hs.length) : ((msgs p).take i ++ [(i, msgB p i)]) <+: msgs p := by rw [msgs_take hi]; exact List.take_prefix _ _
theorem msgs_len (p : Pth) : (msgs p).length = p.hs.length := by rw [msgs, List.length_map, List.length_range]
theorem msgs_all (p : Pth) : (msgs p).take p.hs.length = msgs p := List.take_of_length_le (by rw [msgs_len]; exact Nat.le_refl _)
theorem flat_len16 {l : List (List UInt8)} (h : ∀ x ∈ l, x.length = 16) : l.flatten.length = l.length * 16 := by
  have q := flat_takeL h (Nat.le_refl _)
  rwa [List.take_length] at q
theorem tailH_len {h : Hop} (h1 : ∀ x ∈ h.chs, x.length = 16) (h2 : ∀ x ∈ h.ps, x.length = 16) : (tailH h).length = 4 + (h.chs.length * 16 + h.ps.length * 16) := by
  rw [tailH, List.length_append, numK_len, List.length_append, flat_len16 h1, flat_len16 h2]
theorem flatK_3 (a b c : Value × List UInt8) : flatK [a, b, c] [a, b, c].length = a.2 ++ (b.2 ++ c.2) := by simp [flatK]
theorem flatK_4 (a b c d : Value × List UInt8) : flatK [a, b, c, d] [a, b, c, d].length = a.2 ++ (b.2 ++ (c.2 ++ d.2)) := by simp [flatK]
def encM (x : Nat × List UInt8) (v : Value) : Array Value := #[.int .i64 ((x.1 : Nat) : Int), v]
def AtM (T : List Nat) (x : Nat × List UInt8) (v : Value) (w : World) : Prop := RowAt T (.row v x.2.length 5 1 (v8s x.2)) w
def InvM (p : Pth) (w : World) : Prop := p.seen w.cell? ∧ Glb w
theorem restRow {v : Value} {xs : List UInt8} (w : World) (h : (Ent.row v xs.length 5 1 (v8s xs)).at w) : Seen w.cell? v xs.length 1 (v8s xs) := (Mem.startR w h).seenV
theorem restBlk {b : Nat} {xs : List UInt8} (hl : xs.length = 32) (w : World) (h : (Ent.blk b 113 (v8s xs)).at w) : Seen w.cell? (arv b 32) xs.length 1 (v8s xs) := by
  have q : Seen w.cell? (arv b 32) 32 1 (v8s xs) := (Mem.start1 w h).seenA zz19 (by rw [v8s_length, hl])
  rw [hl]; exact q
theorem messages (p : Pth) (w : World) (hp : p.sv)  :
    Calls Tryd.prog 49 [.agg p.c.toArray].toArray w (Gives w (fun pp : Nat => .func (.func 72) #[] #[.pointer (some ⟨pp, 0, none⟩)]) (fun pp => [.blk pp 29 p.c]) (fun _ => [])) := by
  haveI := hp.one
  refine enter (m := 4) (R := Mem w [] [] []) Tryd.func49 rfl rfl (Nat.le_of_ble_eq_true rfl) (Mem.start w) ?_
  refine wpc_seq <| wpc_region ?_
  refine wpl_t (t_box rfl p.c rfl) rfl (fun b1 => ?_)
  refine wpl_q (q_pure rfl) rfl <| wpl_nil <| ex_then <| wpc_seq <| wpc_region ?_
  refine wpl_q (q_fn (us := []) (vs := [.pointer (some ⟨b1, 0, none⟩)]) rfl rfl) rfl ?_
  refine wpl_q (q_pure rfl) rfl <| wpl_nil <| ex_then <| wpc_ret ?_
  refine ret1 (.inl rfl) rfl rfl ?_
  exact fun w h => ⟨b1, rfl, h.below, h.made SubC.h .nil⟩
end Go.Proofs.YtjpfhkjmjnjggaaDoor
namespace Go.Proofs.YtjpfhkjmjnjggaaDoor
open Go Go.PL Go.RowKit
theorem messages1 (yl : Nat) (pp : Nat) (p : Pth) (J : List Nat → List (Nat × List UInt8) → World → Prop) (K : World → Prop) (w : World)  (hst : StabJ J) (hinv : ∀ T pre w1, J T pre w1 → InvM p w1) (hsk : StabK K) (hy : YieldS Tryd.prog yl encM AtM (msgs p) J K) (hJ0 : J [pp] [] w) (hpp : w.heap[pp]? = some (.cells p.c.toArray 29 (0, 0))) (hlim : ∀ h ∈ p.hs, h.chs.length ≤ 100 ∧ h.ps.length ≤ 100) :
    Calls Tryd.prog 72 [.func (.yield yl) #[] #[], .pointer (some ⟨pp, 0, none⟩)].toArray w (IterPost J K (msgs p)) := by
  obtain ⟨pf, pa, pb, pl, hv, hs⟩ := p
  have hp := (hinv _ _ _ hJ0).1
  have hh : Seen w.cell? hv hs.length 24 (hcs hs) := hp.1
  have svh := hh.sv
  have lh := svh.le
  simp only [maxLen] at lh
  change ∀ h ∈ hs, h.chs.length ≤ 100 ∧ h.ps.length ≤ 100 at hlim
  refine enter (m := 65) (R := Mem w [pp] [.blk pp 29 [.int .u8 (pf.toNat : Int), .int .u64 (pa.toNat : Int), .int .u64 (pb.toNat : Int), .int .i64 pl, hv]] []) Tryd.func72 rfl rfl (Nat.le_of_ble_eq_true rfl) (Mem.start1 w hpp) ?_
  refine wpc_seq <| wpc_region <| wpl_q (q_field Tryd.underlying29 rfl Tryd.ti26 rfl rfl _ rfl) rfl <| wpl_q (q_field Tryd.underlying26 rfl Tryd.ti24 rfl rfl _ rfl) rfl ?_
  refine wpl_q (q_ldP Tryd.underlying24 rfl Tryd.ti24 rfl (adL pa pb) rfl zz2) rfl ?_
  refine wpl_t (t_alloc Tryd.ti24 [.int .u64 0, .int .u64 0] rfl) rfl (fun b3 => ?_)
  refine wpl_t0 (t_stA Tryd.ti24 rfl rfl (by first | exact LenC.h | exact adL_len _ _ | (rw [v8s_length]; exact sumF_length _)) (by first | exact OneC.h | exact v8s_one _ | exact adL_one _ _) (by first | exact LenC.h | rfl)) (fun _ => ?_)
  refine wpl_nil <| ex_then <| wpc_seq ?_
  refine wpc_draw 17 zz6 (fun _ h => h.drew) ?_
  refine wpd_p 0 rfl zz6 trivial (q_field Tryd.underlying29 rfl Tryd.ti26 rfl rfl _ rfl) rfl sk0 ?_
  refine wpd_p 1 rfl zz6 trivial (q_field Tryd.underlying26 rfl Tryd.ti5 rfl rfl _ rfl) rfl sk0 ?_
  refine wpd_q 2 rfl zz6 trivial (q_ld Tryd.underlying5 rfl rfl zz38) rfl (fun _ h => h) ?_
  refine wpd_p 3 rfl zz6 trivial (q_field Tryd.underlying29 rfl Tryd.ti26 rfl rfl _ rfl) rfl sk0 ?_
  refine wpd_p 4 rfl zz6 trivial (q_field Tryd.underlying26 rfl Tryd.ti3 rfl rfl _ rfl) rfl sk0 ?_
  refine wpd_q 5 rfl zz6 trivial (q_ld Tryd.underlying3 rfl rfl zz34) rfl (fun _ h => h) ?_
  refine wpd_p 6 rfl zz6 trivial (q8_conv Tryd.underlying3 Tryd.underlying5 rfl) rfl sk0 ?_
  refine wpd_p 8 rfl zz6 trivial (q_field Tryd.underlying24 rfl Tryd.ti22 rfl rfl _ rfl) rfl sk0 ?_
  refine wpd_q 9 rfl zz6 trivial (q_ld Tryd.underlying22 rfl rfl zz35) rfl (fun _ h => h) ?_
  refine wpd_p 11 rfl zz6 trivial (q_field Tryd.underlying24 rfl Tryd.ti22 rfl rfl _ rfl) rfl sk0 ?_
  refine wpd_q 12 rfl zz6 trivial (q_ld Tryd.underlying22 rfl rfl zz35) rfl (fun _ h => h) ?_
  refine wpd_makers (lf := #[true, true, true, true, true, true, true, true, true, true, true, true, true, true, false, false, false]) [0, 1, 2, 3, 4, 5, 6, 8, 9, 11, 12] [⟨7, 19, [], (fun _ v => SV v 2), (fun _ v => .row v 2 5 1 (v8s [pf, of8 pl]))⟩, ⟨10, 22, [], (fun _ v => SV v 8), (fun _ v => .row v 8 5 1 (v8s (numK 8 pa.toNat)))⟩, ⟨13, 25, [], (fun _ v => SV v 8), (fun _ v => .row v 8 5 1 (v8s (numK 8 pb.toNat)))⟩] 3 rfl zz6 zz46 (fun σ w h => h.sub (sub_app _ _) (Sub.refl _)) ?_ ?_
  ·
   intro m hm o ho σ hσ hd
   simp only [List.mem_cons, List.not_mem_nil, or_false] at hm
   rcases hm with rfl | rfl | rfl
   ·
    obtain rfl := Option.some.inj ho
    show TOpP _ _ _ _ _ _ Value (fun v => SV v 2) (fun v => v) (fun v => Mem _ _ (.row v 2 5 1 (v8s [pf, of8 pl]) :: _) _)
    exact TOpP.weakL (fun t u hh => slots_base t hh _ zz46) (t_bsV (v8s [pf, of8 pl]) Tryd.underlying32 Tryd.ti5 rfl rfl zz19 zz19 rfl (v8s_one _))
   ·
    obtain rfl := Option.some.inj ho
    show TOpP _ _ _ _ _ _ Value (fun v => SV v 8) (fun v => v) (fun v => Mem _ _ (.row v 8 5 1 (v8s (numK 8 pa.toNat)) :: _) _)
    exact TOpP.weakL (fun t u hh => slots_base t hh _ zz46) (t_callP1 Tryd.hb74 rfl fun w h => (fun w => wordB pa 8 w zz19) w)
   ·
    obtain rfl := Option.some.inj ho
    show TOpP _ _ _ _ _ _ Value (fun v => SV v 8) (fun v => v) (fun v => Mem _ _ (.row v 8 5 1 (v8s (numK 8 pb.toNat)) :: _) _)
    exact TOpP.weakL (fun t u hh => slots_base t hh _ zz46) (t_callP1 Tryd.hb74 rfl fun w h => (fun w => wordB pb 8 w zz19) w)
  ·
   intro σ hσ hall
   obtain ⟨b19, q19⟩ := Option.isSome_iff_exists.1 (hall _ (List.mem_cons_self ..))
   obtain ⟨b22, q22⟩ := Option.isSome_iff_exists.1 (hall _ (List.mem_cons_of_mem _ (List.mem_cons_self ..)))
   obtain ⟨b25, q25⟩ := Option.isSome_iff_exists.1 (hall _ (List.mem_cons_of_mem _ (List.mem_cons_of_mem _ (List.mem_cons_self ..))))
   have p19 := (hσ _ (List.mem_cons_self ..) b19 q19).2
   try dsimp only at p19
   have p22 := (hσ _ (List.mem_cons_of_mem _ (List.mem_cons_self ..)) b22 q22).2
   try dsimp only at p22
   have p25 := (hσ _ (List.mem_cons_of_mem _ (List.mem_cons_of_mem _ (List.mem_cons_self ..))) b25 q25).2
   try dsimp only at p25
   try dsimp only at q19 q22 q25
   simp only [mkEnts, mkSlots, q19, q22, q25, List.cons_append, List.nil_append, List.map_cons, List.map_nil, Asg.v, Option.getD_some]
   refine wpd_tp 14 rfl zz6 trivial (t_bsV [b19, b22, b25] Tryd.underlying160 Tryd.ti32 rfl rfl zz19 zz19 rfl (by intro u hu; simp only [List.mem_cons, List.not_mem_nil, or_false] at hu; rcases hu with rfl | rfl | rfl <;> exact SV.one zz57)) rfl (fun _ => (fun w h => .inr (h.sub SubC.h SubC.h))) (fun b26 p26 => ?_)
   refine wpd_tp 15 rfl zz6 trivial (t_callP1 Tryd.hb73 rfl fun w h => by
     have q := joinB b26 [(b19, [pf, of8 pl]), (b22, numK 8 pa.toNat), (b25, numK 8 pb.toNat)] w ⟨h.seenV, fun q hq => by
     simp only [List.mem_cons, List.not_mem_nil, or_false] at hq
     rcases hq with rfl | rfl | rfl <;> exact Seen.re8 h.seenV⟩ (by rw [flatK_3]; simp [numK_len])
     rw [flatK_3] at q
     exact q) rfl (fun _ => (fun w h => .inr (h.sub SubC.h SubC.h))) (fun b27 p27 => ?_)
   refine wpd_p 16 rfl zz6 trivial (q_pure rfl) rfl (fun w h => .inr (h.sub SubC.h SubC.h)) ?_
   refine wpd_done zz6 ?_
   refine ex_then <| wpc_seq <| wpc_region <| wpl_q (q_field Tryd.underlying29 rfl Tryd.ti27 rfl rfl _ rfl) rfl <| wpl_q (q_ld Tryd.underlying27 rfl rfl rfl) rfl ?_
   refine wpl_q (q_lenW Tryd.underlying27 rfl zz4) rfl ?_
   refine wpl_q (q_pure rfl) rfl <| wpl_nil <| ex_then <| wpc_block ?_
   refine wpc_loopc (ι := { x : Nat × Value × World × List Nat × Ent // (x.1 ≤ hs.length) ∧ (SV x.2.1 (restF ⟨pf, pa, pb, pl, hv, hs⟩ x.1).length) ∧ (J x.2.2.2.1 ((msgs ⟨pf, pa, pb, pl, hv, hs⟩).take x.1) x.2.2.1) ∧ (∀ w, x.2.2.2.2.at w → Seen w.cell? x.2.1 (restF ⟨pf, pa, pb, pl, hv, hs⟩ x.1).length 1 (v8s (restF ⟨pf, pa, pb, pl, hv, hs⟩ x.1))) }) [(0, _), (29, _), (30, _)] (fun x Lc => (31, .int .i64 ((x.1.1 : Nat) : Int)) :: (4, x.1.2.1) :: Lc) (fun x => Mem x.1.2.2.1 x.1.2.2.2.1 [x.1.2.2.2.2] []) (fun x => hs.length - x.1.1) ⟨(0, b27, w, [pp], .row b27 (rest0 ⟨pf, pa, pb, pl, hv, hs⟩).length 5 1 (v8s (rest0 ⟨pf, pa, pb, pl, hv, hs⟩))), ⟨Nat.zero_le _, p27, hJ0, fun w h => restRow w h⟩⟩ zz10 ?_ ?_
   ·
    exact fun w h => (show Mem _ [pp] (.row b27 (rest0 ⟨pf, pa, pb, pl, hv, hs⟩).length 5 1 (v8s (rest0 ⟨pf, pa, pb, pl, hv, hs⟩)) :: _) _ w from h).sub (.keep .nil) .nil
   ·
    rintro ⟨⟨i, rv, wb, T, rE⟩, ⟨hi0, hi1, hi2, hi3⟩⟩; try dsimp only
    have hi0 : i ≤ hs.length := hi0; have hi1 : SV rv (restF ⟨pf, pa, pb, pl, hv, hs⟩ i).length := hi1; have hi2 : J T ((msgs ⟨pf, pa, pb, pl, hv, hs⟩).take i) wb := hi2; have hi3 : ∀ w, rE.at w → Seen w.cell? rv (restF ⟨pf, pa, pb, pl, hv, hs⟩ i).length 1 (v8s (restF ⟨pf, pa, pb, pl, hv, hs⟩ i)) := hi3
    have hsee : ∀ {M : List Ent} {S : List Fact} {w : World}, Mem wb T M S w → InvM ⟨pf, pa, pb, pl, hv, hs⟩ w := fun h => hinv _ _ _ (hst _ _ _ _ _ hi2 (h.sub .nil .nil) (nums_lt h))
    have hrl := restF_len ⟨pf, pa, pb, pl, hv, hs⟩ i
    refine wpc_seq <| wpc_region <| wpl_q (q_pure rfl) rfl <| wpl_nil <| ex_then <| wpc_seq ?_
    refine wpc_cond rfl (fun hc32 => ?_) (fun hc32 => ?_)
    ·
     simp only [decide_eq_true_eq] at hc32
     have hil : i < hs.length := by omega
     have hsi : ((hs.getD i Hop.z)).seen wb.cell? := (hinv _ _ _ hi2).1.2 _ (getD_memO hil)
     haveI := hsi.sv.one
     have hlm := hlim _ (getD_memO hil)
     refine wpc_skip <| ex_then <| wpc_seq <| wpc_block <| wpc_seq <| wpc_region <| wpl_q (q_pure rfl) rfl ?_
     refine wpl_q (q_idxW Tryd.underlying27 Tryd.ti68 rfl rfl zz4 zz1) rfl ?_
     refine wpl_q (q_ldWN Tryd.underlying68 rfl Tryd.ti68 rfl (fun w h => (hsee h).1.1) (hs.getD i Hop.z).c (cat_part Hop.c_length Hop.z hil) (Hop.c_length _)) rfl ?_
     refine wpl_t (t_alloc Tryd.ti68 Hop.z.c rfl) rfl (fun b6 => ?_)
     refine wpl_q (q_pure rfl) rfl ?_
     refine wpl_t0 (t_stA Tryd.ti68 rfl rfl (by first | exact LenC.h | exact adL_len _ _ | (rw [v8s_length]; exact sumF_length _)) (by first | exact OneC.h | exact v8s_one _ | exact adL_one _ _) (by first | exact LenC.h | rfl)) (fun _ => ?_)
     refine wpl_nil <| ex_then <| wpc_seq <| wpc_region <| wpl_q (q_ldN Tryd.underlying68 rfl Tryd.ti68 rfl LenC.h) rfl ?_
     refine wpl_tp (t_callP1 Tryd.hb75 rfl fun w h => head (hs.getD i Hop.z) w hsi.sv) rfl (fun b37 p37 => ?_)
     refine wpl_q (q_pure rfl) rfl ?_
     refine wpl_tp (t_bsV [b37, rv] Tryd.underlying160 Tryd.ti32 rfl rfl zz19 zz19 rfl (by intro u hu; simp only [List.mem_cons, List.not_mem_nil, or_false] at hu; rcases hu with rfl | rfl <;> exact SV.one zz57)) rfl (fun b39 p39 => ?_)
     refine wpl_tp (t_callP1 Tryd.hb73 rfl fun w h => by
       have q := joinB b39 [(b37, (headB (hs.getD i Hop.z))), (rv, (restF ⟨pf, pa, pb, pl, hv, hs⟩ i))] w ⟨h.seenV, fun q hq => by
       simp only [List.mem_cons, List.not_mem_nil, or_false] at hq
       rcases hq with rfl | rfl
       · have q : Seen w.cell? b37 27 1 (v8s (headB (hs.getD i Hop.z))) := h.seen_row zz7
         exact Seen.re8 q
       · exact hi3 w (h.own rE zz7)⟩ (by rw [flatK_2, List.length_append, headB_len]; show 27 + (restF ⟨pf, pa, pb, pl, hv, hs⟩ i).length ≤ 100000; omega)
       rw [flatK_2] at q
       exact q) rfl (fun b40 p40 => ?_)
     refine wpl_q (q_pure rfl) rfl <| wpl_nil <| ex_then <| wpc_seq <| wpc_seq ?_
     refine wpc_region_y ?_
     refine wil_q (q_pure rfl) rfl ?_
     refine wil_q (q_pure rfl) rfl ?_
     refine wil_q (q_pure rfl) rfl ?_
     refine wil_yieldS ((i, msgB ⟨pf, pa, pb, pl, hv, hs⟩ i)) (b40) rfl rfl hst hy hi2 (msgs_pre (p := ⟨pf, pa, pb, pl, hv, hs⟩) hil) rfl (fun w h => h.rowAt zz7) rfl ?_ ?_
     ·
      intro u44 hu44
      have hsee2 : ∀ {M : List Ent} {S : List Fact} {w : World}, Mem u44 (nums (.row b40 ((headB (hs.getD i Hop.z)) ++ (restF ⟨pf, pa, pb, pl, hv, hs⟩ i)).length 5 1 (v8s ((headB (hs.getD i Hop.z)) ++ (restF ⟨pf, pa, pb, pl, hv, hs⟩ i))) :: .row b39 2 32 1 [b37, rv] :: .row b37 27 5 1 (v8s (headB (hs.getD i Hop.z))) :: .blk b6 68 (hs.getD i Hop.z).c :: [rE])) M S w → InvM ⟨pf, pa, pb, pl, hv, hs⟩ w := fun h => hinv _ _ _ (hst _ _ _ _ _ hu44 (h.sub .nil .nil) (nums_lt h))
      refine wil_q (q_pure rfl) rfl ?_
      refine wil_nil ?_
      refine ex_then ?_
      refine wpc_cond_f rfl ?_
      refine wpc_skip <| ex_then <| wpc_seq ?_
      refine wpc_draw 18 zz6 (fun _ h => h.drew) ?_
      refine wpd_p 0 rfl zz6 trivial (q_pure rfl) rfl sk0 ?_
      refine wpd_p 1 rfl zz6 trivial (q_field Tryd.underlying68 rfl Tryd.ti66 rfl rfl _ rfl) rfl sk0 ?_
      refine wpd_p 2 rfl zz6 trivial (q_field Tryd.underlying66 rfl Tryd.ti3 rfl rfl _ rfl) rfl sk0 ?_
      refine wpd_q 3 rfl zz6 trivial (q_ld Tryd.underlying3 rfl rfl (Hop.c_ix _)) rfl (fun _ h => h) ?_
      refine wpd_p 4 rfl zz6 trivial (q64_conv Tryd.underlying3 Tryd.underlying22 rfl) rfl sk0 ?_
      refine wpd_p 6 rfl zz6 trivial (q_field Tryd.underlying68 rfl Tryd.ti66 rfl rfl _ rfl) rfl sk0 ?_
      refine wpd_p 7 rfl zz6 trivial (q_field Tryd.underlying66 rfl Tryd.ti64 rfl rfl _ rfl) rfl sk0 ?_
      refine wpd_q 8 rfl zz6 trivial (q_ld Tryd.underlying64 rfl rfl (Hop.c_cv _)) rfl (fun _ h => h) ?_
      refine wpd_p 10 rfl zz6 trivial (q_field Tryd.underlying68 rfl Tryd.ti66 rfl rfl _ rfl) rfl sk0 ?_
      refine wpd_p 11 rfl zz6 trivial (q_field Tryd.underlying66 rfl Tryd.ti64 rfl rfl _ rfl) rfl sk0 ?_
      refine wpd_q 12 rfl zz6 trivial (q_ld Tryd.underlying64 rfl rfl (Hop.c_pv _)) rfl (fun _ h => h) ?_
      refine wpd_two 5 17 zz6 ?_ ?_
      ·
       refine wpa_tp 5 rfl trivial (t_callP1 Tryd.hb74 rfl fun w h => wordB (of64 (hs.getD i Hop.z).ix) 4 w zz19) rfl (fun _ => (fun w h => .inr (h.sub SubC.h SubC.h))) (fun b51 p51 => ?_)
       refine wpd_two 9 17 zz6 ?_ ?_
       ·
        refine wpa_tp 9 rfl trivial (t_callP1 Tryd.hb77 rfl fun w h => shorts (hs.getD i Hop.z).cv (hs.getD i Hop.z).chs w ((hsee2 h).1.2 _ (getD_memO hil)).1 hsi.2.1 zz14) rfl (fun _ => (fun w h => .inr (h.sub SubC.h SubC.h))) (fun b55 p55 => ?_)
        refine wpd_two 13 17 zz6 ?_ ?_
        ·
         refine wpa_tp 13 rfl trivial (t_callP1 Tryd.hb77 rfl fun w h => shorts (hs.getD i Hop.z).pv (hs.getD i Hop.z).ps w ((hsee2 h).1.2 _ (getD_memO hil)).2.2.1 hsi.2.2.2 zz14) rfl (fun _ => (fun w h => .inr (h.sub SubC.h SubC.h))) (fun b59 p59 => ?_)
         refine wpd_two 14 17 zz6 ?_ ?_
         ·
          refine wpa_tp 14 rfl trivial (t_bsV [b40, b51, b55, b59] Tryd.underlying160 Tryd.ti32 rfl rfl zz19 zz19 rfl zz32) rfl (fun _ => (fun w h => .inr (h.sub SubC.h SubC.h))) (fun b60 p60 => ?_)
          refine wpd_two 15 17 zz6 ?_ ?_
          ·
           refine wpa_tp 15 rfl trivial (t_callP1 Tryd.hb73 rfl fun w h => by
             have q := joinB b60 [(b40, ((headB (hs.getD i Hop.z)) ++ (restF ⟨pf, pa, pb, pl, hv, hs⟩ i))), (b51, numK 4 (of64 (hs.getD i Hop.z).ix).toNat), (b55, (hs.getD i Hop.z).chs.flatten), (b59, (hs.getD i Hop.z).ps.flatten)] w ⟨h.seenV, fun q hq => by
             simp only [List.mem_cons, List.not_mem_nil, or_false] at hq
             rcases hq with rfl | rfl | rfl | rfl
             · exact h.seen_row zz7
             · have q : Seen w.cell? b51 4 1 (v8s (numK 4 (of64 (hs.getD i Hop.z).ix).toNat)) := h.seen_row zz7
               exact Seen.re8 q
             · have q : Seen w.cell? b55 ((hs.getD i Hop.z).chs.length * 16) 1 (v8s (hs.getD i Hop.z).chs.flatten) := h.seen_row zz7
               exact Seen.re8 q
             · have q : Seen w.cell? b59 ((hs.getD i Hop.z).ps.length * 16) 1 (v8s (hs.getD i Hop.z).ps.flatten) := h.seen_row zz7
               exact Seen.re8 q⟩ zz21
             rw [flatK_4] at q
             exact q) rfl (fun _ => (fun w h => .inr (h.sub SubC.h SubC.h))) (fun b61 p61 => ?_)
           refine wpd_two 16 17 zz6 ?_ ?_
           ·
            refine wpa_t 16 rfl trivial (t_pur Tryd.hb76 rfl fun w h => sumW b61 (((headB (hs.getD i Hop.z)) ++ (restF ⟨pf, pa, pb, pl, hv, hs⟩ i)) ++ (tailH (hs.getD i Hop.z))) w h.seenV (hsee2 h).2) rfl (fun _ => (fun w h => .inr (h.sub SubC.h SubC.h))) (fun b62 => ?_)
            refine wpd_t 17 rfl zz6 trivial (t_alloc Tryd.ti113 (v8s (List.replicate 32 0)) rfl) rfl (fun _ => (fun w h => .inr (h.sub SubC.h SubC.h))) (fun b8 => ?_)
            refine wpd_t0 18 rfl zz6 trivial (t_stA Tryd.ti113 rfl rfl zz43 (v8s_one _) zz40) (fun _ => skk rfl) (fun _ => ?_)
            refine wpd_done zz6 ?_
            refine ex_then <| wpc_region <| wpl_q (q_arAll Tryd.underlying113 Tryd.ti5 rfl rfl) rfl <| wpl_q (q_pure rfl) rfl <| wpl_nil <| ex_block <| ex_then <| wpc_region ?_
            refine wpl_q (q_addN (b := 1) rfl rfl zz1) rfl ?_
            refine wpl_q (q_pure rfl) rfl <| wpl_nil ?_
            refine ex_again ⟨(i + 1, arv b8 32, u44, nums (.row b40 ((headB (hs.getD i Hop.z)) ++ (restF ⟨pf, pa, pb, pl, hv, hs⟩ i)).length 5 1 (v8s ((headB (hs.getD i Hop.z)) ++ (restF ⟨pf, pa, pb, pl, hv, hs⟩ i))) :: .row b39 2 32 1 [b37, rv] :: .row b37 27 5 1 (v8s (headB (hs.getD i Hop.z))) :: .blk b6 68 (hs.getD i Hop.z).c :: [rE]), .blk b8 113 (v8s (sumF (((headB (hs.getD i Hop.z)) ++ (restF ⟨pf, pa, pb, pl, hv, hs⟩ i)) ++ (tailH (hs.getD i Hop.z)))))), ⟨zz47, zz25, zz23, fun w h => zz22⟩⟩ ?_ ?_ ?_
            ·
             exact zz10
            ·
             exact fun w h => h.sel
            ·
             (show hs.length - (i + 1) < hs.length - i); omega
           ·
            refine wpa_t 17 rfl trivial (t_alloc Tryd.ti113 (v8s (List.replicate 32 0)) rfl) rfl (fun _ => (fun w h => .inr (h.sub SubC.h SubC.h))) (fun b8 => ?_)
            refine wpd_t 16 rfl zz6 trivial (t_pur Tryd.hb76 rfl fun w h => sumW b61 (((headB (hs.getD i Hop.z)) ++ (restF ⟨pf, pa, pb, pl, hv, hs⟩ i)) ++ (tailH (hs.getD i Hop.z))) w h.seenV (hsee2 h).2) rfl (fun _ => (fun w h => .inr (h.sub SubC.h SubC.h))) (fun b62 => ?_)
            refine wpd_t0 18 rfl zz6 trivial (t_stA Tryd.ti113 rfl rfl zz43 (v8s_one _) zz40) (fun _ => skk rfl) (fun _ => ?_)
            refine wpd_done zz6 ?_
            refine ex_then <| wpc_region <| wpl_q (q_arAll Tryd.underlying113 Tryd.ti5 rfl rfl) rfl <| wpl_q (q_pure rfl) rfl <| wpl_nil <| ex_block <| ex_then <| wpc_region ?_
            refine wpl_q (q_addN (b := 1) rfl rfl zz1) rfl ?_
            refine wpl_q (q_pure rfl) rfl <| wpl_nil ?_
            refine ex_again ⟨(i + 1, arv b8 32, u44, nums (.row b40 ((headB (hs.getD i Hop.z)) ++ (restF ⟨pf, pa, pb, pl, hv, hs⟩ i)).length 5 1 (v8s ((headB (hs.getD i Hop.z)) ++ (restF ⟨pf, pa, pb, pl, hv, hs⟩ i))) :: .row b39 2 32 1 [b37, rv] :: .row b37 27 5 1 (v8s (headB (hs.getD i Hop.z))) :: .blk b6 68 (hs.getD i Hop.z).c :: [rE]), .blk b8 113 (v8s (sumF (((headB (hs.getD i Hop.z)) ++ (restF ⟨pf, pa, pb, pl, hv, hs⟩ i)) ++ (tailH (hs.getD i Hop.z)))))), ⟨zz47, zz25, zz23, fun w h => zz22⟩⟩ ?_ ?_ ?_
            ·
             exact zz10
            ·
             exact fun w h => h.sel
            ·
             (show hs.length - (i + 1) < hs.length - i); omega
          ·
           refine wpa_t 17 rfl trivial (t_alloc Tryd.ti113 (v8s (List.replicate 32 0)) rfl) rfl (fun _ => (fun w h => .inr (h.sub SubC.h SubC.h))) (fun b8 => ?_)
           refine wpd_tp 15 rfl zz6 trivial (t_callP1 Tryd.hb73 rfl fun w h => by
             have q := joinB b60 [(b40, ((headB (hs.getD i Hop.z)) ++ (restF ⟨pf, pa, pb, pl, hv, hs⟩ i))), (b51, numK 4 (of64 (hs.getD i Hop.z).ix).toNat), (b55, (hs.getD i Hop.z).chs.flatten), (b59, (hs.getD i Hop.z).ps.flatten)] w ⟨h.seenV, fun q hq => by
             simp only [List.mem_cons, List.not_mem_nil, or_false] at hq
             rcases hq with rfl | rfl | rfl | rfl
             · exact h.seen_row zz7
             · have q : Seen w.cell? b51 4 1 (v8s (numK 4 (of64 (hs.getD i Hop.z).ix).toNat)) := h.seen_row zz7
               exact Seen.re8 q
             · have q : Seen w.cell? b55 ((hs.getD i Hop.z).chs.length * 16) 1 (v8s (hs.getD i Hop.z).chs.flatten) := h.seen_row zz7
               exact Seen.re8 q
             · have q : Seen w.cell? b59 ((hs.getD i Hop.z).ps.length * 16) 1 (v8s (hs.getD i Hop.z).ps.flatten) := h.seen_row zz7
               exact Seen.re8 q⟩ zz21
             rw [flatK_4] at q
             exact q) rfl (fun _ => (fun w h => .inr (h.sub SubC.h SubC.h))) (fun b61 p61 => ?_)
           refine wpd_t 16 rfl zz6 trivial (t_pur Tryd.hb76 rfl fun w h => sumW b61 (((headB (hs.getD i Hop.z)) ++ (restF ⟨pf, pa, pb, pl, hv, hs⟩ i)) ++ (tailH (hs.getD i Hop.z))) w h.seenV (hsee2 h).2) rfl (fun _ => (fun w h => .inr (h.sub SubC.h SubC.h))) (fun b62 => ?_)
           refine wpd_t0 18 rfl zz6 trivial (t_stA Tryd.ti113 rfl rfl zz43 (v8s_one _) zz40) (fun _ => skk rfl) (fun _ => ?_)
           refine wpd_done zz6 ?_
           refine ex_then <| wpc_region <| wpl_q (q_arAll Tryd.underlying113 Tryd.ti5 rfl rfl) rfl <| wpl_q (q_pure rfl) rfl <| wpl_nil <| ex_block <| ex_then <| wpc_region ?_
           refine wpl_q (q_addN (b := 1) rfl rfl zz1) rfl ?_
           refine wpl_q (q_pure rfl) rfl <| wpl_nil ?_
           refine ex_again ⟨(i + 1, arv b8 32, u44, nums (.row b40 ((headB (hs.getD i Hop.z)) ++ (restF ⟨pf, pa, pb, pl, hv, hs⟩ i)).length 5 1 (v8s ((headB (hs.getD i Hop.z)) ++ (restF ⟨pf, pa, pb, pl, hv, hs⟩ i))) :: .row b39 2 32 1 [b37, rv] :: .row b37 27 5 1 (v8s (headB (hs.getD i Hop.z))) :: .blk b6 68 (hs.getD i Hop.z).c :: [rE]), .blk b8 113 (v8s (sumF (((headB (hs.getD i Hop.z)) ++ (restF ⟨pf, pa, pb, pl, hv, hs⟩ i)) ++ (tailH (hs.getD i Hop.z)))))), ⟨zz47, zz25, zz23, fun w h => zz22⟩⟩ ?_ ?_ ?_
           ·
            exact zz10
           ·
            exact fun w h => h.sel
           ·
            (show hs.length - (i + 1) < hs.length - i); omega
         ·
          refine wpa_t 17 rfl trivial (t_alloc Tryd.ti113 (v8s (List.replicate 32 0)) rfl) rfl (fun _ => (fun w h => .inr (h.sub SubC.h SubC.h))) (fun b8 => ?_)
          refine wpd_tp 14 rfl zz6 trivial (t_bsV [b40, b51, b55, b59] Tryd.underlying160 Tryd.ti32 rfl rfl zz19 zz19 rfl zz32) rfl (fun _ => (fun w h => .inr (h.sub SubC.h SubC.h))) (fun b60 p60 => ?_)
          refine wpd_tp 15 rfl zz6 trivial (t_callP1 Tryd.hb73 rfl fun w h => by
            have q := joinB b60 [(b40, ((headB (hs.getD i Hop.z)) ++ (restF ⟨pf, pa, pb, pl, hv, hs⟩ i))), (b51, numK 4 (of64 (hs.getD i Hop.z).ix).toNat), (b55, (hs.getD i Hop.z).chs.flatten), (b59, (hs.getD i Hop.z).ps.flatten)] w ⟨h.seenV, fun q hq => by
            simp only [List.mem_cons, List.not_mem_nil, or_false] at hq
            rcases hq with rfl | rfl | rfl | rfl
            · exact h.seen_row zz7
            · have q : Seen w.cell? b51 4 1 (v8s (numK 4 (of64 (hs.getD i Hop.z).ix).toNat)) := h.seen_row zz7
              exact Seen.re8 q
            · have q : Seen w.cell? b55 ((hs.getD i Hop.z).chs.length * 16) 1 (v8s (hs.getD i Hop.z).chs.flatten) := h.seen_row zz7
              exact Seen.re8 q
            · have q : Seen w.cell? b59 ((hs.getD i Hop.z).ps.length * 16) 1 (v8s (hs.getD i Hop.z).ps.flatten) := h.seen_row zz7
              exact Seen.re8 q⟩ zz21
            rw [flatK_4] at q
            exact q) rfl (fun _ => (fun w h => .inr (h.sub SubC.h SubC.h))) (fun b61 p61 => ?_)
          refine wpd_t 16 rfl zz6 trivial (t_pur Tryd.hb76 rfl fun w h => sumW b61 (((headB (hs.getD i Hop.z)) ++ (restF ⟨pf, pa, pb, pl, hv, hs⟩ i)) ++ (tailH (hs.getD i Hop.z))) w h.seenV (hsee2 h).2) rfl (fun _ => (fun w h => .inr (h.sub SubC.h SubC.h))) (fun b62 => ?_)
          refine wpd_t0 18 rfl zz6 trivial (t_stA Tryd.ti113 rfl rfl zz43 (v8s_one _) zz40) (fun _ => skk rfl) (fun _ => ?_)
          refine wpd_done zz6 ?_
          refine ex_then <| wpc_region <| wpl_q (q_arAll Tryd.underlying113 Tryd.ti5 rfl rfl) rfl <| wpl_q (q_pure rfl) rfl <| wpl_nil <| ex_block <| ex_then <| wpc_region ?_
          refine wpl_q (q_addN (b := 1) rfl rfl zz1) rfl ?_
          refine wpl_q (q_pure rfl) rfl <| wpl_nil ?_
          refine ex_again ⟨(i + 1, arv b8 32, u44, nums (.row b40 ((headB (hs.getD i Hop.z)) ++ (restF ⟨pf, pa, pb, pl, hv, hs⟩ i)).length 5 1 (v8s ((headB (hs.getD i Hop.z)) ++ (restF ⟨pf, pa, pb, pl, hv, hs⟩ i))) :: .row b39 2 32 1 [b37, rv] :: .row b37 27 5 1 (v8s (headB (hs.getD i Hop.z))) :: .blk b6 68 (hs.getD i Hop.z).c :: [rE]), .blk b8 113 (v8s (sumF (((headB (hs.getD i Hop.z)) ++ (restF ⟨pf, pa, pb, pl, hv, hs⟩ i)) ++ (tailH (hs.getD i Hop.z)))))), ⟨zz47, zz25, zz23, fun w h => zz22⟩⟩ ?_ ?_ ?_
          ·
           exact zz10
          ·
           exact fun w h => h.sel
          ·
           (show hs.length - (i + 1) < hs.length - i); omega
        ·
         refine wpa_t 17 rfl trivial (t_alloc Tryd.ti113 (v8s (List.replicate 32 0)) rfl) rfl (fun _ => (fun w h => .inr (h.sub SubC.h SubC.h))) (fun b8 => ?_)
         refine wpd_tp 13 rfl zz6 trivial (t_callP1 Tryd.hb77 rfl fun w h => shorts (hs.getD i Hop.z).pv (hs.getD i Hop.z).ps w ((hsee2 h).1.2 _ (getD_memO hil)).2.2.1 hsi.2.2.2 zz14) rfl (fun _ => (fun w h => .inr (h.sub SubC.h SubC.h))) (fun b59 p59 => ?_)
         refine wpd_tp 14 rfl zz6 trivial (t_bsV [b40, b51, b55, b59] Tryd.underlying160 Tryd.ti32 rfl rfl zz19 zz19 rfl zz32) rfl (fun _ => (fun w h => .inr (h.sub SubC.h SubC.h))) (fun b60 p60 => ?_)
         refine wpd_tp 15 rfl zz6 trivial (t_callP1 Tryd.hb73 rfl fun w h => by
           have q := joinB b60 [(b40, ((headB (hs.getD i Hop.z)) ++ (restF ⟨pf, pa, pb, pl, hv, hs⟩ i))), (b51, numK 4 (of64 (hs.getD i Hop.z).ix).toNat), (b55, (hs.getD i Hop.z).chs.flatten), (b59, (hs.getD i Hop.z).ps.flatten)] w ⟨h.seenV, fun q hq => by
           simp only [List.mem_cons, List.not_mem_nil, or_false] at hq
           rcases hq with rfl | rfl | rfl | rfl
           · exact h.seen_row zz7
           · have q : Seen w.cell? b51 4 1 (v8s (numK 4 (of64 (hs.getD i Hop.z).ix).toNat)) := h.seen_row zz7
             exact Seen.re8 q
           · have q : Seen w.cell? b55 ((hs.getD i Hop.z).chs.length * 16) 1 (v8s (hs.getD i Hop.z).chs.flatten) := h.seen_row zz7
             exact Seen.re8 q
           · have q : Seen w.cell? b59 ((hs.getD i Hop.z).ps.length * 16) 1 (v8s (hs.getD i Hop.z).ps.flatten) := h.seen_row zz7
             exact Seen.re8 q⟩ zz21
           rw [flatK_4] at q
           exact q) rfl (fun _ => (fun w h => .inr (h.sub SubC.h SubC.h))) (fun b61 p61 => ?_)
         refine wpd_t 16 rfl zz6 trivial (t_pur Tryd.hb76 rfl fun w h => sumW b61 (((headB (hs.getD i Hop.z)) ++ (restF ⟨pf, pa, pb, pl, hv, hs⟩ i)) ++ (tailH (hs.getD i Hop.z))) w h.seenV (hsee2 h).2) rfl (fun _ => (fun w h => .inr (h.sub SubC.h SubC.h))) (fun b62 => ?_)
         refine wpd_t0 18 rfl zz6 trivial (t_stA Tryd.ti113 rfl rfl zz43 (v8s_one _) zz40) (fun _ => skk rfl) (fun _ => ?_)
         refine wpd_done zz6 ?_
         refine ex_then <| wpc_region <| wpl_q (q_arAll Tryd.underlying113 Tryd.ti5 rfl rfl) rfl <| wpl_q (q_pure rfl) rfl <| wpl_nil <| ex_block <| ex_then <| wpc_region ?_
         refine wpl_q (q_addN (b := 1) rfl rfl zz1) rfl ?_
         refine wpl_q (q_pure rfl) rfl <| wpl_nil ?_
         refine ex_again ⟨(i + 1, arv b8 32, u44, nums (.row b40 ((headB (hs.getD i Hop.z)) ++ (restF ⟨pf, pa, pb, pl, hv, hs⟩ i)).length 5 1 (v8s ((headB (hs.getD i Hop.z)) ++ (restF ⟨pf, pa, pb, pl, hv, hs⟩ i))) :: .row b39 2 32 1 [b37, rv] :: .row b37 27 5 1 (v8s (headB (hs.getD i Hop.z))) :: .blk b6 68 (hs.getD i Hop.z).c :: [rE]), .blk b8 113 (v8s (sumF (((headB (hs.getD i Hop.z)) ++ (restF ⟨pf, pa, pb, pl, hv, hs⟩ i)) ++ (tailH (hs.getD i Hop.z)))))), ⟨zz47, zz25, zz23, fun w h => zz22⟩⟩ ?_ ?_ ?_
         ·
          exact zz10
         ·
          exact fun w h => h.sel
         ·
          (show hs.length - (i + 1) < hs.length - i); omega
       ·
        refine wpa_t 17 rfl trivial (t_alloc Tryd.ti113 (v8s (List.replicate 32 0)) rfl) rfl (fun _ => (fun w h => .inr (h.sub SubC.h SubC.h))) (fun b8 => ?_)
        refine wpd_tp 9 rfl zz6 trivial (t_callP1 Tryd.hb77 rfl fun w h => shorts (hs.getD i Hop.z).cv (hs.getD i Hop.z).chs w ((hsee2 h).1.2 _ (getD_memO hil)).1 hsi.2.1 zz14) rfl (fun _ => (fun w h => .inr (h.sub SubC.h SubC.h))) (fun b55 p55 => ?_)
        refine wpd_tp 13 rfl zz6 trivial (t_callP1 Tryd.hb77 rfl fun w h => shorts (hs.getD i Hop.z).pv (hs.getD i Hop.z).ps w ((hsee2 h).1.2 _ (getD_memO hil)).2.2.1 hsi.2.2.2 zz14) rfl (fun _ => (fun w h => .inr (h.sub SubC.h SubC.h))) (fun b59 p59 => ?_)
        refine wpd_tp 14 rfl zz6 trivial (t_bsV [b40, b51, b55, b59] Tryd.underlying160 Tryd.ti32 rfl rfl zz19 zz19 rfl zz32) rfl (fun _ => (fun w h => .inr (h.sub SubC.h SubC.h))) (fun b60 p60 => ?_)
        refine wpd_tp 15 rfl zz6 trivial (t_callP1 Tryd.hb73 rfl fun w h => by
          have q := joinB b60 [(b40, ((headB (hs.getD i Hop.z)) ++ (restF ⟨pf, pa, pb, pl, hv, hs⟩ i))), (b51, numK 4 (of64 (hs.getD i Hop.z).ix).toNat), (b55, (hs.getD i Hop.z).chs.flatten), (b59, (hs.getD i Hop.z).ps.flatten)] w ⟨h.seenV, fun q hq => by
          simp only [List.mem_cons, List.not_mem_nil, or_false] at hq
          rcases hq with rfl | rfl | rfl | rfl
          · exact h.seen_row zz7
          · have q : Seen w.cell? b51 4 1 (v8s (numK 4 (of64 (hs.getD i Hop.z).ix).toNat)) := h.seen_row zz7
            exact Seen.re8 q
          · have q : Seen w.cell? b55 ((hs.getD i Hop.z).chs.length * 16) 1 (v8s (hs.getD i Hop.z).chs.flatten) := h.seen_row zz7
            exact Seen.re8 q
          · have q : Seen w.cell? b59 ((hs.getD i Hop.z).ps.length * 16) 1 (v8s (hs.getD i Hop.z).ps.flatten) := h.seen_row zz7
            exact Seen.re8 q⟩ zz21
          rw [flatK_4] at q
          exact q) rfl (fun _ => (fun w h => .inr (h.sub SubC.h SubC.h))) (fun b61 p61 => ?_)
        refine wpd_t 16 rfl zz6 trivial (t_pur Tryd.hb76 rfl fun w h => sumW b61 (((headB (hs.getD i Hop.z)) ++ (restF ⟨pf, pa, pb, pl, hv, hs⟩ i)) ++ (tailH (hs.getD i Hop.z))) w h.seenV (hsee2 h).2) rfl (fun _ => (fun w h => .inr (h.sub SubC.h SubC.h))) (fun b62 => ?_)
        refine wpd_t0 18 rfl zz6 trivial (t_stA Tryd.ti113 rfl rfl zz43 (v8s_one _) zz40) (fun _ => skk rfl) (fun _ => ?_)
        refine wpd_done zz6 ?_
        refine ex_then <| wpc_region <| wpl_q (q_arAll Tryd.underlying113 Tryd.ti5 rfl rfl) rfl <| wpl_q (q_pure rfl) rfl <| wpl_nil <| ex_block <| ex_then <| wpc_region ?_
        refine wpl_q (q_addN (b := 1) rfl rfl zz1) rfl ?_
        refine wpl_q (q_pure rfl) rfl <| wpl_nil ?_
        refine ex_again ⟨(i + 1, arv b8 32, u44, nums (.row b40 ((headB (hs.getD i Hop.z)) ++ (restF ⟨pf, pa, pb, pl, hv, hs⟩ i)).length 5 1 (v8s ((headB (hs.getD i Hop.z)) ++ (restF ⟨pf, pa, pb, pl, hv, hs⟩ i))) :: .row b39 2 32 1 [b37, rv] :: .row b37 27 5 1 (v8s (headB (hs.getD i Hop.z))) :: .blk b6 68 (hs.getD i Hop.z).c :: [rE]), .blk b8 113 (v8s (sumF (((headB (hs.getD i Hop.z)) ++ (restF ⟨pf, pa, pb, pl, hv, hs⟩ i)) ++ (tailH (hs.getD i Hop.z)))))), ⟨zz47, zz25, zz23, fun w h => zz22⟩⟩ ?_ ?_ ?_
        ·
         exact zz10
        ·
         exact fun w h => h.sel
        ·
         (show hs.length - (i + 1) < hs.length - i); omega
      ·
       refine wpa_t 17 rfl trivial (t_alloc Tryd.ti113 (v8s (List.replicate 32 0)) rfl) rfl (fun _ => (fun w h => .inr (h.sub SubC.h SubC.h))) (fun b8 => ?_)
       refine wpd_tp 5 rfl zz6 trivial (t_callP1 Tryd.hb74 rfl fun w h => wordB (of64 (hs.getD i Hop.z).ix) 4 w zz19) rfl (fun _ => (fun w h => .inr (h.sub SubC.h SubC.h))) (fun b51 p51 => ?_)
       refine wpd_tp 9 rfl zz6 trivial (t_callP1 Tryd.hb77 rfl fun w h => shorts (hs.getD i Hop.z).cv (hs.getD i Hop.z).chs w ((hsee2 h).1.2 _ (getD_memO hil)).1 hsi.2.1 zz14) rfl (fun _ => (fun w h => .inr (h.sub SubC.h SubC.h))) (fun b55 p55 => ?_)
       refine wpd_tp 13 rfl zz6 trivial (t_callP1 Tryd.hb77 rfl fun w h => shorts (hs.getD i Hop.z).pv (hs.getD i Hop.z).ps w ((hsee2 h).1.2 _ (getD_memO hil)).2.2.1 hsi.2.2.2 zz14) rfl (fun _ => (fun w h => .inr (h.sub SubC.h SubC.h))) (fun b59 p59 => ?_)
       refine wpd_tp 14 rfl zz6 trivial (t_bsV [b40, b51, b55, b59] Tryd.underlying160 Tryd.ti32 rfl rfl zz19 zz19 rfl zz32) rfl (fun _ => (fun w h => .inr (h.sub SubC.h SubC.h))) (fun b60 p60 => ?_)
       refine wpd_tp 15 rfl zz6 trivial (t_callP1 Tryd.hb73 rfl fun w h => by
         have q := joinB b60 [(b40, ((headB (hs.getD i Hop.z)) ++ (restF ⟨pf, pa, pb, pl, hv, hs⟩ i))), (b51, numK 4 (of64 (hs.getD i Hop.z).ix).toNat), (b55, (hs.getD i Hop.z).chs.flatten), (b59, (hs.getD i Hop.z).ps.flatten)] w ⟨h.seenV, fun q hq => by
         simp only [List.mem_cons, List.not_mem_nil, or_false] at hq
         rcases hq with rfl | rfl | rfl | rfl
         · exact h.seen_row zz7
         · have q : Seen w.cell? b51 4 1 (v8s (numK 4 (of64 (hs.getD i Hop.z).ix).toNat)) := h.seen_row zz7
           exact Seen.re8 q
         · have q : Seen w.cell? b55 ((hs.getD i Hop.z).chs.length * 16) 1 (v8s (hs.getD i Hop.z).chs.flatten) := h.seen_row zz7
           exact Seen.re8 q
         · have q : Seen w.cell? b59 ((hs.getD i Hop.z).ps.length * 16) 1 (v8s (hs.getD i Hop.z).ps.flatten) := h.seen_row zz7
           exact Seen.re8 q⟩ zz21
         rw [flatK_4] at q
         exact q) rfl (fun _ => (fun w h => .inr (h.sub SubC.h SubC.h))) (fun b61 p61 => ?_)
       refine wpd_t 16 rfl zz6 trivial (t_pur Tryd.hb76 rfl fun w h => sumW b61 (((headB (hs.getD i Hop.z)) ++ (restF ⟨pf, pa, pb, pl, hv, hs⟩ i)) ++ (tailH (hs.getD i Hop.z))) w h.seenV (hsee2 h).2) rfl (fun _ => (fun w h => .inr (h.sub SubC.h SubC.h))) (fun b62 => ?_)
       refine wpd_t0 18 rfl zz6 trivial (t_stA Tryd.ti113 rfl rfl zz43 (v8s_one _) zz40) (fun _ => skk rfl) (fun _ => ?_)
       refine wpd_done zz6 ?_
       refine ex_then <| wpc_region <| wpl_q (q_arAll Tryd.underlying113 Tryd.ti5 rfl rfl) rfl <| wpl_q (q_pure rfl) rfl <| wpl_nil <| ex_block <| ex_then <| wpc_region ?_
       refine wpl_q (q_addN (b := 1) rfl rfl zz1) rfl ?_
       refine wpl_q (q_pure rfl) rfl <| wpl_nil ?_
       refine ex_again ⟨(i + 1, arv b8 32, u44, nums (.row b40 ((headB (hs.getD i Hop.z)) ++ (restF ⟨pf, pa, pb, pl, hv, hs⟩ i)).length 5 1 (v8s ((headB (hs.getD i Hop.z)) ++ (restF ⟨pf, pa, pb, pl, hv, hs⟩ i))) :: .row b39 2 32 1 [b37, rv] :: .row b37 27 5 1 (v8s (headB (hs.getD i Hop.z))) :: .blk b6 68 (hs.getD i Hop.z).c :: [rE]), .blk b8 113 (v8s (sumF (((headB (hs.getD i Hop.z)) ++ (restF ⟨pf, pa, pb, pl, hv, hs⟩ i)) ++ (tailH (hs.getD i Hop.z)))))), ⟨zz47, zz25, zz23, fun w h => zz22⟩⟩ ?_ ?_ ?_
       ·
        exact zz10
       ·
        exact fun w h => h.sel
       ·
        (show hs.length - (i + 1) < hs.length - i); omega
     ·
      intro u44 hu44
      refine wil_q (q_pure rfl) rfl ?_
      refine wil_nil ?_
      refine ex_then ?_
      refine wpc_cond_t rfl ?_
      refine wpc_ret ?_
      refine ex_then_ret ?_
      refine ex_block_ret ?_
      refine ex_then_ret ?_
      refine ex_then_ret ?_
      refine ex_block_ret ?_
      refine ret0 (.inl rfl) rfl ?_
      exact fun w h => iter_stop hsk hu44 h
    ·
     simp only [decide_eq_false_iff_not] at hc32
     obtain rfl : i = hs.length := by omega
     rw [msgs_all ⟨pf, pa, pb, pl, hv, hs⟩] at hi2
     refine wpc_exit ?_
     refine ex_then_exit ?_
     refine ex_then_exit ?_
     refine ex_block_hit ?_
     refine ret0 (.inr rfl) rfl ?_
     exact fun w h => iter_done hst hi2 h
end Go.Proofs.YtjpfhkjmjnjggaaDoor
namespace Go.Proofs.YtjpfhkjmjnjggaaDoor
open Go Go.PL Go.RowKit
theorem msgs_mem {p : Pth} {x : Nat × List UInt8} (h : x ∈ msgs p) : x.2 = msgB p x.1 ∧ x.1 < p.hs.length := by
  simp only [msgs, List.mem_map, List.mem_range] at h
  obtain ⟨i, hi, rfl⟩ := h
  exact ⟨rfl, hi⟩
theorem msgs_at {p : Pth} {j : Nat} (h : j < p.hs.length) : (j, msgB p j) ∈ msgs p := List.mem_map.2 ⟨j, List.mem_range.2 h, rfl⟩
theorem pre_mem {α : Type} {pre xs : List α} {x : α} (h : (pre ++ [x]) <+: xs) : x ∈ xs := h.subset zz50
abbrev SmP (p : Pth) : Prop := ∀ h ∈ p.hs, h.chs.length ≤ 100 ∧ h.ps.length ≤ 100
theorem msgs_it (p : Pth) (pp : Nat) (w : World) (hpp : w.heap[pp]? = some (.cells p.c.toArray 29 (0, 0))) (hlim : SmP p) : IterStop Tryd.prog 72 #[.pointer (some ⟨pp, 0, none⟩)] encM AtM (InvM p) (msgs p) [pp] w :=
  fun l J K hst hinv hsk hy hJ0 => messages1 l pp p J K w hst hinv hsk hy hJ0 hpp hlim
theorem message_ (p : Pth) (j : Nat) (w : World) (hp : p.seen w.cell?) (hj : j < p.hs.length) (hlim : SmP p) (hG : Glb w) :
    Calls Tryd.prog 38 [.agg p.c.toArray, .int .i64 ((j : Nat) : Int)].toArray w (GivesP w (fun v => SV v (msgB p j).length) (fun v => v) (fun v => [.row v (msgB p j).length 5 1 (v8s (msgB p j))]) (fun _ => [])) := by
  obtain ⟨pf, pa, pb, pl, hv, hs⟩ := p
  have hh : Seen w.cell? hv hs.length 24 (hcs hs) := hp.1
  have svh := hh.sv
  have lh := svh.le
  simp only [maxLen] at lh
  refine enterN (m := 15) (R := Mem w [] [] []) Tryd.func38 rfl rfl (Nat.le_of_ble_eq_true rfl) (Mem.start w) ?_
  refine wpc_seq <| wpc_region ?_
  refine wpl_t (t_box rfl [.int .u8 (pf.toNat : Int), .int .u64 (pa.toNat : Int), .int .u64 (pb.toNat : Int), .int .i64 pl, hv] rfl) rfl (fun b2 => ?_)
  refine wpl_t (t_box rfl [.int .i64 ((j : Nat) : Int)] rfl) rfl (fun b3 => ?_)
  refine wpl_t (t_alloc Tryd.ti32 [.slice none 0 0] rfl) rfl (fun b4 => ?_)
  refine wpl_nil <| ex_then <| wpc_seq <| wpc_seq <| wpc_region <| wpl_q (q_ldN Tryd.underlying29 rfl Tryd.ti29 rfl LenC.h) rfl ?_
  refine wpl_t (t_call (N := fun pq => [.blk pq 29 [.int .u8 (pf.toNat : Int), .int .u64 (pa.toNat : Int), .int .u64 (pb.toNat : Int), .int .i64 pl, hv]]) (T := fun _ => []) Tryd.hb49 rfl fun w h => messages ⟨pf, pa, pb, pl, hv, hs⟩ w svh) rfl (fun b8 => ?_)
  refine wpl_nil <| ex_then <| wpc_block ?_
  refine wpc_mono (R' := Mem w [] ([.blk b8 29 [.int .u8 (pf.toNat : Int), .int .u64 (pa.toNat : Int), .int .u64 (pb.toNat : Int), .int .i64 pl, hv]] ++ [.blk b4 32 [.slice none 0 0], .blk b3 3 [.int .i64 ((j : Nat) : Int)], .blk b2 29 [.int .u8 (pf.toNat : Int), .int .u64 (pa.toNat : Int), .int .u64 (pb.toNat : Int), .int .i64 pl, hv]]) []) (fun w h => h) ?_
  refine wpc_rangeG (encs := encM) (At := AtM) (Inv := (InvM ⟨pf, pa, pb, pl, hv, hs⟩)) (xs := (msgs ⟨pf, pa, pb, pl, hv, hs⟩)) (ρ := Value) (β := Unit) [.blk b8 29 [.int .u8 (pf.toNat : Int), .int .u64 (pa.toNat : Int), .int .u64 (pb.toNat : Int), .int .i64 pl, hv]] (fun _ : Unit => [.blk b4 32 [.slice none 0 0], .blk b3 3 [.int .i64 ((j : Nat) : Int)], .blk b2 29 [.int .u8 (pf.toNat : Int), .int .u64 (pa.toNat : Int), .int .u64 (pb.toNat : Int), .int .i64 pl, hv]]) (fun pre _ => ∀ x ∈ pre, x.1 ≠ j) () (fun r => SV r (msgB ⟨pf, pa, pb, pl, hv, hs⟩ j).length) (fun _ => .ret) (fun r => [.blk b4 32 [r], .blk b3 3 [.int .i64 ((j : Nat) : Int)], .blk b2 29 [.int .u8 (pf.toNat : Int), .int .u64 (pa.toNat : Int), .int .u64 (pb.toNat : Int), .int .i64 pl, hv]]) (fun r => [.row r (msgB ⟨pf, pa, pb, pl, hv, hs⟩ j).length 5 1 (v8s (msgB ⟨pf, pa, pb, pl, hv, hs⟩ j))]) (fun x i _ => []) (fun x i b => [(2, .pointer (some ⟨b2, 0, none⟩)), (3, .pointer (some ⟨b3, 0, none⟩)), (4, .pointer (some ⟨b4, 0, none⟩)), (5, .int .i64 ((x.1 : Nat) : Int)), (6, i)]) rfl Tryd.hb72 (fun x hx => by cases hx) (fun w h k hk => by rw [show k = b8 by simpa [nums, Ent.num] using hk]; exact (h.new (.blk b8 29 [.int .u8 (pf.toNat : Int), .int .u64 (pa.toNat : Int), .int .u64 (pb.toNat : Int), .int .i64 pl, hv]) zz50 b8 rfl).resolve_right zz50) (fun w h => msgs_it ⟨pf, pa, pb, pl, hv, hs⟩ b8 w (h.own (.blk b8 29 [.int .u8 (pf.toNat : Int), .int .u64 (pa.toNat : Int), .int .u64 (pb.toNat : Int), .int .i64 pl, hv]) zz50) hlim) (fun _ _ _ _ h => ⟨hp.old h, glob h hG⟩) (fun _ _ _ _ _ h hk => RowAt.keep h hk) (fun _ _ => rfl) zz19 ?_ ?_ ?_ ?_
  ·
   intro l x i w1 K hK
   refine wic_seq ?_
   refine wic_region ?_
   refine wil_q (q_pure rfl) rfl ?_
   refine wil_nil ?_
   refine eix_then ?_
   refine wic_region ?_
   refine wil_q (q_pure rfl) rfl ?_
   refine wil_nil ?_
   exact fun a w hs h => hK () a w (hs.weaken (subs_get zz10)) h
  ·
   intro l pre x i s b w1 T hgs hpre hm hat hT
   obtain ⟨hx2, hx1⟩ := msgs_mem (pre_mem hpre)
   have hat : RowAt T (.row i x.2.length 5 1 (v8s x.2)) w1 := hat
   show WPCI _ _ _ _ (Mem w1 (nums [.blk b4 32 [.slice none 0 0], .blk b3 3 [.int .i64 ((j : Nat) : Int)], .blk b2 29 [.int .u8 (pf.toNat : Int), .int .u64 (pa.toNat : Int), .int .u64 (pb.toNat : Int), .int .i64 pl, hv]]) [.blk b4 32 [.slice none 0 0], .blk b3 3 [.int .i64 ((j : Nat) : Int)], .blk b2 29 [.int .u8 (pf.toNat : Int), .int .u64 (pa.toNat : Int), .int .u64 (pb.toNat : Int), .int .i64 pl, hv]] []) _ _
   refine wic_block ?_
   refine wic_seq ?_
   refine wic_region ?_
   refine wil_q (q_pure rfl) rfl ?_
   refine wil_q (q_ld Tryd.underlying3 rfl rfl zz34) rfl ?_
   refine wil_q (q_pure rfl) rfl ?_
   refine wil_nil ?_
   refine eix_then ?_
   refine wic_cond rfl (fun hc13 => ?_) (fun hc13 => ?_)
   ·
    have hxq : ((x.1 : Nat) : Int) = ((j : Nat) : Int) := by simpa using hc13
    have hxj : x.1 = j := by omega
    have hsi : SV i (msgB ⟨pf, pa, pb, pl, hv, hs⟩ j).length := by rw [← hxj, ← hx2]; exact (Mem.startR w1 hat.1).seenV.sv
    refine wic_seq ?_
    refine wic_region ?_
    refine wil_q (q_pure rfl) rfl ?_
    refine wil_t0 (t_st1 Tryd.ti32 rfl rfl (SV.one zz4) zz5 _ rfl) (fun _ => ?_)
    refine wil_nil ?_
    refine eix_then ?_
    refine wic_ret ?_
    refine ex_block_ret ?_
    refine ex_roundR ?_
    exact fun w h => ⟨i, hsi, rfl, h.sub zz8 .nil, by rw [← hxj, ← hx2]; exact hat.gain⟩
   ·
    have hxq : ¬ ((x.1 : Nat) : Int) = ((j : Nat) : Int) := by simpa using hc13
    have hne : ¬ x.1 = j := by omega
    refine wic_skip ?_
    refine ex_block ?_
    refine ex_roundN ?_
    exact fun w h => ⟨(), fun y hy => by rcases List.mem_append.1 hy with hy | hy; exact hgs y hy; rw [List.mem_singleton] at hy; subst hy; exact hne, h.sub zz8 .nil⟩
  ·
   intro D s hgs
   exact absurd rfl (hgs _ (msgs_at (p := ⟨pf, pa, pb, pl, hv, hs⟩) hj))
  ·
   intro D r hr
   have hr : SV r (msgB ⟨pf, pa, pb, pl, hv, hs⟩ j).length := hr
   refine wpc_weaken (R1 := Mem w [] [.obj D (.deferred (some [])), .blk b4 32 [r], .blk b3 3 [.int .i64 ((j : Nat) : Int)], .blk b2 29 [.int .u8 (pf.toNat : Int), .int .u64 (pa.toNat : Int), .int .u64 (pb.toNat : Int), .int .i64 pl, hv], .row r (msgB ⟨pf, pa, pb, pl, hv, hs⟩ j).length 5 1 (v8s (msgB ⟨pf, pa, pb, pl, hv, hs⟩ j))] []) (L1 := [(2, .pointer (some ⟨b2, 0, none⟩)), (3, .pointer (some ⟨b3, 0, none⟩)), (4, .pointer (some ⟨b4, 0, none⟩))]) zz10 (fun w h => h) ?_
   refine wpc_ret ?_
   refine ex_block_ret ?_
   refine ex_then_ret ?_
   refine ex_markN (.inl rfl) .here ?_
   refine retv1 (.inl rfl) rfl (rv_one Tryd.underlying32 rfl rfl (fun w h => h.cell_blk zz7 rfl)) ?_
   exact fun w h => ⟨r, hr, rfl, h.below, h.made zz8 .nil⟩
end Go.Proofs.YtjpfhkjmjnjggaaDoor
namespace Go.Proofs.YtjpfhkjmjnjggaaDoor
open Go Go.PL Go.RowKit
theorem numA (v : Value) (xs ys : List UInt8) (z : UInt64) (k n : Nat) (w : World) (hrow : (Ent.row v n 5 1 (v8s xs)).at w) (hn : n = xs.length) (sv : SV v n) (hk : 1 ≤ k) (hk8 : k ≤ 8) (hxl : n ≤ 100000) (hz : numK k z.toNat = ys) :
    Calls Tryd.prog 56 [v, .int .u64 (z.toNat : Int), .int .i64 ((k : Nat) : Int)].toArray w (GivesR w (.row v n 5 1 (v8s xs)) (n + k) 5 1 (v8s (xs ++ ys))) := by
  subst hn hz
  exact number v xs z k w hrow sv hk hk8 hxl
theorem shA (v : Value) (xs : List UInt8) (cv : Value) (l : List (List UInt8)) (n : Nat) (w : World) (hrow : (Ent.row v n 5 1 (v8s xs)).at w) (hn : n = xs.length) (sv : SV v n) (hcv : Seen (rdO (nums [.row v n 5 1 (v8s xs)]) w) cv l.length 16 (v8s l.flatten)) (hll : ∀ x ∈ l, x.length = 16) (hlim : l.length ≤ 1000) (hxl : n ≤ 100000) :
    Calls Tryd.prog 57 [v, cv].toArray w (GivesR w (.row v n 5 1 (v8s xs)) (n + l.length * 16) 5 1 (v8s (xs ++ l.flatten))) := by
  subst hn
  exact refShorts v xs cv l w hrow sv hcv hll hlim hxl
theorem hz32 (x : UInt32) (k : Nat) : numK k (of64 ((x.toNat : Nat) : Int)).toNat = numK k x.toNat := by rw [of64_nat _ (by have := x.toNat_lt; omega)]
theorem num1 (n : Nat) : numK 1 n = [of8 ((n : Nat) : Int)] := by
  show [of8 ((n % 256 : Nat) : Int)] = _
  rw [of8_mod]
theorem hz8 (x : UInt8) : numK 1 (of64 ((x.toNat : Nat) : Int)).toNat = [x] := by
  rw [of64_nat _ (by have := x.toNat_lt; omega), num1]
  congr 1
  apply UInt8.toNat_inj.1
  have h1 := of8_toNat ((x.toNat : Nat) : Int)
  have := x.toNat_lt
  omega
theorem hzi (i : Int) : numK 1 (of64 i).toNat = [of8 i] := by
  rw [num1]
  congr 1
  apply UInt8.toNat_inj.1
  have h1 := of8_toNat (((of64 i).toNat : Nat) : Int)
  have h2 := of8_toNat i
  have h3 := of64_toNat i
  omega
theorem hcs_sig {l : List Hop} {i : Nat} (hi : i < l.length) : ((hcs l).drop (i * 24 + 21)).take 3 = (l.getD i Hop.z).sig := by
  have q := cat_part Hop.c_length Hop.z hi
  rw [← Hop.c_sig, ← q, List.drop_take, List.drop_drop, List.take_take]
  rfl
theorem msg0_eq (p : Pth) (h : Hop) (hh : p.hs.getD 0 Hop.z = h) : ((((((((numK 4 h.to.toNat ++ numK 4 h.sy.toNat) ++ [h.cnt]) ++ [h.fl]) ++ [h.root.1].flatten) ++ [of8 h.ht]) ++ [p.pf]) ++ [of8 p.pl]) ++ numK 8 p.pa.toNat) ++ numK 8 p.pb.toNat = msgB p 0 := by
  rw [msgB, restF, rest0, hh, headB]
  simp
theorem msgS_eq (p : Pth) (m : Nat) (h g : Hop) (hh : p.hs.getD (m + 1) Hop.z = h) (hg : p.hs.getD m Hop.z = g) : (((((numK 4 h.to.toNat ++ numK 4 h.sy.toNat) ++ [h.cnt]) ++ [h.fl]) ++ [h.root.1].flatten) ++ [of8 h.ht]) ++ (sumF (((msgB p m ++ numK 4 (of64 g.ix).toNat) ++ g.chs.flatten) ++ g.ps.flatten)).take 32 = msgB p (m + 1) := by
  subst hh hg
  rw [List.take_of_length_le (by rw [sumF_length]; exact Nat.le_refl _)]
  show _ = headB (p.hs.getD (m + 1) Hop.z) ++ sumF ((headB (p.hs.getD m Hop.z) ++ restF p m) ++ tailH (p.hs.getD m Hop.z))
  have e : (((msgB p m ++ numK 4 (of64 (p.hs.getD m Hop.z).ix).toNat) ++ (p.hs.getD m Hop.z).chs.flatten) ++ (p.hs.getD m Hop.z).ps.flatten) = (headB (p.hs.getD m Hop.z) ++ restF p m) ++ tailH (p.hs.getD m Hop.z) := by
    rw [tailH, msgB]; simp only [List.append_assoc]
  rw [e]
  generalize sumF ((headB (p.hs.getD m Hop.z) ++ restF p m) ++ tailH (p.hs.getD m Hop.z)) = u
  rw [headB]
  simp
theorem a42_len (h : Hop) : (((((numK 4 h.to.toNat ++ numK 4 h.sy.toNat) ++ [h.cnt]) ++ [h.fl]) ++ [h.root.1].flatten) ++ [of8 h.ht]).length = 27 := by simp [numK_len, h.root.2]
theorem take_getDU {l : List UInt8} {i : Nat} (h : i < l.length) : l.take (i + 1) = l.take i ++ [l.getD i 0] := by
  rw [List.take_add_one, List.getD_eq_getElem?_getD, List.getElem?_eq_getElem h]; rfl
theorem q_ldWFN {P : Program} {n : Cx} {R : World → Prop} {L : Slots} {t : TypeId} {x : Operand} {v : Value} {m s' j k : Nat} {xs : List Value} {d : TypeDesc} {z : Value} {sz by_ : Nat} (hu : P.underlying t = some d) (hd : isAggD d = true) (ht : TyI P t z sz by_) (hx : ev L x = some (.pointer (some (((sa v).add j).add k))))
    (hs : ∀ w, R w → Seen w.cell? v m s' xs) (cs : List Value) (hc : (xs.drop (j + k)).take sz = cs) (hl : cs.length = sz) : QOp P n R L (.load t x) (.agg cs.toArray) :=
  q_ldWN hu hd ht (by rw [addr_add_add] at hx; exact hx) hs cs hc hl
instance lenC_sig {h : Hop} : LenC h.sig 3 := ⟨rfl⟩
theorem Hop.sv.sigOne {h : Hop} (hs : h.sv) : OneC h.sig := OneC.cons rfl (OneC.cons (SV.one hs.1) (OneC.cons (SV.one hs.2) oneC_nil))
theorem s16l (r : S16) : r.val.length = 16 := r.2
theorem seen_rowO {w0 w : World} {Ln : List Nat} {M : List Ent} {S : List Fact} (h : Mem w0 Ln M S w) {v : Value} {m : Nat} {e : TypeId} {sz : Nat} {xs : List Value} (hm : Ent.row v m e sz xs ∈ M) {f : Ent} (hap : ∀ k, (Ent.row v m e sz xs).num = some k → f.num ≠ some k) : Seen (rdO (nums [f]) w) v m sz xs := by
  have h2 := (h.own _ hm : w.ownsRow 0 e sz v m xs)
  refine ⟨h2.1, ?_⟩
  rcases h.row_form hm with ⟨rfl, rfl, rfl⟩ | ⟨g, cap, rfl, h3, h4⟩
  · exact ⟨none, 0, rfl, Nat.le_refl _, Nat.zero_le _, .inl ⟨rfl, rfl⟩⟩
  · refine ⟨_, _, rfl, h3, h4, .inr ⟨_, rfl, fun j u hj => ?_⟩⟩
    unfold rdO
    rw [if_neg]
    · exact h2.cells rfl j u hj
    · intro hb
      obtain ⟨f', hf, hn⟩ := mem_nums.1 hb
      rw [List.mem_singleton] at hf
      subst hf
      exact hap g rfl (by rw [hn]; congr 1; unfold Addr.add; split <;> rfl)
end Go.Proofs.YtjpfhkjmjnjggaaDoor
