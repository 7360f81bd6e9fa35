/- What the statement reaches, in order. -/
import Derived.Test.YtgnablliekgbgaaDoorMSPLN
import Derived.Test.YtgnablliekgbgaaDoorMSPLL
import Derived.Test.YtgnablliekgbgaaDoorMSTI
import Derived.Lib.BufferRead
import Derived.Lib.ConvBytes
import Derived.Laws.IdiomStrings
import Derived.Test.YtgnablliekgbgaaDoorMSPLH
import Derived.Recover
import Derived.Test.YtgnablliekgbgaaDoorMSPLI
import Derived.Test.YtgnablliekgbgaaDoorMSPLZ
import Derived.WalkKit
import Derived.ProofKit
import Derived.OpenShut
import Derived.ChangeOld
import Derived.Below
import Derived.Carry
import Derived.LaidMore
import Derived.Deep.DeepHandedRow
import Derived.Deep.DeepWitnessRowRef
import Derived.Lib.LaidTab
import Derived.Stop.Joined
import Derived.Test.YtgnablliekgbgaaDoorMS4
set_option linter.unusedSimpArgs false
set_option linter.unusedVariables false
set_option maxRecDepth 100000
namespace Go.Proofs.YtgnablliekgbgaaDoor
open Go Go.PL Go.RowKit
def stepF (x : List UInt8) (i j : Nat) : List UInt8 := shortF (x ++ [of8 (i : Int), of8 (j : Int)])
def climbF (x : List UInt8) (i f : Nat) : Nat → List UInt8
  | 0 => x
  | n + 1 => stepF (climbF x i f n) i (f + n)
def beginF (s : List UInt8) (i : Nat) : List UInt8 := stepF s i 255
def chainF (s : List UInt8) (i h : Nat) : List UInt8 := climbF (beginF s i) i 0 h
def digN (s : List UInt8) (k : Nat) : Nat := if k % 2 = 0 then (s.getD (k / 2) 0).toNat / 16 else (s.getD (k / 2) 0).toNat % 16
def digs (s : List UInt8) (n : Nat) : List Nat := (List.range n).map (digN s)
def dsum (s : List UInt8) : Nat → Nat
  | 0 => 0
  | n + 1 => dsum s n + (15 - digN s n)
def digsF (s : List UInt8) : List Nat := digs s 32 ++ [dsum s 32 / 256, dsum s 32 / 16 % 16, dsum s 32 % 16]
theorem stepF_length (x : List UInt8) (i j : Nat) : (stepF x i j).length = 16 := by rw [stepF]; exact shortF_length _
theorem climbF_length (x : List UInt8) (hx : x.length = 16) (i f : Nat) : ∀ n, (climbF x i f n).length = 16
  | 0 => hx
  | n + 1 => by rw [climbF]; exact stepF_length _ _ _
theorem beginF_length (s : List UInt8) (i : Nat) : (beginF s i).length = 16 := by rw [beginF]; exact stepF_length _ _ _
theorem chainF_length (s : List UInt8) (i h : Nat) : (chainF s i h).length = 16 := by rw [chainF]; exact climbF_length _ (beginF_length _ _) _ _ _
theorem digN_le (s : List UInt8) (k : Nat) : digN s k ≤ 15 := by
  have := (s.getD (k / 2) 0).toNat_lt
  unfold digN; split <;> omega
theorem digs_length (s : List UInt8) (n : Nat) : (digs s n).length = n := by simp [digs]
theorem digsF_length (s : List UInt8) : (digsF s).length = 35 := by simp [digsF, digs_length]
theorem digs_succ (s : List UInt8) (n : Nat) : digs s (n + 1) = digs s n ++ [digN s n] := by simp [digs, List.range_succ]
theorem dsum_le (s : List UInt8) : ∀ n, dsum s n ≤ 15 * n
  | 0 => Nat.le_refl _
  | n + 1 => by have := dsum_le s n; unfold dsum; omega
theorem sr4 (x : UInt8) : (sr8 x 4).toNat = x.toNat / 16 := by
  have := x.toNat_lt
  simp only [sr8, UInt8.toNat_ofNat']
  have : min 4 8 = 4 := rfl
  rw [this]; omega
theorem and15 (x : UInt8) : (x &&& 15).toNat = x.toNat % 16 := by
  rw [UInt8.toNat_and]; exact Nat.and_two_pow_sub_one_eq_mod _ 4
theorem nand15 (x : Nat) : x &&& 15 = x % 16 := Nat.and_two_pow_sub_one_eq_mod _ 4
theorem digs_two (s : List UInt8) (i : Nat) : digs s (2 * i) ++ [(sr8 (s.getD i 0) 4).toNat, (s.getD i 0 &&& 15).toNat] = digs s (2 * (i + 1)) := by
  rw [show 2 * (i + 1) = 2 * i + 1 + 1 from zz14, digs_succ, digs_succ, List.append_assoc]
  congr 1
  simp only [digN, sr4, and15]
  rw [if_pos zz14, if_neg zz14, show 2 * i / 2 = i from zz14, show (2 * i + 1) / 2 = i from zz14]; rfl
theorem dsum_two (s : List UInt8) (i : Nat) : dsum s (2 * i) + ((30 - (sr8 (s.getD i 0) 4).toNat) - (s.getD i 0 &&& 15).toNat) = dsum s (2 * (i + 1)) := by
  have h1 := digN_le s (2 * i)
  have h2 := digN_le s (2 * i + 1)
  rw [show 2 * (i + 1) = 2 * i + 1 + 1 from zz14, dsum, dsum]
  have e1 : digN s (2 * i) = (s.getD i 0).toNat / 16 := by unfold digN; rw [if_pos zz14, show 2 * i / 2 = i from zz14]
  have e2 : digN s (2 * i + 1) = (s.getD i 0).toNat % 16 := by unfold digN; rw [if_neg zz14, show (2 * i + 1) / 2 = i from zz14]
  rw [sr4, and15, ← e1, ← e2]; omega
theorem last3 (s : List UInt8) : digs s 32 ++ [dsum s 32 / 2 ^ 8, (dsum s 32 / 2 ^ 4) &&& 15, dsum s 32 &&& 15] = digsF s := by
  rw [nand15, nand15]; rfl
theorem digits (bv : Value) (bs : List UInt8) (w : World) (hbv : Seen w.cell? bv bs.length 1 (v8s bs)) (hG : Glb w) :
    Calls Tryd.prog 86 [bv].toArray w (GivesP w (fun v => SV v 35) (fun v : Value => v) (fun v => [.row v 35 3 1 (vns (digsF (shortF bs)))]) (fun _ => [])) := by
  have sbv := hbv.sv
  have lbv := sbv.le
  simp only [maxLen] at lbv
  refine enter (m := 42) (R := Mem w [] [] []) Tryd.func86 rfl rfl (Nat.le_of_ble_eq_true rfl) (Mem.start w) ?_
  refine wpc_seq <| wpc_region <| wpl_q (q_pure rfl) rfl <| wpl_nil <| ex_then <| wpc_seq <| wpc_region <| wpl_q (q_pure rfl) rfl <| wpl_nil <| ex_then <| wpc_seq <| wpc_region ?_
  refine wpl_q (q_pure rfl) rfl <| wpl_nil <| ex_then <| wpc_seq <| wpc_seq <| wpc_region <| wpl_q (q_pure rfl) rfl ?_
  refine wpl_t (t_pur Tryd.hb85 rfl fun w h => shortW _ _ w zz17 (glob h hG)) rfl (fun b10 => ?_)
  refine wpl_q (q_pure rfl) rfl <| wpl_nil <| ex_then <| wpc_block ?_
  refine wpc_loopc (ι := { x : Nat × Value // (x.1 ≤ 16) ∧ (SV x.2 (2 * x.1)) }) [(10, _)] (fun x Lc => (11, .int .i64 ((x.1.1 : Nat) : Int)) :: (3, x.1.2) :: (4, .int .i64 ((dsum (shortF bs) (2 * x.1.1) : Nat) : Int)) :: Lc) (fun x => Mem w [] [.row x.1.2 (2 * x.1.1) 3 1 (vns (digs (shortF bs) (2 * x.1.1)))] []) (fun x => 16 - x.1.1) ⟨(0, .slice none 0 0), ⟨Nat.zero_le _, SV.nil⟩⟩ zz9 ?_ ?_
  ·
   exact fun w h => h.nilRow 3 1
  ·
   rintro ⟨⟨i, v⟩, ⟨hi0, hi1⟩⟩; try dsimp only
   have hi0 : i ≤ 16 := hi0; have hi1 : SV v (2 * i) := hi1
   have hds := dsum_le (shortF bs) (2 * i)
   have hsl := shortF_length bs
   have hx1 := sr4 ((shortF bs).getD i 0)
   have hx2 := and15 ((shortF bs).getD i 0)
   have hx3 := ((shortF bs).getD i 0).toNat_lt
   refine wpc_seq <| wpc_region <| wpl_q (q_pure rfl) rfl <| wpl_nil <| ex_then <| wpc_seq ?_
   refine wpc_cond rfl (fun hc12 => ?_) (fun hc12 => ?_)
   ·
    try simp only [decide_eq_true_eq, decide_eq_false_iff_not, Bool.and_eq_true, Bool.or_eq_true, beq_iff_eq, bne_iff_ne, ne_eq, Bool.not_eq_true', Bool.not_eq_false', Decidable.not_not] at hc12
    refine wpc_skip <| ex_then <| wpc_seq <| wpc_block <| wpc_seq <| wpc_region ?_
    refine wpl_q (q_idxVN Tryd.underlying41 Tryd.ti5 Tryd.underlying5 rfl rfl rfl zz14 zz34) rfl ?_
    refine wpl_q (q_pure rfl) rfl <| wpl_nil <| ex_then <| wpc_seq <| wpc_region <| wpl_q (q_pure rfl) rfl ?_
    refine wpl_q (q8_shr rfl rfl zz23 4 rfl) rfl ?_
    refine wpl_q (q8_int Tryd.underlying5 Tryd.underlying3 rfl) rfl <| wpl_q (q_pure rfl) rfl ?_
    refine wpl_q (q8_and (b := (15 : UInt8)) rfl rfl) rfl ?_
    refine wpl_q (q8_int Tryd.underlying5 Tryd.underlying3 rfl) rfl <| wpl_q (q_pure rfl) rfl <| wpl_q (q_pure rfl) rfl <| wpl_nil <| ex_then <| wpc_seq <| wpc_region <| wpl_q (q_pure rfl) rfl <| wpl_q (q_pure rfl) rfl <| wpl_q (q_pure rfl) rfl ?_
    refine wpl_tp (t_bsV (vns [_, _]) Tryd.underlying146 Tryd.ti3 rfl rfl zz20 zz20 rfl (vns_one _)) rfl (fun b23 p23 => ?_)
    refine wpl_tp (t_apW Tryd.underlying146 Tryd.ti3 rfl zz20 rfl rfl (fun w h => zz13) (vns_one _) zz1 zz1 _ zz16) rfl (fun b24 p24 => ?_)
    refine wpl_q (q_pure rfl) rfl <| wpl_nil <| ex_then <| wpc_region <| wpl_q (q_pure rfl) rfl <| wpl_q (q_pure rfl) rfl ?_
    refine wpl_q (q_subN (a := 30) rfl rfl zz14 zz1) rfl ?_
    refine wpl_q (q_pure rfl) rfl ?_
    refine wpl_q (q_subN rfl rfl zz14 zz1) rfl ?_
    refine wpl_q (qop_eq (q_addN rfl rfl zz1) (by rw [dsum_two])) rfl ?_
    refine wpl_q (q_pure rfl) rfl <| wpl_nil <| ex_block <| ex_then <| wpc_region ?_
    refine wpl_q (q_addN (b := 1) rfl rfl zz1) rfl ?_
    refine wpl_q (q_pure rfl) rfl <| wpl_nil ?_
    refine ex_again ⟨(i + 1, b24), ⟨zz14, by rw [show 2 * (i + 1) = 2 * i + 2 from zz14]; exact p24⟩⟩ ?_ ?_ ?_
    ·
     exact zz9
    ·
     exact fun w h => by
       dsimp only
       rw [← digs_two, show 2 * (i + 1) = 2 * i + 2 from zz14]
       first | exact h.sub SubC.h SubC.h | exact h.sub zz8 zz8
    ·
     (show 16 - (i + 1) < 16 - i); omega
   ·
    simp only [decide_eq_false_iff_not] at hc12
    obtain rfl : i = 16 := by omega
    refine wpc_exit ?_
    refine ex_then_exit ?_
    refine ex_then_exit ?_
    refine ex_block_hit ?_
    refine ex_then <| wpc_seq <| wpc_region <| wpl_q (q_pure rfl) rfl <| wpl_q (q_pure rfl) rfl ?_
    refine wpl_q (q_shrN (b := 8) rfl rfl zz23) rfl ?_
    refine wpl_q (q_pure rfl) rfl ?_
    refine wpl_q (q_shrN (b := 4) rfl rfl zz23) rfl ?_
    refine wpl_q (q_andN (b := 15) rfl rfl zz1 zz1) rfl ?_
    refine wpl_q (q_pure rfl) rfl ?_
    refine wpl_q (q_andN (b := 15) rfl rfl zz1 zz1) rfl ?_
    refine wpl_tp (t_bsV (vns [_, _, _]) Tryd.underlying146 Tryd.ti3 rfl rfl zz20 zz20 rfl (vns_one _)) rfl (fun b40 p40 => ?_)
    refine wpl_tp (t_apW Tryd.underlying146 Tryd.ti3 rfl zz20 rfl rfl (fun w h => zz13) (vns_one _) zz1 zz1 (vns (digsF (shortF bs))) (by rw [← vns_append]; exact congrArg vns (last3 (shortF bs)))) rfl (fun b41 p41 => ?_)
    refine wpl_q (q_pure rfl) rfl <| wpl_nil <| ex_then <| wpc_ret ?_
    refine ret1 (.inl rfl) rfl rfl ?_
    exact fun w h => ⟨b41, p41, rfl, h.below, h.made SubC.h SubC.h⟩
end Go.Proofs.YtgnablliekgbgaaDoor
namespace Go.Proofs.YtgnablliekgbgaaDoor
open Go Go.PL Go.RowKit
def accF (E : Nat → List UInt8) : Nat → List UInt8
  | 0 => []
  | i + 1 => accF E i ++ E i
def publicF (s : List UInt8) : List UInt8 := shortF (accF (fun i => chainF s i 15) 35)
def dig (m : List UInt8) (i : Nat) : Nat := (digsF (shortF m)).getD i 0
def sg (s m : List UInt8) (n : Nat) : List (List UInt8) := (List.range n).map fun i => chainF s i (dig m i)
def signF (s m : List UInt8) : List (List UInt8) := sg s m 35
def recE (m : List UInt8) (chs : List (List UInt8)) (i : Nat) : List UInt8 := climbF (chs.getD i []) i (dig m i) (15 - dig m i)
def recF (m : List UInt8) (chs : List (List UInt8)) : List UInt8 := if chs.length = 35 then shortF (accF (recE m chs) 35) else List.replicate 16 0
def recEr (chs : List (List UInt8)) : Int := if chs.length = 35 then 0 else 12
theorem sg_all (s m : List UInt8) (n : Nat) : ∀ x ∈ sg s m n, x.length = 16 := by
  intro x hx
  obtain ⟨i, _, rfl⟩ := List.mem_map.1 hx
  exact chainF_length _ _ _
theorem signF_all (s m : List UInt8) : ∀ x ∈ signF s m, x.length = 16 := sg_all s m 35
theorem sg_length (s m : List UInt8) (n : Nat) : (sg s m n).length = n := by simp [sg]
theorem signF_length (s m : List UInt8) : (signF s m).length = 35 := sg_length s m 35
theorem sg_succ (s m : List UInt8) (n : Nat) : sg s m (n + 1) = sg s m n ++ [chainF s n (dig m n)] := by simp [sg, List.range_succ]
theorem dig_le (m : List UInt8) (i : Nat) : dig m i ≤ 15 := by
  have hd := dsum_le (shortF m) 32
  have : ∀ x ∈ digsF (shortF m), x ≤ 15 := by
    intro x hx
    unfold digsF at hx
    rcases List.mem_append.1 hx with hx | hx
    · obtain ⟨k, _, rfl⟩ := List.mem_map.1 hx
      exact digN_le _ _
    · simp only [List.mem_cons, List.not_mem_nil, or_false] at hx
      omega
  unfold dig
  rw [List.getD_eq_getElem?_getD]
  cases h : (digsF (shortF m))[i]? with
  | none => exact Nat.zero_le _
  | some x => exact this x (List.mem_of_getElem? h)
theorem recE_length (m : List UInt8) (chs : List (List UInt8)) (h : ∀ x ∈ chs, x.length = 16) (i : Nat) (hi : i < chs.length) : (recE m chs i).length = 16 := by
  rw [recE]; exact climbF_length _ (getD_mem_len h hi) _ _ _
theorem recF_length (m : List UInt8) (chs : List (List UInt8)) : (recF m chs).length = 16 := by
  unfold recF
  split
  · exact shortF_length _
  · exact List.length_replicate
theorem publicF_length (s : List UInt8) : (publicF s).length = 16 := by rw [publicF]; exact shortF_length _
theorem accF_len16 (E : Nat → List UInt8) (n : Nat) (h : ∀ i, i < n → (E i).length = 16) : ∀ k, k ≤ n → (accF E k).length = 16 * k
  | 0, _ => rfl
  | k + 1, hk => by rw [accF, List.length_append, accF_len16 E n h k zz14, h k zz14]; omega
theorem accF_congr (E F : Nat → List UInt8) (n : Nat) (h : ∀ i, i < n → E i = F i) : ∀ k, k ≤ n → accF E k = accF F k
  | 0, _ => rfl
  | k + 1, hk => by rw [accF, accF, accF_congr E F n h k zz14, h k zz14]
theorem step (xs : List UInt8) (i : Nat) (j : Nat) (w : World) (hxs : xs.length = 16) (hG : Glb w) :
    Calls Tryd.prog 95 [.agg (v8s xs).toArray, .int .i64 ((i : Nat) : Int), .int .i64 ((j : Nat) : Int)].toArray w (Pur w (.agg (v8s (stepF xs i j)).toArray)) := by
  refine enter (m := 15) (R := Mem w [] [] []) Tryd.func95 rfl rfl (Nat.le_of_ble_eq_true rfl) (Mem.start w) ?_
  refine wpc_seq <| wpc_region ?_
  refine wpl_t (t_box rfl (v8s xs) rfl) rfl (fun b3 => ?_)
  refine wpl_t (t_alloc Tryd.ti41 (v8s (List.replicate 16 0)) (by rfl)) rfl (fun b6 => ?_)
  refine wpl_nil <| ex_then <| wpc_seq <| wpc_region <| wpl_q (q_arAll Tryd.underlying41 Tryd.ti5 rfl rfl) rfl <| wpl_q (q_pure rfl) rfl <| wpl_q (q8_conv Tryd.underlying3 Tryd.underlying5 rfl) rfl <| wpl_q (q_pure rfl) rfl <| wpl_q (q8_conv Tryd.underlying3 Tryd.underlying5 rfl) rfl ?_
  refine wpl_tp (t_bsV (v8s [_, _]) Tryd.underlying34 Tryd.ti5 rfl rfl zz20 zz20 rfl (v8s_one _)) rfl (fun b12 p12 => ?_)
  refine wpl_tp (t_apF Tryd.underlying34 Tryd.ti5 rfl rfl rfl (fun w h => zz13) (fun w h => zz13) zz1 zz1 zz1 _ zz16) rfl (fun b13 p13 => ?_)
  refine wpl_t (t_pur Tryd.hb85 rfl fun w h => shortW _ _ w zz17 (glob h hG)) rfl (fun b14 => ?_)
  refine wpl_t0 (t_stA Tryd.ti41 rfl rfl zz0 (v8s_one _) zz0) (fun _ => ?_)
  refine wpl_nil <| ex_then <| wpc_ret ?_
  refine retv1 (.inl rfl) rfl (rv_agg Tryd.underlying41 rfl Tryd.ti41 rfl (fun w h => h.atB) zz0) ?_
  exact fun w h => ⟨rfl, h.below⟩
theorem climb (xs : List UInt8) (i : Nat) (f : Nat) (t : Nat) (w : World) (hxs : xs.length = 16) (hG : Glb w) (hf : f ≤ 1000) (ht : t ≤ 1000) :
    Calls Tryd.prog 83 [.agg (v8s xs).toArray, .int .i64 ((i : Nat) : Int), .int .i64 ((f : Nat) : Int), .int .i64 ((t : Nat) : Int)].toArray w (Pur w (.agg (v8s (climbF xs i f (t - f))).toArray)) := by
  refine enter (m := 21) (R := Mem w [] [] []) Tryd.func83 rfl rfl (Nat.le_of_ble_eq_true rfl) (Mem.start w) ?_
  refine wpc_seq <| wpc_region ?_
  refine wpl_t (t_box rfl (v8s xs) rfl) rfl (fun b4 => ?_)
  refine wpl_t (t_alloc Tryd.ti41 (v8s (List.replicate 16 0)) (by rfl)) rfl (fun b8 => ?_)
  refine wpl_nil <| ex_then <| wpc_seq <| wpc_seq <| wpc_region <| wpl_q (q_pure rfl) rfl <| wpl_q (q_pure rfl) rfl <| wpl_nil <| ex_then <| wpc_block ?_
  refine wpc_loopc (ι := { x : Nat // (x ≤ t - f) }) [(1, _), (3, _), (4, _), (8, _)] (fun x Lc => (9, .int .i64 ((f + x.1 : Nat) : Int)) :: Lc) (fun x => Mem w [] [.blk b8 41 (v8s (List.replicate 16 0)), .blk b4 41 (v8s (climbF xs i f x.1))] []) (fun x => t - f - x.1) ⟨0, zz43⟩ zz9 ?_ ?_
  ·
   exact fun w h => h
  ·
   rintro ⟨n, hi0⟩; try dsimp only
   have hi0 : n ≤ t - f := hi0
   have hcl := climbF_length xs hxs i f n
   refine wpc_seq <| wpc_seq <| wpc_region <| wpl_q (q_pure rfl) rfl <| wpl_q (q_pure rfl) rfl <| wpl_q (q_pure rfl) rfl <| wpl_nil <| ex_then ?_
   refine wpc_cond rfl (fun hc13 => ?_) (fun hc13 => ?_)
   ·
    simp only [decide_eq_true_eq] at hc13
    refine wpc_skip <| ex_then <| wpc_seq <| wpc_block <| wpc_region ?_
    refine wpl_q (q_ldN Tryd.underlying41 rfl Tryd.ti41 rfl zz0) rfl ?_
    refine wpl_q (q_pure rfl) rfl <| wpl_q (q_pure rfl) rfl ?_
    refine wpl_t (t_pur Tryd.hb95 rfl fun w h => step _ _ _ w zz11 (glob h hG)) rfl (fun b19 => ?_)
    refine wpl_t0 (t_stA Tryd.ti41 rfl rfl zz0 (v8s_one _) zz0) (fun _ => ?_)
    refine wpl_nil <| ex_block <| ex_then <| wpc_region <| wpl_q (q_pure rfl) rfl ?_
    refine wpl_q (q_addN (b := 1) rfl rfl zz1) rfl ?_
    refine wpl_q (q_pure rfl) rfl <| wpl_nil ?_
    refine ex_again ⟨n + 1, zz43⟩ ?_ ?_ ?_
    ·
     exact zz9
    ·
     exact fun w h => by first | exact h | exact h.sub SubC.h SubC.h | exact h.sub zz8 zz8
    ·
     (show t - f - (n + 1) < t - f - n); omega
   ·
    simp only [decide_eq_false_iff_not] at hc13
    obtain rfl : n = t - f := by omega
    refine wpc_exit ?_
    refine ex_then_exit ?_
    refine ex_then_exit ?_
    refine ex_block_hit ?_
    refine ex_then <| wpc_seq <| wpc_region ?_
    refine wpl_q (q_ldN Tryd.underlying41 rfl Tryd.ti41 rfl zz0) rfl ?_
    refine wpl_t0 (t_stA Tryd.ti41 rfl rfl zz0 (v8s_one _) zz0) (fun _ => ?_)
    refine wpl_nil <| ex_then <| wpc_ret ?_
    refine retv1 (.inl rfl) rfl (rv_agg Tryd.underlying41 rfl Tryd.ti41 rfl (fun w h => h.atB) zz0) ?_
    exact fun w h => ⟨rfl, h.below⟩
theorem begin_ (xs : List UInt8) (i : Nat) (w : World) (hxs : xs.length = 16) (hG : Glb w) :
    Calls Tryd.prog 84 [.agg (v8s xs).toArray, .int .i64 ((i : Nat) : Int)].toArray w (Pur w (.agg (v8s (beginF xs i)).toArray)) := by
  refine enter (m := 8) (R := Mem w [] [] []) Tryd.func84 rfl rfl (Nat.le_of_ble_eq_true rfl) (Mem.start w) ?_
  refine wpc_seq <| wpc_region ?_
  refine wpl_t (t_box rfl (v8s xs) rfl) rfl (fun b2 => ?_)
  refine wpl_t (t_alloc Tryd.ti41 (v8s (List.replicate 16 0)) (by rfl)) rfl (fun b4 => ?_)
  refine wpl_nil <| ex_then <| wpc_seq <| wpc_region ?_
  refine wpl_q (q_ldN Tryd.underlying41 rfl Tryd.ti41 rfl zz0) rfl ?_
  refine wpl_q (q_pure rfl) rfl ?_
  refine wpl_t (t_pur Tryd.hb95 rfl fun w h => step _ _ 255 w zz11 (glob h hG)) rfl (fun b7 => ?_)
  refine wpl_t0 (t_stA Tryd.ti41 rfl rfl zz0 (v8s_one _) zz0) (fun _ => ?_)
  refine wpl_nil <| ex_then <| wpc_ret ?_
  refine retv1 (.inl rfl) rfl (rv_agg Tryd.underlying41 rfl Tryd.ti41 rfl (fun w h => h.atB) zz0) ?_
  exact fun w h => ⟨rfl, h.below⟩
theorem ends (cf : Nat) (cap : Array Value) (E : Nat → List UInt8) (w : World)  (hG : Glb w) (hcb : HasBody Tryd.prog cf) (hE : ∀ i, i < 35 → (E i).length = 16) (hcl : ∀ (i : Nat) (w1 : World), i < 35 → Mem w [] [] [] w1 → Calls Tryd.prog cf (#[.int .i64 ((i : Nat) : Int)] ++ cap) w1 (Pur w1 (.agg (v8s (E i)).toArray))) :
    Calls Tryd.prog 81 [.func (.func cf) #[] cap].toArray w (Pur w (.agg (v8s (shortF (accF E 35))).toArray)) := by
  refine enter (m := 18) (R := Mem w [] [] []) Tryd.func81 rfl rfl (Nat.le_of_ble_eq_true rfl) (Mem.start w) ?_
  refine wpc_seq <| wpc_region ?_
  refine wpl_t (t_alloc Tryd.ti41 (v8s (List.replicate 16 0)) (by rfl)) rfl (fun b2 => ?_)
  refine wpl_nil <| ex_then <| wpc_seq <| wpc_region <| wpl_q (q_pure rfl) rfl <| wpl_nil <| ex_then <| wpc_seq <| wpc_seq <| wpc_region <| wpl_q (q_pure rfl) rfl <| wpl_nil ?_
  refine ex_then <| wpc_block ?_
  refine wpc_loopc (ι := { x : Nat × Value // (x.1 ≤ 35) ∧ (SV x.2 (accF E x.1).length) }) [(0, _), (2, _)] (fun x Lc => (6, .int .i64 ((x.1.1 : Nat) : Int)) :: (3, x.1.2) :: Lc) (fun x => Mem w [] [.row x.1.2 (accF E x.1.1).length 5 1 (v8s (accF E x.1.1)), .blk b2 41 (v8s (List.replicate 16 0))] []) (fun x => 35 - x.1.1) ⟨(0, .slice none 0 0), ⟨Nat.zero_le _, SV.nil⟩⟩ zz9 ?_ ?_
  ·
   exact fun w h => h.nilRow 5 1
  ·
   rintro ⟨⟨i, v⟩, ⟨hi0, hi1⟩⟩; try dsimp only
   have hi0 : i ≤ 35 := hi0; have hi1 : SV v (accF E i).length := hi1
   have hal : i ≤ 35 → (accF E i).length ≤ 16 * 35 := fun hi => by rw [accF_len16 E 35 hE i hi]; omega
   have hal2 := hal hi0
   refine wpc_seq <| wpc_region <| wpl_q (q_pure rfl) rfl <| wpl_nil <| ex_then <| wpc_seq ?_
   refine wpc_cond rfl (fun hc7 => ?_) (fun hc7 => ?_)
   ·
    simp only [decide_eq_true_eq] at hc7
    have hEi := hE i zz14
    refine wpc_skip <| ex_then <| wpc_seq <| wpc_block <| wpc_seq <| wpc_region <| wpl_q (q_pure rfl) rfl <| wpl_q (q_pure rfl) rfl <| wpl_nil <| ex_then <| wpc_seq <| wpc_region ?_
    refine wpl_q (q_pure rfl) rfl <| wpl_q (q_pure rfl) rfl ?_
    refine wpl_t (t_purV rfl hcb rfl fun w h => hcl i w zz14 (h.sub .nil .nil)) rfl (fun b11 => ?_)
    refine wpl_t (t_alloc Tryd.ti41 (v8s (List.replicate 16 0)) (by rfl)) rfl (fun b5 => ?_)
    refine wpl_t0 (t_stA Tryd.ti41 rfl rfl zz0 (v8s_one _) zz0) (fun _ => ?_)
    refine wpl_nil <| ex_then <| wpc_region <| wpl_q (q_pure rfl) rfl <| wpl_q (q_arAll Tryd.underlying41 Tryd.ti5 rfl rfl) rfl ?_
    refine wpl_tp (t_apW Tryd.underlying34 Tryd.ti5 rfl zz20 rfl rfl (fun w h => zz13) (v8s_one _) zz1 zz1 _ zz16) rfl (fun b14 p14 => ?_)
    refine wpl_q (q_pure rfl) rfl <| wpl_nil <| ex_block <| ex_then <| wpc_region ?_
    refine wpl_q (q_addN (b := 1) rfl rfl zz1) rfl ?_
    refine wpl_q (q_pure rfl) rfl <| wpl_nil ?_
    refine ex_again ⟨(i + 1, b14), ⟨zz14, by rw [accF, List.length_append, hEi]; exact p14⟩⟩ ?_ ?_ ?_
    ·
     exact zz9
    ·
     exact fun w h => by
       dsimp only
       rw [accF, List.length_append, hEi]
       first | exact h.sub SubC.h SubC.h | exact h.sub zz8 zz8
    ·
     (show 35 - (i + 1) < 35 - i); omega
   ·
    simp only [decide_eq_false_iff_not] at hc7
    obtain rfl : i = 35 := by omega
    refine wpc_exit ?_
    refine ex_then_exit ?_
    refine ex_then_exit ?_
    refine ex_block_hit ?_
    refine ex_then <| wpc_seq <| wpc_region <| wpl_q (q_pure rfl) rfl ?_
    refine wpl_t (t_pur Tryd.hb85 rfl fun w h => shortW _ _ w zz17 (glob h hG)) rfl (fun b17 => ?_)
    refine wpl_t0 (t_stA Tryd.ti41 rfl rfl zz0 (v8s_one _) zz0) (fun _ => ?_)
    refine wpl_nil <| ex_then <| wpc_ret ?_
    refine retv1 (.inl rfl) rfl (rv_agg Tryd.underlying41 rfl Tryd.ti41 rfl (fun w h => h.atB) zz0) ?_
    exact fun w h => ⟨rfl, h.below⟩
theorem public1 (i : Nat) (b : Nat) (xs : List UInt8) (w : World) (hxs : xs.length = 16) (hb : CellsAt w.cell? ⟨b, 0, none⟩ (v8s xs)) (hG : Glb w) :
    Calls Tryd.prog 82 [.int .i64 ((i : Nat) : Int), .pointer (some ⟨b, 0, none⟩)].toArray w (Pur w (.agg (v8s (chainF xs i 15)).toArray)) := by
  refine enter (m := 9) (R := Mem w [] [] []) Tryd.func82 rfl rfl (Nat.le_of_ble_eq_true rfl) (Mem.start w) ?_
  refine wpc_seq <| wpc_region ?_
  refine wpl_t (t_alloc Tryd.ti41 (v8s (List.replicate 16 0)) (by rfl)) rfl (fun b3 => ?_)
  refine wpl_nil <| ex_then <| wpc_seq <| wpc_region ?_
  refine wpl_q (q_loadN Tryd.underlying41 rfl Tryd.ti41 rfl (fun w h => h.at_old hb) zz0) rfl ?_
  refine wpl_q (q_pure rfl) rfl ?_
  refine wpl_t (t_pur Tryd.hb84 rfl fun w h => begin_ _ _ w zz11 (glob h hG)) rfl (fun b6 => ?_)
  refine wpl_q (q_pure rfl) rfl ?_
  refine wpl_t (t_pur Tryd.hb83 rfl fun w h => climb _ _ 0 15 w zz11 (glob h hG) zz14 zz14) rfl (fun b8 => ?_)
  refine wpl_t0 (t_stA Tryd.ti41 rfl rfl zz0 (v8s_one _) zz0) (fun _ => ?_)
  refine wpl_nil <| ex_then <| wpc_ret ?_
  refine retv1 (.inl rfl) rfl (rv_agg Tryd.underlying41 rfl Tryd.ti41 rfl (fun w h => h.atB) zz0) ?_
  exact fun w h => ⟨rfl, h.below⟩
theorem public_ (xs : List UInt8) (w : World) (hxs : xs.length = 16) (hG : Glb w) :
    Calls Tryd.prog 56 [.agg (v8s xs).toArray].toArray w (Pur w (.agg (v8s (publicF xs)).toArray)) := by
  refine enter (m := 5) (R := Mem w [] [] []) Tryd.func56 rfl rfl (Nat.le_of_ble_eq_true rfl) (Mem.start w) ?_
  refine wpc_seq <| wpc_region ?_
  refine wpl_t (t_box rfl (v8s xs) rfl) rfl (fun b1 => ?_)
  refine wpl_t (t_alloc Tryd.ti41 (v8s (List.replicate 16 0)) (by rfl)) rfl (fun b2 => ?_)
  refine wpl_nil <| ex_then <| wpc_seq <| wpc_region ?_
  refine wpl_q (q_fn (us := []) (vs := [_]) rfl rfl) rfl ?_
  refine wpl_t (t_pur Tryd.hb81 rfl fun w h => ends 82 _ (fun i => chainF xs i 15) w (glob h hG) Tryd.hb82 (fun _ _ => chainF_length _ _ _) fun i w1 _ h1 => public1 i b1 xs w1 hxs (h1.at_old h.atB) (glob h1 (glob h hG))) rfl (fun b4 => ?_)
  refine wpl_t0 (t_stA Tryd.ti41 rfl rfl zz0 (v8s_one _) zz0) (fun _ => ?_)
  refine wpl_nil <| ex_then <| wpc_ret ?_
  refine retv1 (.inl rfl) rfl (rv_agg Tryd.underlying41 rfl Tryd.ti41 rfl (fun w h => h.atB) zz0) ?_
  exact fun w h => ⟨rfl, h.below⟩
theorem sign1 (xs : List UInt8) (bv : Value) (bs : List UInt8) (w : World) (hxs : xs.length = 16) (hbv : Seen w.cell? bv bs.length 1 (v8s bs)) (hG : Glb w) :
    Calls Tryd.prog 61 [.agg (v8s xs).toArray, bv].toArray w (GivesP w (fun v => SV v 35) (fun v : Value => v) (fun v => [.row v 35 41 16 (v8s (signF xs bs).flatten)]) (fun _ => [])) := by
  have sbv := hbv.sv
  have lbv := sbv.le
  simp only [maxLen] at lbv
  refine enter (m := 27) (R := Mem w [] [] []) Tryd.func61 rfl rfl (Nat.le_of_ble_eq_true rfl) (Mem.start w) ?_
  refine wpc_seq <| wpc_region ?_
  refine wpl_t (t_box rfl (v8s xs) rfl) rfl (fun b2 => ?_)
  refine wpl_q (q_pure rfl) rfl <| wpl_nil <| ex_then <| wpc_seq <| wpc_region <| wpl_q (q_pure rfl) rfl <| wpl_nil <| ex_then <| wpc_seq <| wpc_seq <| wpc_region <| wpl_q (q_pure rfl) rfl ?_
  refine wpl_tp (t_callP1 Tryd.hb86 rfl fun w h => digits _ _ w zz17 (glob h hG)) rfl (fun b9 p9 => ?_)
  refine wpl_q (q_lenW Tryd.underlying146 rfl zz3) rfl ?_
  refine wpl_q (q_pure rfl) rfl <| wpl_nil <| ex_then <| wpc_block ?_
  refine wpc_loopc (ι := { x : Nat × Value // (x.1 ≤ 35) ∧ (SV x.2 x.1) }) [(2, _), (9, _), (10, _)] (fun x Lc => (11, .int .i64 ((x.1.1 : Nat) : Int)) :: (5, x.1.2) :: Lc) (fun x => Mem w [] [.row x.1.2 x.1.1 41 16 (v8s (sg xs bs x.1.1).flatten), .row b9 35 3 1 (vns (digsF (shortF bs))), .blk b2 41 (v8s xs)] []) (fun x => 35 - x.1.1) ⟨(0, .slice none 0 0), ⟨Nat.zero_le _, SV.nil⟩⟩ zz9 ?_ ?_
  ·
   exact fun w h => h.nilRow 41 16
  ·
   rintro ⟨⟨i, v⟩, ⟨hi0, hi1⟩⟩; try dsimp only
   have hi0 : i ≤ 35 := hi0; have hi1 : SV v i := hi1
   have hdl := digsF_length (shortF bs)
   have hdg : (digsF (shortF bs)).getD i 0 ≤ 15 := dig_le bs i
   refine wpc_seq <| wpc_region <| wpl_q (q_pure rfl) rfl <| wpl_nil <| ex_then <| wpc_seq ?_
   refine wpc_cond rfl (fun hc12 => ?_) (fun hc12 => ?_)
   ·
    try simp only [decide_eq_true_eq, decide_eq_false_iff_not, Bool.and_eq_true, Bool.or_eq_true, beq_iff_eq, bne_iff_ne, ne_eq, Bool.not_eq_true', Bool.not_eq_false', Decidable.not_not] at hc12
    refine wpc_skip <| ex_then <| wpc_seq <| wpc_block <| wpc_seq <| wpc_region <| wpl_q (q_pure rfl) rfl ?_
    refine wpl_q (q_idxW1 Tryd.underlying146 Tryd.ti3 rfl rfl zz3 zz1) rfl ?_
    refine wpl_q (q_ldW Tryd.underlying3 rfl rfl (fun w h => zz13) zz26) rfl ?_
    refine wpl_q (q_pure rfl) rfl <| wpl_q (q_pure rfl) rfl <| wpl_nil <| ex_then <| wpc_region <| wpl_q (q_pure rfl) rfl ?_
    refine wpl_q (q_ldN Tryd.underlying41 rfl Tryd.ti41 rfl zz0) rfl ?_
    refine wpl_q (q_pure rfl) rfl ?_
    refine wpl_t (t_pur Tryd.hb84 rfl fun w h => begin_ _ _ w zz11 (glob h hG)) rfl (fun b19 => ?_)
    refine wpl_q (q_pure rfl) rfl <| wpl_q (q_pure rfl) rfl ?_
    refine wpl_t (t_pur Tryd.hb83 rfl fun w h => climb _ _ 0 _ w zz11 (glob h hG) zz14 zz14) rfl (fun b22 => ?_)
    refine wpl_tp (t_bsS [_] Tryd.underlying28 Tryd.ti41 rfl zz20 rfl zz20 zz20 rfl (all_one zz11)) rfl (fun b23 p23 => ?_)
    refine wpl_tp (t_apW Tryd.underlying28 Tryd.ti41 rfl zz20 rfl rfl (fun w h => zz13) (by first | exact v8s_one _ | exact v32s_one _ | exact v64s_one _ | exact vis_one _ | exact vns_one _ | exact v16s_one _ | (intro u hu; simp at hu; rcases hu with h | h <;> subst h <;> rfl) | (intro u hu; simp only [List.mem_cons, List.not_mem_nil, or_false] at hu; subst hu; exact SV.one (by assumption)) | (intro u hu; simp only [List.mem_cons, List.not_mem_nil, or_false] at hu; rcases hu with rfl <;> exact SV.one zz32) | (intro u hu; simp only [List.mem_cons, List.not_mem_nil, or_false] at hu; rcases hu with rfl | rfl <;> exact SV.one zz32) | (intro u hu; simp only [List.mem_cons, List.not_mem_nil, or_false] at hu; rcases hu with rfl | rfl | rfl <;> exact SV.one zz32) | (intro u hu; simp only [List.mem_cons, List.not_mem_nil, or_false] at hu; rcases hu with rfl | rfl | rfl | rfl <;> exact SV.one zz32) | (simp [Value.oneCell']; done)) zz1 zz1 _ zz16) rfl (fun b24 p24 => ?_)
    refine wpl_q (q_pure rfl) rfl <| wpl_nil <| ex_block <| ex_then <| wpc_region ?_
    refine wpl_q (q_addN (b := 1) rfl rfl zz1) rfl ?_
    refine wpl_q (q_pure rfl) rfl <| wpl_nil ?_
    refine ex_again ⟨(i + 1, b24), ⟨zz14, p24⟩⟩ ?_ ?_ ?_
    ·
     exact zz9
    ·
     exact fun w h => by
       dsimp only
       rw [sg_succ, List.flatten_append]
       first | exact h.sub SubC.h SubC.h | exact h.sub zz8 zz8
    ·
     (show 35 - (i + 1) < 35 - i); omega
   ·
    simp only [decide_eq_false_iff_not] at hc12
    obtain rfl : i = 35 := by omega
    refine wpc_exit ?_
    refine ex_then_exit ?_
    refine ex_then_exit ?_
    refine ex_block_hit ?_
    refine ex_then <| wpc_seq <| wpc_region <| wpl_q (q_pure rfl) rfl <| wpl_q (q_pure rfl) rfl <| wpl_nil <| ex_then <| wpc_ret ?_
    refine ret1 (.inl rfl) rfl rfl ?_
    exact fun w h => ⟨v, hi1, rfl, h.below, h.made (.keep .nil) .nil⟩
theorem recover1 (i : Nat) (b1 b2 : Nat) (cv dv : Value) (chs : List (List UInt8)) (bs : List UInt8) (w : World) (hb1 : w.cell? ⟨b1, 0, none⟩ = some cv) (hb2 : w.cell? ⟨b2, 0, none⟩ = some dv) (hcv : Seen w.cell? cv chs.length 16 (v8s chs.flatten)) (hlc : ∀ x ∈ chs, x.length = 16) (hdv : Seen w.cell? dv 35 1 (vns (digsF (shortF bs)))) (hi : i < 35) (hcl : chs.length = 35) (hG : Glb w) :
    Calls Tryd.prog 91 [.int .i64 ((i : Nat) : Int), .pointer (some ⟨b1, 0, none⟩), .pointer (some ⟨b2, 0, none⟩)].toArray w (Pur w (.agg (v8s (recE bs chs i)).toArray)) := by
  have scv := hcv.sv
  have sdv := hdv.sv
  have hdl := digsF_length (shortF bs)
  have hdg : (digsF (shortF bs)).getD i 0 ≤ 15 := dig_le bs i
  have hgl := getD_mem_len hlc (i := i) zz14
  refine enter (m := 15) (R := Mem w [] [] []) Tryd.func91 rfl rfl (Nat.le_of_ble_eq_true rfl) (Mem.start w) ?_
  refine wpc_seq <| wpc_region ?_
  refine wpl_t (t_alloc Tryd.ti41 (v8s (List.replicate 16 0)) (by rfl)) rfl (fun b4 => ?_)
  refine wpl_nil <| ex_then <| wpc_seq ?_
  refine wpc_draw 10 zz7 (fun _ h => h.drew) ?_
  refine wpd_q 0 rfl zz7 trivial (q_load1 Tryd.underlying28 rfl rfl (fun w h => h.cell_old hb1)) rfl (fun _ h => h) ?_
  refine wpd_p 1 rfl zz7 trivial (q_pure rfl) rfl sk0 ?_
  refine wpd_p 2 rfl zz7 trivial (q_idxW Tryd.underlying28 Tryd.ti41 rfl rfl zz3 zz1) rfl sk0 ?_
  refine wpd_q 3 rfl zz7 trivial (q_ldWN Tryd.underlying41 rfl Tryd.ti41 rfl (fun w h => zz13) (v8s (chs.getD i [])) (part8 hlc zz14) ((v8s_length _).trans (getD_mem_len hlc zz14))) rfl (fun _ h => h) ?_
  refine wpd_p 4 rfl zz7 trivial (q_pure rfl) rfl sk0 ?_
  refine wpd_q 5 rfl zz7 trivial (q_load1 Tryd.underlying146 rfl rfl (fun w h => h.cell_old hb2)) rfl (fun _ h => h) ?_
  refine wpd_p 6 rfl zz7 trivial (q_pure rfl) rfl sk0 ?_
  refine wpd_p 7 rfl zz7 trivial (q_idxW1 Tryd.underlying146 Tryd.ti3 rfl rfl zz3 zz1) rfl sk0 ?_
  refine wpd_q 8 rfl zz7 trivial (q_ldW Tryd.underlying3 rfl rfl (fun w h => zz13) zz26) rfl (fun _ h => h) ?_
  refine wpd_t 9 rfl zz7 trivial (t_pur Tryd.hb83 rfl fun w h => climb _ _ _ 15 w zz11 (glob h hG) zz14 zz14) rfl (fun _ => sk0) (fun b14 => ?_)
  refine wpd_t0 10 rfl zz7 trivial (t_stA Tryd.ti41 rfl rfl zz0 (v8s_one _) zz0) (fun _ => skk rfl) (fun _ => ?_)
  refine wpd_done zz7 ?_
  refine ex_then <| wpc_ret ?_
  refine retv1 (.inl rfl) rfl (rv_agg Tryd.underlying41 rfl Tryd.ti41 rfl (fun w h => h.atB) ((v8s_length _).trans (recE_length bs chs hlc i zz14))) ?_
  exact fun w h => ⟨rfl, h.below⟩
theorem recover (bv : Value) (bs : List UInt8) (cv : Value) (chs : List (List UInt8)) (w : World) (hbv : Seen w.cell? bv bs.length 1 (v8s bs)) (hcv : Seen w.cell? cv chs.length 16 (v8s chs.flatten)) (hlchs : ∀ x ∈ chs, x.length = 16) (hG : Glb w) :
    Calls Tryd.prog 71 [bv, cv].toArray w (Pur w (.tuple #[.agg (v8s (recF bs chs)).toArray, .int .i64 (recEr chs)])) := by
  have sbv := hbv.sv
  have lbv := sbv.le
  simp only [maxLen] at lbv
  have scv := hcv.sv
  have lcv := scv.le
  simp only [maxLen] at lcv
  refine enter (m := 15) (R := Mem w [] [] []) Tryd.func71 rfl rfl (Nat.le_of_ble_eq_true rfl) (Mem.start w) ?_
  refine wpc_seq <| wpc_region ?_
  refine wpl_t (t_box rfl [cv] scv.cells) rfl (fun b3 => ?_)
  refine wpl_t (t_alloc Tryd.ti41 (v8s (List.replicate 16 0)) (by rfl)) rfl (fun b4 => ?_)
  refine wpl_q (q_pure rfl) rfl <| wpl_nil <| ex_then <| wpc_seq <| wpc_seq <| wpc_region ?_
  refine wpl_q (q_load1 Tryd.underlying28 rfl rfl (fun w h => h.cell_blk zz4 rfl)) rfl ?_
  refine wpl_q (q_lenW Tryd.underlying28 rfl zz3) rfl ?_
  refine wpl_q (q_pure rfl) rfl <| wpl_nil <| ex_then ?_
  refine wpc_cond rfl (fun hc9 => ?_) (fun hc9 => ?_)
  ·
   simp only [bne_iff_ne, ne_eq, decide_eq_true_eq] at hc9
   have hne : chs.length ≠ 35 := by omega
   have hr : recF bs chs = List.replicate 16 0 := if_neg hne
   have he : recEr chs = 12 := if_neg hne
   refine wpc_seq <| wpc_region ?_
   refine wpl_q (q_build (cs := (v8s (List.replicate 16 0))) rfl (built_array Tryd.underlying41 Tryd.ti41 Tryd.ti5 rfl)) rfl ?_
   refine wpl_t0 (t_stA Tryd.ti41 rfl rfl zz0 (v8s_one _) zz0) (fun _ => ?_)
   refine wpl_q (q_pure rfl) rfl <| wpl_nil <| ex_then <| wpc_ret ?_
   refine ex_then_ret ?_
   refine retv2 (.inl rfl) rfl (rv_agg Tryd.underlying41 rfl Tryd.ti41 rfl (fun w h => h.atB) zz0) (rv_tmp rfl) ?_
   exact fun w h => ⟨by rw [hr, he], h.below⟩
  ·
   simp only [bne_eq_false_iff_eq, decide_eq_false_iff_not, ne_eq, Decidable.not_not] at hc9
   have heq : chs.length = 35 := by omega
   have hr : recF bs chs = shortF (accF (recE bs chs) 35) := if_pos heq
   have he : recEr chs = 0 := if_pos heq
   refine wpc_skip <| ex_then <| wpc_seq <| wpc_region <| wpl_q (q_pure rfl) rfl ?_
   refine wpl_tp (t_callP1 Tryd.hb86 rfl fun w h => digits _ _ w zz17 (glob h hG)) rfl (fun b12 p12 => ?_)
   refine wpl_t (t_alloc Tryd.ti146 [.slice none 0 0] rfl) rfl (fun b6 => ?_)
   refine wpl_t0 (t_st1 Tryd.ti146 rfl rfl (SV.one zz3) zz6 _ rfl) (fun _ => ?_)
   refine wpl_nil <| ex_then <| wpc_seq <| wpc_region ?_
   refine wpl_q (q_fn (us := []) (vs := [_, _]) rfl rfl) rfl ?_
   refine wpl_t (t_pur Tryd.hb81 rfl fun w h => ends 91 _ (recE bs chs) w (glob h hG) Tryd.hb91 (fun i hi => recE_length bs chs hlchs i zz14) fun i w1 hi h1 => recover1 i b3 b6 cv b12 chs bs w1 (h1.cell_old (h.cell_blk zz4 rfl)) (h1.cell_old (h.cell_blk zz4 rfl)) (h1.seen_old (h.seen_old hcv)) hlchs (h1.seen_old h.seenV) hi heq (glob h1 (glob h hG))) rfl (fun b14 => ?_)
   refine wpl_t0 (t_stA Tryd.ti41 rfl rfl zz0 (v8s_one _) zz0) (fun _ => ?_)
   refine wpl_q (q_pure rfl) rfl <| wpl_nil <| ex_then <| wpc_ret ?_
   refine retv2 (.inl rfl) rfl (rv_agg Tryd.underlying41 rfl Tryd.ti41 rfl (fun w h => h.atB) zz0) (rv_tmp rfl) ?_
   exact fun w h => ⟨by rw [hr, he], h.below⟩
end Go.Proofs.YtgnablliekgbgaaDoor
namespace Go.Proofs.YtgnablliekgbgaaDoor
open Go Go.PL Go.RowKit
def joinedF (a b : List UInt8) : List UInt8 := shortF ([1] ++ a ++ b)
instance l16_short {s : List UInt8} : L16 (shortF s) := ⟨shortF_length s⟩
instance l16_rec {m : List UInt8} {c : List (List UInt8)} : L16 (recF m c) := ⟨recF_length m c⟩
instance l16_pub {s : List UInt8} : L16 (publicF s) := ⟨publicF_length s⟩
theorem joinedF_length (a b : List UInt8) : (joinedF a b).length = 16 := by rw [joinedF]; exact shortF_length _
instance l16_joined {a b : List UInt8} : L16 (joinedF a b) := ⟨joinedF_length a b⟩
def checkFMm (ht idx : Int) (nc np : Nat) : Int := if 0 ≤ ht ∧ ht ≤ 4 then (if 0 ≤ idx ∧ idx < ((2 ^ ht.toNat : Nat) : Int) ∧ nc = 35 ∧ (np : Int) = ht then 0 else 12) else 2
theorem check_2Mm {ht idx : Int} {nc np : Nat} (h : ¬ (0 ≤ ht ∧ ht ≤ 4)) : checkFMm ht idx nc np = 2 := if_neg h
theorem check_inMm {m : Nat} {idx : Int} {nc np : Nat} (h : (m : Int) ≤ 4) : checkFMm m idx nc np = if 0 ≤ idx ∧ idx < ((2 ^ m : Nat) : Int) ∧ nc = 35 ∧ np = m then 0 else 12 := by
  unfold checkFMm
  rw [if_pos ⟨Int.natCast_nonneg m, h⟩, Int.toNat_natCast]
  simp only [Int.ofNat_inj]
theorem check_12Mm {m : Nat} {idx : Int} {nc np : Nat} (h : (m : Int) ≤ 4) (hn : ¬ (0 ≤ idx ∧ idx < ((2 ^ m : Nat) : Int) ∧ nc = 35 ∧ np = m)) : checkFMm m idx nc np = 12 := (check_inMm h).trans (if_neg hn)
theorem check_0Mm {m : Nat} {idx : Int} {nc np : Nat} (h : (m : Int) ≤ 4) (hn : 0 ≤ idx ∧ idx < ((2 ^ m : Nat) : Int) ∧ nc = 35 ∧ np = m) : checkFMm m idx nc np = 0 := (check_inMm h).trans (if_pos hn)
theorem check_spec {ht idx : Int} {nc np : Nat} (h : checkFMm ht idx nc np = 0) : ∃ m k : Nat, ht = (m : Int) ∧ idx = (k : Int) ∧ m ≤ 4 ∧ k < 2 ^ m ∧ nc = 35 ∧ np = m := by
  unfold checkFMm at h
  split at h
  · rename_i h1
    split at h
    · rename_i h2
      exact ⟨ht.toNat, idx.toNat, zz14, zz14, zz14, zz14, h2.2.2.1, zz14⟩
    · cases h
  · cases h
def stepU (x : List UInt8) (j : Nat) (p : List UInt8) : List UInt8 := if j % 2 = 0 then joinedF x p else joinedF p x
theorem stepU_length (x : List UInt8) (j : Nat) (p : List UInt8) : (stepU x j p).length = 16 := by unfold stepU; split <;> exact joinedF_length _ _
def upF (x : List UInt8) (k : Nat) (ps : List (List UInt8)) : Nat → List UInt8
  | 0 => x
  | i + 1 => stepU (upF x k ps i) (k / 2 ^ i) (ps.getD i [])
theorem upF_length {x : List UInt8} (hx : x.length = 16) (k : Nat) (ps : List (List UInt8)) : ∀ i, (upF x k ps i).length = 16
  | 0 => hx
  | i + 1 => by rw [upF]; exact stepU_length _ _ _
theorem pow_le16Mm {m : Nat} (h : m ≤ 4) : 2 ^ m ≤ 16 := Nat.le_trans (Nat.pow_le_pow_right zz20 h) zz20
theorem goodMm (ht : Int) (w : World)   :
    Calls Tryd.prog 32 [.int .i64 ht].toArray w (Pur w (.bool (decide (0 ≤ ht ∧ ht ≤ 4)))) := by
  refine enter (m := 9) (R := Mem w [] [] []) Tryd.func32 rfl rfl (Nat.le_of_ble_eq_true rfl) (Mem.start w) ?_
  refine wpc_seq <| wpc_region <| wpl_q (q_pure rfl) rfl <| wpl_nil <| ex_then <| wpc_seq <| wpc_region <| wpl_q (q_pure rfl) rfl <| wpl_q (q_pure rfl) rfl <| wpl_q (q_pure rfl) rfl ?_
  refine wpl_bool2 5 4 rfl rfl (fun hb5 => ?_) (fun hb5 => ?_)
  ·
   try simp only [decide_eq_true_eq, decide_eq_false_iff_not, Bool.and_eq_true, Bool.or_eq_true, beq_iff_eq, bne_iff_ne, ne_eq, Bool.not_eq_true', Bool.not_eq_false', Decidable.not_not] at hb5
   refine wpl_on rfl rfl <| wpl_q (q_pure rfl) rfl <| wpl_on rfl rfl <| wpl_q (q_pure rfl) rfl <| wpl_q (q_pure rfl) rfl <| wpl_q (q_pure rfl) rfl <| wpl_nil <| ex_then <| wpc_ret ?_
   refine ret1 (.inl rfl) rfl rfl ?_
   exact fun w h => ⟨by simp; omega, h.below⟩
  ·
   try simp only [decide_eq_true_eq, decide_eq_false_iff_not, Bool.and_eq_true, Bool.or_eq_true, beq_iff_eq, bne_iff_ne, ne_eq, Bool.not_eq_true', Bool.not_eq_false', Decidable.not_not] at hb5
   refine wpl_off rfl rfl rfl rfl <| wpl_off rfl rfl rfl rfl <| wpl_q (q_pure rfl) rfl <| wpl_q (q_pure rfl) rfl <| wpl_nil <| ex_then <| wpc_ret ?_
   refine ret1 (.inl rfl) rfl rfl ?_
   exact fun w h => ⟨by simp; omega, h.below⟩
theorem joined7 (xs : List UInt8) (ys : List UInt8) (w : World) (hxs : xs.length = 16) (hys : ys.length = 16) (hG : Glb w) :
    Calls Tryd.prog 58 [.agg (v8s xs).toArray, .agg (v8s ys).toArray].toArray w (Pur w (.agg (v8s (joinedF xs ys)).toArray)) := by
  refine enter (m := 11) (R := Mem w [] [] []) Tryd.func58 rfl rfl (Nat.le_of_ble_eq_true rfl) (Mem.start w) ?_
  refine wpc_seq <| wpc_region ?_
  refine wpl_t (t_box rfl (v8s xs) rfl) rfl (fun b2 => ?_)
  refine wpl_t (t_box rfl (v8s ys) rfl) rfl (fun b3 => ?_)
  refine wpl_t (t_alloc Tryd.ti41 (v8s (List.replicate 16 0)) (by rfl)) rfl (fun b4 => ?_)
  refine wpl_nil <| ex_then <| wpc_seq ?_
  refine wpc_draw 2 zz7 (fun _ h => h.drew) ?_
  refine wpd_p 1 rfl zz7 trivial (q_arAll Tryd.underlying41 Tryd.ti5 rfl rfl) rfl sk0 ?_
  refine wpd_p 3 rfl zz7 trivial (q_arAll Tryd.underlying41 Tryd.ti5 rfl rfl) rfl sk0 ?_
  refine wpd_tp 0 rfl zz7 trivial (t_bsV (v8s [(1 : UInt8)]) Tryd.underlying34 Tryd.ti5 rfl rfl zz20 zz20 rfl (v8s_one _)) rfl (fun _ => (fun w h => .inr (h.sub SubC.h SubC.h))) (fun b5 p5 => ?_)
  refine wpd_tp 2 rfl zz7 trivial (t_apW Tryd.underlying34 Tryd.ti5 rfl zz20 rfl rfl (fun w h => zz15) (v8s_one _) zz1 zz1 _ zz16) rfl (fun _ => skk rfl) (fun b7 p7 => ?_)
  refine wpd_tp 4 rfl zz7 trivial (t_apW Tryd.underlying34 Tryd.ti5 rfl zz20 rfl rfl (fun w h => zz15) (v8s_one _) zz1 zz1 _ zz16) rfl (fun _ => skk rfl) (fun b9 p9 => ?_)
  refine wpd_t 5 rfl zz7 trivial (t_pur Tryd.hb85 rfl fun w h => shortW _ _ w zz12 (glob h hG)) rfl (fun _ => skk rfl) (fun b10 => ?_)
  refine wpd_t0 6 rfl zz7 trivial (t_stA Tryd.ti41 rfl rfl zz2 (v8s_one _) zz2) (fun _ => skk rfl) (fun _ => ?_)
  refine wpd_done zz7 ?_
  refine ex_then <| wpc_ret ?_
  refine retv1 (.inl rfl) rfl (rv_agg Tryd.underlying41 rfl Tryd.ti41 rfl (fun w h => h.atB) zz2) ?_
  exact fun w h => ⟨rfl, h.below⟩
theorem check7Mm (ht : Int) (cv pv : Value) (chs ps : List (List UInt8)) (idx : Int) (w : World) (hcv : Seen w.cell? cv chs.length 16 (v8s chs.flatten)) (hlchs : ∀ x ∈ chs, x.length = 16) (hpv : Seen w.cell? pv ps.length 16 (v8s ps.flatten)) (hlps : ∀ x ∈ ps, x.length = 16)  :
    Calls Tryd.prog 31 [.int .i64 ht, .agg #[.int .i64 idx, cv, pv]].toArray w (Pur w (.int .i64 (checkFMm ht idx chs.length ps.length))) := by
  have scv := hcv.sv
  have lcv := scv.le
  simp only [maxLen] at lcv
  have spv := hpv.sv
  have lpv := spv.le
  simp only [maxLen] at lpv
  refine enter (m := 31) (R := Mem w [] [] []) Tryd.func31 rfl rfl (Nat.le_of_ble_eq_true rfl) (Mem.start w) ?_
  refine wpc_seq <| wpc_region ?_
  refine wpl_t (t_box rfl [.int .i64 idx, cv, pv] rfl) rfl (fun b3 => ?_)
  refine wpl_q (q_pure rfl) rfl <| wpl_nil <| ex_then <| wpc_seq <| wpc_seq <| wpc_region <| wpl_q (q_pure rfl) rfl ?_
  refine wpl_t (t_pur Tryd.hb32 rfl fun w h => goodMm _ w) rfl (fun b6 => ?_)
  refine wpl_q (q_pure rfl) rfl <| wpl_nil <| ex_then ?_
  refine wpc_cond rfl (fun hc7 => ?_) (fun hc7 => ?_)
  ·
   try simp only [decide_eq_true_eq, decide_eq_false_iff_not, Bool.and_eq_true, Bool.or_eq_true, beq_iff_eq, bne_iff_ne, ne_eq, Bool.not_eq_true', Bool.not_eq_false', Decidable.not_not] at hc7
   refine wpc_seq <| wpc_region <| wpl_q (q_pure rfl) rfl <| wpl_nil <| ex_then <| wpc_ret ?_
   refine ex_then_ret ?_
   refine ret1 (.inl rfl) rfl rfl ?_
   exact fun w h => ⟨by rw [check_2Mm hc7], h.below⟩
  ·
   simp only [Bool.not_eq_false', decide_eq_true_eq] at hc7
   obtain ⟨m, rfl⟩ : ∃ m : Nat, ht = (m : Int) := ⟨ht.toNat, zz14⟩
   have hpw := pow_le16Mm (m := m) zz14
   refine wpc_skip <| ex_then <| wpc_seq <| wpc_seq ?_
   refine wpc_draw 23 zz7 (fun _ h => h.drew) ?_
   refine wpd_p 0 rfl zz7 trivial (q_field Tryd.underlying30 rfl Tryd.ti3 rfl rfl _ rfl) rfl sk0 ?_
   refine wpd_q 1 rfl zz7 trivial (q_ld Tryd.underlying3 rfl rfl zz26) rfl (fun _ h => h) ?_
   refine wpd_p 2 rfl zz7 trivial (q_pure rfl) rfl sk0 ?_
   refine wpd_p 3 rfl zz7 trivial (q_pure rfl) rfl sk0 ?_
   refine wpd_bool2 11 10 rfl rfl (fun hb11 => ?_) (fun hb11 => ?_)
   ·
    try simp only [decide_eq_true_eq, decide_eq_false_iff_not, Bool.and_eq_true, Bool.or_eq_true, beq_iff_eq, bne_iff_ne, ne_eq, Bool.not_eq_true', Bool.not_eq_false', Decidable.not_not] at hb11
    refine wpd_off 4 rfl zz7 ⟨_, _, rfl, rfl, rfl⟩ rfl sk0 ?_
    refine wpd_off 5 rfl zz7 ⟨_, _, rfl, rfl, rfl⟩ rfl sk0 ?_
    refine wpd_off 6 rfl zz7 ⟨_, _, rfl, rfl, rfl⟩ rfl sk0 ?_
    refine wpd_off 7 rfl zz7 ⟨_, _, rfl, rfl, rfl⟩ rfl sk0 ?_
    refine wpd_off 8 rfl zz7 ⟨_, _, rfl, rfl, rfl⟩ rfl sk0 ?_
    refine wpd_p 9 rfl zz7 trivial (q_pure rfl) rfl sk0 ?_
    refine wpd_p 10 rfl zz7 trivial (q_pure rfl) rfl sk0 ?_
    refine wpd_off 11 rfl zz7 ⟨_, _, rfl, rfl, rfl⟩ rfl sk0 ?_
    refine wpd_off 12 rfl zz7 ⟨_, _, rfl, rfl, rfl⟩ rfl sk0 ?_
    refine wpd_off 13 rfl zz7 ⟨_, _, rfl, rfl, rfl⟩ rfl sk0 ?_
    refine wpd_off 14 rfl zz7 ⟨_, _, rfl, rfl, rfl⟩ rfl sk0 ?_
    refine wpd_p 15 rfl zz7 trivial (q_pure rfl) rfl sk0 ?_
    refine wpd_p 16 rfl zz7 trivial (q_pure rfl) rfl sk0 ?_
    refine wpd_off 17 rfl zz7 ⟨_, _, rfl, rfl, rfl⟩ rfl sk0 ?_
    refine wpd_off 18 rfl zz7 ⟨_, _, rfl, rfl, rfl⟩ rfl sk0 ?_
    refine wpd_off 19 rfl zz7 ⟨_, _, rfl, rfl, rfl⟩ rfl sk0 ?_
    refine wpd_off 20 rfl zz7 ⟨_, _, rfl, rfl, rfl⟩ rfl sk0 ?_
    refine wpd_off 21 rfl zz7 ⟨_, _, rfl, rfl, rfl⟩ rfl sk0 ?_
    refine wpd_p 22 rfl zz7 trivial (q_pure rfl) rfl sk0 ?_
    refine wpd_done zz7 ?_
    refine ex_then ?_
    refine wpc_cond_t rfl ?_
    refine wpc_seq <| wpc_region <| wpl_q (q_pure rfl) rfl <| wpl_nil <| ex_then <| wpc_ret ?_
    refine ex_then_ret ?_
    refine ret1 (.inl rfl) rfl rfl ?_
    exact fun w h => ⟨by rw [check_12Mm zz14 zz35], h.below⟩
   ·
    try simp only [decide_eq_true_eq, decide_eq_false_iff_not, Bool.and_eq_true, Bool.or_eq_true, beq_iff_eq, bne_iff_ne, ne_eq, Bool.not_eq_true', Bool.not_eq_false', Decidable.not_not] at hb11
    refine wpd_p 4 rfl zz7 ⟨_, rfl, rfl⟩ (q_field Tryd.underlying30 rfl Tryd.ti3 rfl rfl _ rfl) rfl sk0 ?_
    refine wpd_q 5 rfl zz7 ⟨_, rfl, rfl⟩ (q_ld Tryd.underlying3 rfl rfl zz26) rfl (fun _ h => h) ?_
    refine wpd_p 6 rfl zz7 ⟨_, rfl, rfl⟩ (q_pure rfl) rfl sk0 ?_
    refine wpd_p 7 rfl zz7 ⟨_, rfl, rfl⟩ (q_shlN (a := 1) rfl rfl zz23 zz1) rfl sk0 ?_
    refine wpd_p 8 rfl zz7 ⟨_, rfl, rfl⟩ (q_pure rfl) rfl sk0 ?_
    refine wpd_p 9 rfl zz7 trivial (q_pure rfl) rfl sk0 ?_
    refine wpd_p 10 rfl zz7 trivial (q_pure rfl) rfl sk0 ?_
    refine wpd_bool2 18 16 rfl rfl (fun hb18 => ?_) (fun hb18 => ?_)
    ·
     try simp only [decide_eq_true_eq, decide_eq_false_iff_not, Bool.and_eq_true, Bool.or_eq_true, beq_iff_eq, bne_iff_ne, ne_eq, Bool.not_eq_true', Bool.not_eq_false', Decidable.not_not] at hb18
     refine wpd_off 11 rfl zz7 ⟨_, _, rfl, rfl, rfl⟩ rfl sk0 ?_
     refine wpd_off 12 rfl zz7 ⟨_, _, rfl, rfl, rfl⟩ rfl sk0 ?_
     refine wpd_off 13 rfl zz7 ⟨_, _, rfl, rfl, rfl⟩ rfl sk0 ?_
     refine wpd_off 14 rfl zz7 ⟨_, _, rfl, rfl, rfl⟩ rfl sk0 ?_
     refine wpd_p 15 rfl zz7 trivial (q_pure rfl) rfl sk0 ?_
     refine wpd_p 16 rfl zz7 trivial (q_pure rfl) rfl sk0 ?_
     refine wpd_off 17 rfl zz7 ⟨_, _, rfl, rfl, rfl⟩ rfl sk0 ?_
     refine wpd_off 18 rfl zz7 ⟨_, _, rfl, rfl, rfl⟩ rfl sk0 ?_
     refine wpd_off 19 rfl zz7 ⟨_, _, rfl, rfl, rfl⟩ rfl sk0 ?_
     refine wpd_off 20 rfl zz7 ⟨_, _, rfl, rfl, rfl⟩ rfl sk0 ?_
     refine wpd_off 21 rfl zz7 ⟨_, _, rfl, rfl, rfl⟩ rfl sk0 ?_
     refine wpd_p 22 rfl zz7 trivial (q_pure rfl) rfl sk0 ?_
     refine wpd_done zz7 ?_
     refine ex_then ?_
     refine wpc_cond_t rfl ?_
     refine wpc_seq <| wpc_region <| wpl_q (q_pure rfl) rfl <| wpl_nil <| ex_then <| wpc_ret ?_
     refine ex_then_ret ?_
     refine ret1 (.inl rfl) rfl rfl ?_
     exact fun w h => ⟨by rw [check_12Mm zz14 zz35], h.below⟩
    ·
     try simp only [decide_eq_true_eq, decide_eq_false_iff_not, Bool.and_eq_true, Bool.or_eq_true, beq_iff_eq, bne_iff_ne, ne_eq, Bool.not_eq_true', Bool.not_eq_false', Decidable.not_not] at hb18
     refine wpd_p 11 rfl zz7 ⟨_, rfl, rfl⟩ (q_field Tryd.underlying30 rfl Tryd.ti28 rfl rfl _ rfl) rfl sk0 ?_
     refine wpd_q 12 rfl zz7 ⟨_, rfl, rfl⟩ (q_ld Tryd.underlying28 rfl rfl rfl) rfl (fun _ h => h) ?_
     refine wpd_p 13 rfl zz7 ⟨_, rfl, rfl⟩ (q_lenW Tryd.underlying28 rfl zz3) rfl sk0 ?_
     refine wpd_p 14 rfl zz7 ⟨_, rfl, rfl⟩ (q_pure rfl) rfl sk0 ?_
     refine wpd_p 15 rfl zz7 trivial (q_pure rfl) rfl sk0 ?_
     refine wpd_p 16 rfl zz7 trivial (q_pure rfl) rfl sk0 ?_
     refine wpd_bool2 24 22 rfl rfl (fun hb24 => ?_) (fun hb24 => ?_)
     ·
      try simp only [decide_eq_true_eq, decide_eq_false_iff_not, Bool.and_eq_true, Bool.or_eq_true, beq_iff_eq, bne_iff_ne, ne_eq, Bool.not_eq_true', Bool.not_eq_false', Decidable.not_not] at hb24
      refine wpd_off 17 rfl zz7 ⟨_, _, rfl, rfl, rfl⟩ rfl sk0 ?_
      refine wpd_off 18 rfl zz7 ⟨_, _, rfl, rfl, rfl⟩ rfl sk0 ?_
      refine wpd_off 19 rfl zz7 ⟨_, _, rfl, rfl, rfl⟩ rfl sk0 ?_
      refine wpd_off 20 rfl zz7 ⟨_, _, rfl, rfl, rfl⟩ rfl sk0 ?_
      refine wpd_off 21 rfl zz7 ⟨_, _, rfl, rfl, rfl⟩ rfl sk0 ?_
      refine wpd_p 22 rfl zz7 trivial (q_pure rfl) rfl sk0 ?_
      refine wpd_done zz7 ?_
      refine ex_then ?_
      refine wpc_cond_t rfl ?_
      refine wpc_seq <| wpc_region <| wpl_q (q_pure rfl) rfl <| wpl_nil <| ex_then <| wpc_ret ?_
      refine ex_then_ret ?_
      refine ret1 (.inl rfl) rfl rfl ?_
      exact fun w h => ⟨by rw [check_12Mm zz14 zz35], h.below⟩
     ·
      try simp only [decide_eq_true_eq, decide_eq_false_iff_not, Bool.and_eq_true, Bool.or_eq_true, beq_iff_eq, bne_iff_ne, ne_eq, Bool.not_eq_true', Bool.not_eq_false', Decidable.not_not] at hb24
      refine wpd_p 17 rfl zz7 ⟨_, rfl, rfl⟩ (q_field Tryd.underlying30 rfl Tryd.ti28 rfl rfl _ rfl) rfl sk0 ?_
      refine wpd_q 18 rfl zz7 ⟨_, rfl, rfl⟩ (q_ld Tryd.underlying28 rfl rfl rfl) rfl (fun _ h => h) ?_
      refine wpd_p 19 rfl zz7 ⟨_, rfl, rfl⟩ (q_lenW Tryd.underlying28 rfl zz3) rfl sk0 ?_
      refine wpd_p 20 rfl zz7 ⟨_, rfl, rfl⟩ (q_pure rfl) rfl sk0 ?_
      refine wpd_p 21 rfl zz7 ⟨_, rfl, rfl⟩ (q_pure rfl) rfl sk0 ?_
      refine wpd_p 22 rfl zz7 trivial (q_pure rfl) rfl sk0 ?_
      refine wpd_done zz7 ?_
      refine ex_then ?_
      refine wpc_cond rfl (fun hc30 => ?_) (fun hc30 => ?_)
      ·
       try simp only [decide_eq_true_eq, decide_eq_false_iff_not, Bool.and_eq_true, Bool.or_eq_true, beq_iff_eq, bne_iff_ne, ne_eq, Bool.not_eq_true', Bool.not_eq_false', Decidable.not_not] at hc30
       refine wpc_seq <| wpc_region <| wpl_q (q_pure rfl) rfl <| wpl_nil <| ex_then <| wpc_ret ?_
       refine ex_then_ret ?_
       refine ret1 (.inl rfl) rfl rfl ?_
       exact fun w h => ⟨by rw [check_12Mm zz14 zz35], h.below⟩
      ·
       simp only [bne_eq_false_iff_eq, decide_eq_false_iff_not, ne_eq, Decidable.not_not] at hc30 hb24
       refine wpc_skip <| ex_then <| wpc_seq <| wpc_region <| wpl_q (q_pure rfl) rfl <| wpl_nil <| ex_then <| wpc_ret ?_
       refine ret1 (.inl rfl) rfl rfl ?_
       exact fun w h => ⟨by rw [check_0Mm zz14 zz14], h.below⟩
end Go.Proofs.YtgnablliekgbgaaDoor
namespace Go.Proofs.YtgnablliekgbgaaDoor
open Go Go.PL Go.RowKit
def rootF (ht idx : Int) (bs : List UInt8) (chs ps : List (List UInt8)) : List UInt8 := if checkFMm ht idx chs.length ps.length = 0 then upF (recF bs chs) idx.toNat ps ps.length else List.replicate 16 0
theorem rootF_length (ht idx : Int) (bs : List UInt8) (chs ps : List (List UInt8)) : (rootF ht idx bs chs ps).length = 16 := by
  unfold rootF; split
  · exact upF_length (recF_length _ _) _ _ _
  · exact List.length_replicate
theorem globL {w0 w : World} {Ln : List Nat} {M : List Ent} {S : List Fact} (h : Mem w0 Ln M S w) (hl : 0 ∉ Ln) (hG : Glb w0) : Glb w := ⟨h.at_oldL hG.1 hl, Nat.lt_of_lt_of_le hG.2 h.size⟩
theorem own_ne {w0 w : World} {M : List Ent} {S : List Fact} {b : Nat} {t : TypeId} {cs : List Value} (h : Mem w0 [] M S w) (hG : Glb w0) (hm : Ent.blk b t cs ∈ M) : b ≠ 0 := by
  have h1 := h.new _ hm b rfl
  have h2 := hG.2
  simp only [List.not_mem_nil, or_false] at h1
  omega
theorem key_height (rs : List UInt8) (ht : Int) (h : rs.length = 16) : (v8s rs ++ [Value.int .i64 ht])[16]? = some (.int .i64 ht) := by
  rw [List.getElem?_append_right (by rw [v8s_length]; omega), v8s_length, h]; rfl
theorem key_root (rs : List UInt8) (ht : Int) (h : rs.length = 16) : ((v8s rs ++ [Value.int .i64 ht]).drop 0).take 16 = v8s rs := by
  rw [List.drop_zero, List.take_left' (by rw [v8s_length]; exact h)]
theorem div_step (k i : Nat) : k / 2 ^ (i + 1) = k / 2 ^ i / 2 ^ 1 := by rw [Nat.pow_succ, Nat.div_div_eq_div_mul]
theorem followed7 (ys : List UInt8) (bi bn : Nat) (xs : List UInt8) (j : Nat) (w : World) (hys : ys.length = 16) (hi : w.heap[bi]? = some (.cells ([.int .i64 ((j : Nat) : Int)] : List Value).toArray 3 (0, 0))) (hn : w.heap[bn]? = some (.cells (v8s xs).toArray 41 (0, 0))) (hne : bi ≠ bn) (hxs : xs.length = 16) (hj : j ≤ 1000) (hi0 : bi ≠ 0) (hn0 : bn ≠ 0) (hG : Glb w) :
    Calls Tryd.prog 92 [.agg (v8s ys).toArray, .pointer (some ⟨bi, 0, none⟩), .pointer (some ⟨bn, 0, none⟩)].toArray w (GivesL w [bi, bn] (fun _ : Unit => .agg (v8s (stepU xs j ys)).toArray) fun _ => [.blk bi 3 [.int .i64 ((j / 2 ^ 1 : Nat) : Int)], .blk bn 41 (v8s (stepU xs j ys))]) := by
  have h0 : (0 : Nat) ∉ [bi, bn] := by simp; omega
  have hjl1 := joinedF_length xs ys
  have hjl2 := joinedF_length ys xs
  have hjl3 := stepU_length xs j ys
  refine enter (m := 17) (R := Mem w [bi, bn] [.blk bi 3 [.int .i64 ((j : Nat) : Int)], .blk bn 41 (v8s xs)] []) Tryd.func92 rfl rfl (Nat.le_of_ble_eq_true rfl) (Mem.start2 w hi hn hne) ?_
  refine wpc_seq <| wpc_region ?_
  refine wpl_t (t_box rfl (v8s ys) rfl) rfl (fun b3 => ?_)
  refine wpl_t (t_alloc Tryd.ti41 (v8s (List.replicate 16 0)) (by rfl)) rfl (fun b4 => ?_)
  refine wpl_nil <| ex_then <| wpc_seq <| wpc_seq <| wpc_region ?_
  refine wpl_q (q_ld Tryd.underlying3 rfl rfl zz26) rfl ?_
  refine wpl_q (q_andN (b := 1) rfl rfl zz1 zz1) rfl ?_
  refine wpl_q (q_pure rfl) rfl <| wpl_nil <| ex_then ?_
  refine wpc_cond rfl (fun hc7 => ?_) (fun hc7 => ?_)
  ·
   try simp only [decide_eq_true_eq, beq_iff_eq] at hc7
   have hst : stepU xs j ys = joinedF xs ys := if_pos (by have := Nat.and_one_is_mod j; omega)
   refine wpc_region ?_
   refine wpl_q (q_ldN Tryd.underlying41 rfl Tryd.ti41 rfl zz2) rfl ?_
   refine wpl_q (q_ldN Tryd.underlying41 rfl Tryd.ti41 rfl zz2) rfl ?_
   refine wpl_t (t_pur Tryd.hb58 rfl fun w h => joined7 _ _ w zz21 zz21 (globL h h0 hG)) rfl (fun b10 => ?_)
   refine wpl_t0 (t_stA Tryd.ti41 rfl rfl zz2 (v8s_one _) zz2) (fun _ => ?_)
   refine wpl_nil <| ex_then <| wpc_seq <| wpc_region ?_
   refine wpl_q (q_ld Tryd.underlying3 rfl rfl zz26) rfl ?_
   refine wpl_q (q_shrN (b := 1) rfl rfl zz23) rfl ?_
   refine wpl_t0 (t_st1 Tryd.ti3 rfl rfl rfl zz6 _ (by first | exact vns_set _ | rfl)) (fun _ => ?_)
   refine wpl_nil <| ex_then <| wpc_seq <| wpc_region ?_
   refine wpl_q (q_ldN Tryd.underlying41 rfl Tryd.ti41 rfl zz2) rfl ?_
   refine wpl_t0 (t_stA Tryd.ti41 rfl rfl zz2 (v8s_one _) zz2) (fun _ => ?_)
   refine wpl_nil <| ex_then <| wpc_ret ?_
   refine retv1 (.inl rfl) rfl (rv_agg Tryd.underlying41 rfl Tryd.ti41 rfl (fun w h => h.atB) zz2) ?_
   exact fun w h => by
     rw [hst]
     exact ⟨(), rfl, h.sub (.drop (.drop (Sub.refl _))) (Sub.refl _)⟩
  ·
   try simp only [decide_eq_false_iff_not, beq_eq_false_iff_ne, ne_eq] at hc7
   have hst : stepU xs j ys = joinedF ys xs := if_neg (by have := Nat.and_one_is_mod j; omega)
   refine wpc_region ?_
   refine wpl_q (q_ldN Tryd.underlying41 rfl Tryd.ti41 rfl zz2) rfl ?_
   refine wpl_q (q_ldN Tryd.underlying41 rfl Tryd.ti41 rfl zz2) rfl ?_
   refine wpl_t (t_pur Tryd.hb58 rfl fun w h => joined7 _ _ w zz21 zz21 (globL h h0 hG)) rfl (fun b13 => ?_)
   refine wpl_t0 (t_stA Tryd.ti41 rfl rfl zz2 (v8s_one _) zz2) (fun _ => ?_)
   refine wpl_nil <| ex_then <| wpc_seq <| wpc_region ?_
   refine wpl_q (q_ld Tryd.underlying3 rfl rfl zz26) rfl ?_
   refine wpl_q (q_shrN (b := 1) rfl rfl zz23) rfl ?_
   refine wpl_t0 (t_st1 Tryd.ti3 rfl rfl rfl zz6 _ (by first | exact vns_set _ | rfl)) (fun _ => ?_)
   refine wpl_nil <| ex_then <| wpc_seq <| wpc_region ?_
   refine wpl_q (q_ldN Tryd.underlying41 rfl Tryd.ti41 rfl zz2) rfl ?_
   refine wpl_t0 (t_stA Tryd.ti41 rfl rfl zz2 (v8s_one _) zz2) (fun _ => ?_)
   refine wpl_nil <| ex_then <| wpc_ret ?_
   refine retv1 (.inl rfl) rfl (rv_agg Tryd.underlying41 rfl Tryd.ti41 rfl (fun w h => h.atB) zz2) ?_
   exact fun w h => by
     rw [hst]
     exact ⟨(), rfl, h.sub (.drop (.drop (Sub.refl _))) (Sub.refl _)⟩
theorem follower7 (xs : List UInt8) (k : Nat) (w : World) (hxs : xs.length = 16)  :
    Calls Tryd.prog 72 [.agg (v8s xs).toArray, .int .i64 ((k : Nat) : Int)].toArray w (GivesP w (fun _ : Nat × Nat => True) (fun b : Nat × Nat => .func (.func 92) #[] #[.pointer (some ⟨b.1, 0, none⟩), .pointer (some ⟨b.2, 0, none⟩)]) (fun b => [.blk b.1 3 [.int .i64 ((k : Nat) : Int)], .blk b.2 41 (v8s xs)]) (fun _ => [])) := by
  refine enter (m := 6) (R := Mem w [] [] []) Tryd.func72 rfl rfl (Nat.le_of_ble_eq_true rfl) (Mem.start w) ?_
  refine wpc_seq <| wpc_region ?_
  refine wpl_t (t_box rfl (v8s xs) rfl) rfl (fun b2 => ?_)
  refine wpl_t (t_box rfl [.int .i64 ((k : Nat) : Int)] rfl) rfl (fun b3 => ?_)
  refine wpl_q (q_pure rfl) rfl <| wpl_nil <| ex_then <| wpc_seq <| wpc_region ?_
  refine wpl_q (q_fn (us := []) (vs := [_, _]) rfl rfl) rfl ?_
  refine wpl_q (q_pure rfl) rfl <| wpl_nil <| ex_then <| wpc_ret ?_
  refine ret1 (.inl rfl) rfl rfl ?_
  exact fun w h => ⟨(b3, b2), trivial, rfl, h.below, h.made (.keep (.keep .nil)) .nil⟩
theorem root7 (ht : Int) (bv : Value) (bs : List UInt8) (cv pv : Value) (chs ps : List (List UInt8)) (idx : Int) (w : World) (hbv : Seen w.cell? bv bs.length 1 (v8s bs)) (hcv : Seen w.cell? cv chs.length 16 (v8s chs.flatten)) (hlchs : ∀ x ∈ chs, x.length = 16) (hpv : Seen w.cell? pv ps.length 16 (v8s ps.flatten)) (hlps : ∀ x ∈ ps, x.length = 16) (hG : Glb w) :
    Calls Tryd.prog 44 [.int .i64 ht, bv, .agg #[.int .i64 idx, cv, pv]].toArray w (Pur w (.tuple #[.agg (v8s (rootF ht idx bs chs ps)).toArray, .int .i64 (checkFMm ht idx chs.length ps.length)])) := by
  have sbv := hbv.sv
  have lbv := sbv.le
  simp only [maxLen] at lbv
  have scv := hcv.sv
  have lcv := scv.le
  simp only [maxLen] at lcv
  have spv := hpv.sv
  have lpv := spv.le
  simp only [maxLen] at lpv
  refine enter (m := 45) (R := Mem w [] [] []) Tryd.func44 rfl rfl (Nat.le_of_ble_eq_true rfl) (Mem.start w) ?_
  refine wpc_seq <| wpc_region ?_
  refine wpl_t (t_box rfl [.int .i64 idx, cv, pv] rfl) rfl (fun b5 => ?_)
  refine wpl_t (t_alloc Tryd.ti41 (v8s (List.replicate 16 0)) (by rfl)) rfl (fun b6 => ?_)
  refine wpl_q (q_pure rfl) rfl <| wpl_nil <| ex_then <| wpc_seq <| wpc_seq <| wpc_region <| wpl_q (q_pure rfl) rfl ?_
  refine wpl_q (q_ldN Tryd.underlying30 rfl Tryd.ti30 rfl zz2) rfl ?_
  refine wpl_t (t_pur Tryd.hb31 rfl fun w h => check7Mm _ _ _ _ _ _ w zz12 zz27 zz12 zz27) rfl (fun b16 => ?_)
  refine wpl_q (q_pure rfl) rfl <| wpl_nil <| ex_then <| wpc_seq <| wpc_region <| wpl_q (q_pure rfl) rfl <| wpl_q (q_pure rfl) rfl <| wpl_nil <| ex_then ?_
  refine wpc_cond rfl (fun hc18 => ?_) (fun hc18 => ?_)
  ·
   simp only [bne_iff_ne, ne_eq, decide_eq_true_eq] at hc18
   have hr : rootF ht idx bs chs ps = List.replicate 16 0 := if_neg hc18
   refine wpc_seq <| wpc_region ?_
   refine wpl_q (q_build (cs := (v8s (List.replicate 16 0))) rfl (built_array Tryd.underlying41 Tryd.ti41 Tryd.ti5 rfl)) rfl ?_
   refine wpl_q (q_pure rfl) rfl ?_
   refine wpl_t0 (t_stA Tryd.ti41 rfl rfl zz2 (v8s_one _) zz2) (fun _ => ?_)
   refine wpl_q (q_pure rfl) rfl <| wpl_nil <| ex_then <| wpc_ret ?_
   refine ex_then_ret ?_
   refine retv2 (.inl rfl) rfl (rv_agg Tryd.underlying41 rfl Tryd.ti41 rfl (fun w h => h.atB) zz2) (rv_tmp rfl) ?_
   exact fun w h => ⟨by rw [hr], h.below⟩
  ·
   simp only [bne_eq_false_iff_eq, decide_eq_false_iff_not, ne_eq, Decidable.not_not] at hc18
   obtain ⟨m, k, rfl, rfl, hm, hk, hcl, hpl⟩ := check_spec hc18
   have hpw := pow_le16Mm hm
   have hr : rootF (m : Int) (k : Int) bs chs ps = upF (recF bs chs) k ps ps.length := if_pos hc18
   have he : recEr chs = 0 := if_pos hcl
   refine wpc_skip <| ex_then <| wpc_seq <| wpc_region <| wpl_q (q_pure rfl) rfl <| wpl_q (q_field Tryd.underlying30 rfl Tryd.ti28 rfl rfl _ rfl) rfl <| wpl_q (q_ld Tryd.underlying28 rfl rfl rfl) rfl ?_
   refine wpl_t (t_pur Tryd.hb71 rfl fun w h => recover _ _ _ _ w zz12 zz12 zz27 (glob h hG)) rfl (fun b25 => ?_)
   refine wpl_q (q_pure rfl) rfl <| wpl_q (q_pure rfl) rfl <| wpl_q (q_pure rfl) rfl ?_
   refine wpl_t (t_alloc Tryd.ti41 (v8s (List.replicate 16 0)) (by rfl)) rfl (fun b9 => ?_)
   refine wpl_t0 (t_stA Tryd.ti41 rfl rfl zz2 (v8s_one _) zz2) (fun _ => ?_)
   refine wpl_q (q_pure rfl) rfl <| wpl_nil <| ex_then <| wpc_seq <| wpc_region ?_
   refine wpl_q (q_ldN Tryd.underlying41 rfl Tryd.ti41 rfl zz2) rfl ?_
   refine wpl_q (q_field Tryd.underlying30 rfl Tryd.ti3 rfl rfl _ rfl) rfl ?_
   refine wpl_q (q_ld Tryd.underlying3 rfl rfl zz26) rfl ?_
   refine wpl_tp (t_callP2 Tryd.hb72 rfl fun w h => follower7 _ _ w zz21) rfl (fun b31 p31 => ?_)
   refine wpl_q (q_pure rfl) rfl <| wpl_nil <| ex_then <| wpc_seq <| wpc_seq <| wpc_region <| wpl_q (q_field Tryd.underlying30 rfl Tryd.ti28 rfl rfl _ rfl) rfl <| wpl_q (q_ld Tryd.underlying28 rfl rfl rfl) rfl ?_
   refine wpl_q (q_lenW Tryd.underlying28 rfl zz3) rfl ?_
   refine wpl_q (q_pure rfl) rfl <| wpl_nil <| ex_then <| wpc_block ?_
   refine wpc_loopc (ι := { x : Nat // (x ≤ ps.length) }) [(6, _), (9, _), (10, _), (11, _), (33, _), (34, _)] (fun x Lc => (35, .int .i64 ((x.1 : Nat) : Int)) :: Lc) (fun x => Mem w [] [.blk b31.1 3 [.int .i64 ((k / 2 ^ x.1 : Nat) : Int)], .blk b31.2 41 (v8s (upF (recF bs chs) k ps x.1)), .blk b9 41 (v8s (upF (recF bs chs) k ps x.1)), .blk b6 41 (v8s (List.replicate 16 0)), .blk b5 30 [.int .i64 ((k : Nat) : Int), cv, pv]] []) (fun x => ps.length - x.1) ⟨0, zz43⟩ zz9 ?_ ?_
   ·
    exact fun w h => by
      dsimp only
      rw [Nat.pow_zero, Nat.div_one, show upF (recF bs chs) k ps 0 = recF bs chs from rfl]
      first | exact h.sub SubC.h SubC.h | exact h.sub zz8 zz8
   ·
    rintro ⟨i, hi0⟩; try dsimp only
    have hi0 : i ≤ ps.length := hi0
    have hul := upF_length (recF_length bs chs) k ps i
    have hkl : k / 2 ^ i ≤ 1000 := Nat.le_trans (Nat.div_le_self _ _) zz14
    refine wpc_seq <| wpc_region <| wpl_q (q_pure rfl) rfl <| wpl_nil <| ex_then <| wpc_seq ?_
    refine wpc_cond rfl (fun hc36 => ?_) (fun hc36 => ?_)
    ·
     simp only [decide_eq_true_eq] at hc36
     have hgl := getD_mem_len hlps (i := i) zz14
     have hsl := stepU_length (upF (recF bs chs) k ps i) (k / 2 ^ i) (ps.getD i [])
     refine wpc_skip <| ex_then <| wpc_seq <| wpc_block <| wpc_seq <| wpc_region ?_
     refine wpl_q (q_idxW Tryd.underlying28 Tryd.ti41 rfl rfl zz3 zz1) rfl ?_
     refine wpl_q (q_ldWN Tryd.underlying41 rfl Tryd.ti41 rfl (fun w h => zz15) (v8s (ps.getD i [])) (part8 hlps zz14) ((v8s_length _).trans hgl)) rfl ?_
     refine wpl_t (t_alloc Tryd.ti41 (v8s (List.replicate 16 0)) (by rfl)) rfl (fun b13 => ?_)
     refine wpl_t0 (t_stA Tryd.ti41 rfl rfl zz2 (v8s_one _) zz2) (fun _ => ?_)
     refine wpl_nil <| ex_then <| wpc_region <| wpl_q (q_pure rfl) rfl ?_
     refine wpl_q (q_ldN Tryd.underlying41 rfl Tryd.ti41 rfl zz2) rfl ?_
     refine wpl_t (t_turnV2 b31.1 b31.2 [.int .i64 ((k / 2 ^ i / 2 ^ 1 : Nat) : Int)] (v8s (stepU (upF (recF bs chs) k ps i) (k / 2 ^ i) (ps.getD i []))) zz20 rfl Tryd.hb92 rfl fun w h h1 h2 hne => followed7 _ _ _ _ _ w hgl h1 h2 hne hul hkl (own_ne h hG zz4) (own_ne h hG zz4) (glob h hG)) rfl (fun b41 => ?_)
     refine wpl_t0 (t_stA Tryd.ti41 rfl rfl zz2 (v8s_one _) zz2) (fun _ => ?_)
     refine wpl_nil <| ex_block <| ex_then <| wpc_region ?_
     refine wpl_q (q_addN (b := 1) rfl rfl zz1) rfl ?_
     refine wpl_q (q_pure rfl) rfl <| wpl_nil ?_
     refine ex_again ⟨i + 1, zz43⟩ ?_ ?_ ?_
     ·
      exact zz9
     ·
      exact fun w h => by
        dsimp only
        rw [div_step, show upF (recF bs chs) k ps (i + 1) = stepU (upF (recF bs chs) k ps i) (k / 2 ^ i) (ps.getD i []) from rfl]
        first | exact h.sub SubC.h SubC.h | exact h.sub zz8 zz8
     ·
      (show ps.length - (i + 1) < ps.length - i); omega
    ·
     simp only [decide_eq_false_iff_not] at hc36
     obtain rfl : i = ps.length := by omega
     refine wpc_exit ?_
     refine ex_then_exit ?_
     refine ex_then_exit ?_
     refine ex_block_hit ?_
     refine ex_then <| wpc_seq <| wpc_region ?_
     refine wpl_q (q_ldN Tryd.underlying41 rfl Tryd.ti41 rfl zz2) rfl ?_
     refine wpl_q (q_pure rfl) rfl ?_
     refine wpl_t0 (t_stA Tryd.ti41 rfl rfl zz2 (v8s_one _) zz2) (fun _ => ?_)
     refine wpl_q (q_pure rfl) rfl <| wpl_nil <| ex_then <| wpc_ret ?_
     refine retv2 (.inl rfl) rfl (rv_agg Tryd.underlying41 rfl Tryd.ti41 rfl (fun w h => h.atB) zz2) (rv_tmp rfl) ?_
     exact fun w h => ⟨by rw [hr, hc18, he]; rfl, h.below⟩
theorem verify7 (rs : List UInt8) (ht : Int) (bv : Value) (bs : List UInt8) (cv pv : Value) (chs ps : List (List UInt8)) (idx : Int) (w : World) (hrs : rs.length = 16) (hbv : Seen w.cell? bv bs.length 1 (v8s bs)) (hcv : Seen w.cell? cv chs.length 16 (v8s chs.flatten)) (hlchs : ∀ x ∈ chs, x.length = 16) (hpv : Seen w.cell? pv ps.length 16 (v8s ps.flatten)) (hlps : ∀ x ∈ ps, x.length = 16) (hG : Glb w) :
    Calls Tryd.prog 22 [.agg (v8s rs ++ [Value.int .i64 ht]).toArray, bv, .agg #[.int .i64 idx, cv, pv]].toArray w (Pur w (.bool (decide (checkFMm ht idx chs.length ps.length = 0 ∧ rootF ht idx bs chs ps = rs)))) := by
  have sbv := hbv.sv
  have lbv := sbv.le
  simp only [maxLen] at lbv
  have scv := hcv.sv
  have lcv := scv.le
  simp only [maxLen] at lcv
  have spv := hpv.sv
  have lpv := spv.le
  simp only [maxLen] at lpv
  have hrl := rootF_length ht idx bs chs ps
  refine enter (m := 25) (R := Mem w [] [] []) Tryd.func22 rfl rfl (Nat.le_of_ble_eq_true rfl) (Mem.start w) ?_
  refine wpc_seq <| wpc_region ?_
  refine wpl_t (t_box rfl (v8s rs ++ [Value.int .i64 ht]) rfl) rfl (fun b3 => ?_)
  refine wpl_t (t_box rfl [.int .i64 idx, cv, pv] rfl) rfl (fun b5 => ?_)
  refine wpl_q (q_pure rfl) rfl <| wpl_nil <| ex_then <| wpc_seq <| wpc_region <| wpl_q (q_field Tryd.underlying43 rfl Tryd.ti3 rfl rfl _ rfl) rfl <| wpl_q (q_ld Tryd.underlying3 rfl rfl (key_height rs ht hrs)) rfl <| wpl_q (q_pure rfl) rfl ?_
  refine wpl_q (q_ldN Tryd.underlying30 rfl Tryd.ti30 rfl zz2) rfl ?_
  refine wpl_t (t_pur Tryd.hb44 rfl fun w h => root7 _ _ _ _ _ _ _ _ w zz12 zz12 zz27 zz12 zz27 (glob h hG)) rfl (fun b14 => ?_)
  refine wpl_q (q_pure rfl) rfl <| wpl_q (q_pure rfl) rfl <| wpl_q (q_pure rfl) rfl ?_
  refine wpl_t (t_alloc Tryd.ti41 (v8s (List.replicate 16 0)) (by rfl)) rfl (fun b7 => ?_)
  refine wpl_t0 (t_stA Tryd.ti41 rfl rfl zz2 (v8s_one _) zz2) (fun _ => ?_)
  refine wpl_q (q_pure rfl) rfl <| wpl_nil <| ex_then <| wpc_seq <| wpc_region <| wpl_q (q_pure rfl) rfl <| wpl_q (q_pure rfl) rfl <| wpl_q (q_pure rfl) rfl ?_
  refine wpl_bool2 19 18 rfl rfl (fun hb19 => ?_) (fun hb19 => ?_)
  ·
   try simp only [decide_eq_true_eq, decide_eq_false_iff_not, Bool.and_eq_true, Bool.or_eq_true, beq_iff_eq, bne_iff_ne, ne_eq, Bool.not_eq_true', Bool.not_eq_false', Decidable.not_not] at hb19
   refine wpl_on rfl rfl ?_
   refine wpl_q (q_ldN Tryd.underlying41 rfl Tryd.ti41 rfl zz2) rfl ?_
   refine wpl_on rfl rfl <| wpl_q (q_field Tryd.underlying43 rfl Tryd.ti41 rfl rfl _ rfl) rfl <| wpl_on rfl rfl <| wpl_q (q_ldP Tryd.underlying41 rfl Tryd.ti41 rfl (v8s rs) (key_root rs ht hrs) ((v8s_length _).trans hrs)) rfl <| wpl_on rfl rfl ?_
   refine wpl_q (q_eq8 eq8_41Mm zz7 rfl rfl (by first | (first | with_reducible assumption | exact L16.h) | simp) (by first | (first | with_reducible assumption | exact L16.h) | simp)) rfl ?_
   refine wpl_q (q_pure rfl) rfl <| wpl_q (q_pure rfl) rfl <| wpl_nil <| ex_then <| wpc_ret ?_
   refine ret1 (.inl rfl) rfl rfl ?_
   exact fun w h => ⟨by simp [hb19], h.below⟩
  ·
   simp only [beq_eq_false_iff_ne, ne_eq] at hb19
   refine wpl_off rfl rfl rfl rfl <| wpl_off rfl rfl rfl rfl <| wpl_off rfl rfl rfl rfl <| wpl_off rfl rfl rfl rfl <| wpl_q (q_pure rfl) rfl <| wpl_q (q_pure rfl) rfl <| wpl_nil <| ex_then <| wpc_ret ?_
   refine ret1 (.inl rfl) rfl rfl ?_
   exact fun w h => ⟨by simp [hb19], h.below⟩
end Go.Proofs.YtgnablliekgbgaaDoor
namespace Go.Proofs.YtgnablliekgbgaaDoor
open Go Go.PL Go.RowKit
def leafF (s : List UInt8) (i : Nat) : List UInt8 := shortF (s ++ [of8 (i : Int), 254, 0])
theorem leafF_length (s : List UInt8) (i : Nat) : (leafF s i).length = 16 := by rw [leafF]; exact shortF_length _
instance l16_leaf {s : List UInt8} {i : Nat} : L16 (leafF s i) := ⟨leafF_length s i⟩
end Go.Proofs.YtgnablliekgbgaaDoor
namespace Go.Proofs.YtgnablliekgbgaaDoor
open Go Go.PL Go.RowKit
theorem sig_oneMm {v1 v2 : Value} {n1 n2 : Nat} (h1 : SV v1 n1) (h2 : SV v2 n2) (idx : Int) : ∀ u ∈ [Value.int .i64 idx, v1, v2], u.oneCell' = true := by
  intro u hu
  simp only [List.mem_cons, List.not_mem_nil, or_false] at hu
  rcases hu with rfl | rfl | rfl
  · rfl
  · exact h1.one
  · exact h2.one
theorem key_len (rs : List UInt8) (ht : Int) (h : rs.length = 16) : (v8s rs ++ [Value.int .i64 ht]).length = 17 := by rw [List.length_append, v8s_length, h]; rfl
end Go.Proofs.YtgnablliekgbgaaDoor
namespace Go.Proofs.YtgnablliekgbgaaDoor
open Go Go.PL Go.RowKit
def nodeF (s : List UInt8) : Nat → Nat → List UInt8
  | 0, k => publicF (leafF s k)
  | l + 1, k => joinedF (nodeF s l (2 * k)) (nodeF s l (2 * k + 1))
theorem nodeF_length (s : List UInt8) : ∀ l k, (nodeF s l k).length = 16
  | 0, k => by rw [nodeF]; exact publicF_length _
  | l + 1, k => by rw [nodeF]; exact joinedF_length _ _
instance l16_node {s : List UInt8} {l k : Nat} : L16 (nodeF s l k) := ⟨nodeF_length s l k⟩
def lev (s : List UInt8) (l n : Nat) : List (List UInt8) := (List.range n).map (nodeF s l)
theorem lev_length (s : List UInt8) (l n : Nat) : (lev s l n).length = n := by simp [lev]
theorem lev_all (s : List UInt8) (l n : Nat) : ∀ x ∈ lev s l n, x.length = 16 := fun x hx => by
  obtain ⟨i, _, rfl⟩ := List.mem_map.1 hx; exact nodeF_length _ _ _
theorem lev_get (s : List UInt8) (l n i : Nat) (h : i < n) : (lev s l n).getD i [] = nodeF s l i := by
  rw [lev, List.getD_eq_getElem?_getD, List.getElem?_map, List.getElem?_eq_getElem (by simpa using h)]; simp
theorem lev_succ (s : List UInt8) (l n : Nat) : lev s l (n + 1) = lev s l n ++ [nodeF s l n] := by simp [lev, List.range_succ]
theorem lev_next (s : List UInt8) (l n i : Nat) (h : 2 * i + 1 < n) : lev s (l + 1) i ++ [joinedF ((lev s l n).getD (2 * i) []) ((lev s l n).getD (2 * i + 1) [])] = lev s (l + 1) (i + 1) := by
  rw [lev_succ, lev_get s l n _ zz14, lev_get s l n _ h]; rfl
theorem cells_pre {r : Rd} {a : Addr} {xs ys : List Value} (h : CellsAt r a (xs ++ ys)) : CellsAt r a xs := fun j u hj => h j u (by
  rw [List.getElem?_append_left (List.getElem?_eq_some_iff.1 hj).1]; exact hj)
structure LevelsOk (s : List UInt8) (m : Nat) (qs : List (Value × List (List UInt8))) (n : Nat) : Prop where
  len : qs.length = n
  rows : ∀ j q, qs[j]? = some q → q.2 = lev s j (2 ^ (m - j))
  sv : ∀ q ∈ qs, SV q.1 q.2.length
theorem LevelsOk.snoc {s : List UInt8} {m n : Nat} {qs : List (Value × List (List UInt8))} {v : Value} (h : LevelsOk s m qs n) (hv : SV v (2 ^ (m - n))) : LevelsOk s m (qs ++ [(v, lev s n (2 ^ (m - n)))]) (n + 1) := by
  refine ⟨by rw [List.length_append, h.len]; rfl, fun j q hj => ?_, fun q hq => ?_⟩
  · rw [List.getElem?_append] at hj
    split at hj
    · exact h.rows j q hj
    · rename_i hlt
      rw [h.len] at hj hlt
      have h1 : j - n = 0 := by
        have := (List.getElem?_eq_some_iff.1 hj).1
        simp at this; omega
      rw [h1] at hj
      obtain rfl : j = n := by omega
      simp at hj; subst hj; rfl
  · rcases List.mem_append.1 hq with hq | hq
    · exact h.sv q hq
    · rw [List.mem_singleton.1 hq]
      show SV v (lev s n (2 ^ (m - n))).length
      rw [lev_length]; exact hv
theorem LevelsOk.get {s : List UInt8} {m n : Nat} {qs : List (Value × List (List UInt8))} (h : LevelsOk s m qs n) {j : Nat} (hj : j < n) : ∃ v, (qs.map Prod.fst)[j]? = some v ∧ (v, lev s j (2 ^ (m - j))) ∈ qs ∧ SV v (2 ^ (m - j)) := by
  have hlt : j < qs.length := by rw [h.len]; exact hj
  have h1 := h.rows j _ (List.getElem?_eq_getElem hlt)
  have h2 := List.getElem_mem hlt
  refine ⟨qs[j].1, by rw [List.getElem?_map, List.getElem?_eq_getElem hlt]; rfl, ?_, ?_⟩
  · rw [← h1]; exact h2
  · have := h.sv _ h2
    rw [h1, lev_length] at this; exact this
theorem pow_half {m l : Nat} (h : l < m) : 2 ^ (m - l) = 2 * 2 ^ (m - (l + 1)) := by
  rw [show m - l = (m - (l + 1)) + 1 from zz14, Nat.pow_succ]; omega
theorem one_one {v : Value} (h : v.oneCell' = true) : ∀ u ∈ [v], u.oneCell' = true := fun u hu => by rw [List.mem_singleton.1 hu]; exact h
theorem levels_one {s : List UInt8} {m : Nat} {v : Value} (hv : SV v (2 ^ m)) : LevelsOk s m [(v, lev s 0 (2 ^ m))] 1 := by
  have := LevelsOk.snoc (s := s) (m := m) (n := 0) (qs := []) (v := v) ⟨rfl, fun j q h => by simp at h, fun q h => by cases h⟩ hv
  exact this
theorem levels_init {w0 w : World} {s : List UInt8} {m : Nat} {v b : Value} {M : List Ent} {t e : TypeId} (h : Mem w0 [] (.row b 1 t 1 [v] :: .row v (2 ^ m) e 16 (v8s (lev s 0 (2 ^ m)).flatten) :: M) [] w) :
    Mem w0 [] (.row b (0 + 1) t 1 ([(v, lev s 0 (2 ^ m))].map Prod.fst) :: M) [Go.PL.seen v (2 ^ (m - 0)) 16 (v8s (lev s 0 (2 ^ (m - 0))).flatten), rowsF 16 [(v, lev s 0 (2 ^ m))]] w := by
  refine (h.freezeRow (.there .here)).imp fun r hr t ht => ?_
  have h1 : Seen r v (2 ^ m) 16 (v8s (lev s 0 (2 ^ m)).flatten) := hr _ (List.mem_cons_self ..)
  rcases List.mem_cons.1 ht with rfl | ht
  · exact h1
  · rw [List.mem_singleton.1 ht]
    intro q hq
    rw [List.mem_singleton.1 hq]
    show Seen r v (lev s 0 (2 ^ m)).length 16 _
    rw [lev_length]; exact h1
theorem levels_next {w0 w : World} {s : List UInt8} {m l : Nat} {v vl b b2 : Value} {qs : List (Value × List (List UInt8))} {x : List Value} {M : List Ent} {t t2 e : TypeId} {N : Nat} {ws : List Value}
    (h : Mem w0 [] (.row b2 1 t2 1 x :: .row v (2 ^ (m - (l + 1))) e 16 (v8s (lev s (l + 1) (2 ^ (m - (l + 1)))).flatten) :: .row b (l + 1 + 1) t 1 (qs.map Prod.fst ++ [v]) :: M) [Go.PL.seen vl N 16 ws, rowsF 16 qs] w) :
    Mem w0 [] (.row b (l + 1 + 1) t 1 ((qs ++ [(v, lev s (l + 1) (2 ^ (m - (l + 1))))]).map Prod.fst) :: M) [Go.PL.seen v (2 ^ (m - (l + 1))) 16 (v8s (lev s (l + 1) (2 ^ (m - (l + 1)))).flatten), rowsF 16 (qs ++ [(v, lev s (l + 1) (2 ^ (m - (l + 1))))])] w := by
  rw [List.map_append]
  refine ((h.sub (.drop (Sub.refl _)) (Sub.refl _)).freezeRow .here).imp fun r hr t ht => ?_
  have h1 : Seen r v (2 ^ (m - (l + 1))) 16 (v8s (lev s (l + 1) (2 ^ (m - (l + 1)))).flatten) := hr _ (List.mem_cons_self ..)
  have h2 : ∀ q ∈ qs, Seen r q.1 q.2.length 16 (v8s q.2.flatten) := hr (rowsF 16 qs) zz41
  rcases List.mem_cons.1 ht with rfl | ht
  · exact h1
  · rw [List.mem_singleton.1 ht]
    intro q hq
    rcases List.mem_append.1 hq with hq | hq
    · exact h2 q hq
    · rw [List.mem_singleton.1 hq]
      show Seen r v (lev s (l + 1) (2 ^ (m - (l + 1)))).length 16 _
      rw [lev_length]; exact h1
theorem leaf7 (xs : List UInt8) (ht : Int) (i : Nat) (w : World) (hxs : xs.length = 16) (hG : Glb w) :
    Calls Tryd.prog 57 [.agg (v8s xs ++ [Value.int .i64 ht]).toArray, .int .i64 ((i : Nat) : Int)].toArray w (Pur w (.agg (v8s (leafF xs i)).toArray)) := by
  refine enter (m := 12) (R := Mem w [] [] []) Tryd.func57 rfl rfl (Nat.le_of_ble_eq_true rfl) (Mem.start w) ?_
  refine wpc_seq <| wpc_region ?_
  refine wpl_t (t_box rfl (v8s xs ++ [Value.int .i64 ht]) rfl) rfl (fun b2 => ?_)
  refine wpl_t (t_alloc Tryd.ti41 (v8s (List.replicate 16 0)) (by rfl)) rfl (fun b4 => ?_)
  refine wpl_nil <| ex_then <| wpc_seq <| wpc_region <| wpl_q (q_field Tryd.underlying75 rfl Tryd.ti41 rfl rfl _ rfl) rfl <| wpl_q (q_arAll Tryd.underlying41 Tryd.ti5 rfl rfl) rfl <| wpl_q (q_pure rfl) rfl <| wpl_q (q8_conv Tryd.underlying3 Tryd.underlying5 rfl) rfl ?_
  refine wpl_tp (t_bsV (v8s [_, (254 : UInt8), (0 : UInt8)]) Tryd.underlying34 Tryd.ti5 rfl rfl zz20 zz20 rfl (v8s_one _)) rfl (fun b9 p9 => ?_)
  refine wpl_tp (t_apF Tryd.underlying34 Tryd.ti5 rfl rfl rfl (fun w h => seen_whole (cells_pre h.atB) zz20 ((v8s_length _).trans hxs)) (fun w h => zz15) zz1 zz1 zz1 _ zz16) rfl (fun b10 p10 => ?_)
  refine wpl_t (t_pur Tryd.hb85 rfl fun w h => shortW _ _ w zz12 (glob h hG)) rfl (fun b11 => ?_)
  refine wpl_t0 (t_stA Tryd.ti41 rfl rfl zz2 (v8s_one _) zz2) (fun _ => ?_)
  refine wpl_nil <| ex_then <| wpc_ret ?_
  refine retv1 (.inl rfl) rfl (rv_agg Tryd.underlying41 rfl Tryd.ti41 rfl (fun w h => h.atB) zz2) ?_
  exact fun w h => ⟨rfl, h.below⟩
theorem levels7 (xs : List UInt8) (m : Nat) (w : World) (hxs : xs.length = 16) (hm : m ≤ 4) (hG : Glb w) :
    Calls Tryd.prog 33 [.agg (v8s xs ++ [Value.int .i64 ((m : Nat) : Int)]).toArray].toArray w (GivesP w (fun x : Value × List (Value × List (List UInt8)) => SV x.1 (m + 1) ∧ LevelsOk xs m x.2 (m + 1)) (fun x => x.1) (fun x => [.row x.1 (m + 1) 28 1 (x.2.map Prod.fst)]) (fun x => [rowsF 16 x.2])) := by
  have hpm := pow_le16Mm hm
  refine enter (m := 52) (R := Mem w [] [] []) Tryd.func33 rfl rfl (Nat.le_of_ble_eq_true rfl) (Mem.start w) ?_
  refine wpc_seq <| wpc_region ?_
  refine wpl_t (t_box rfl (v8s xs ++ [Value.int .i64 ((m : Nat) : Int)]) rfl) rfl (fun b1 => ?_)
  refine wpl_q (q_pure rfl) rfl <| wpl_nil <| ex_then <| wpc_seq <| wpc_region <| wpl_q (q_pure rfl) rfl <| wpl_nil <| ex_then <| wpc_seq <| wpc_seq <| wpc_region <| wpl_q (q_field Tryd.underlying75 rfl Tryd.ti3 rfl rfl _ rfl) rfl ?_
  refine wpl_q (q_ld Tryd.underlying3 rfl rfl (key_height xs m hxs)) rfl ?_
  refine wpl_q (q_shlN (a := 1) rfl rfl zz23 zz1) rfl ?_
  refine wpl_q (q_pure rfl) rfl <| wpl_nil <| ex_then <| wpc_block ?_
  refine wpc_loopc (ι := { x : Nat × Value // (x.1 ≤ 2 ^ m) ∧ (SV x.2 x.1) }) [(1, _), (10, _)] (fun x Lc => (11, .int .i64 ((x.1.1 : Nat) : Int)) :: (3, x.1.2) :: Lc) (fun x => Mem w [] [.row x.1.2 x.1.1 41 16 (v8s (lev xs 0 x.1.1).flatten), .blk b1 75 (v8s xs ++ [Value.int .i64 ((m : Nat) : Int)])] []) (fun x => 2 ^ m - x.1.1) ⟨(0, .slice none 0 0), ⟨Nat.zero_le _, SV.nil⟩⟩ zz9 ?_ ?_
  ·
   exact fun w h => h.nilRow 41 16
  ·
   rintro ⟨⟨i, v⟩, ⟨hi0, hi1⟩⟩; try dsimp only
   have hi0 : i ≤ 2 ^ m := hi0; have hi1 : SV v i := hi1
   refine wpc_seq <| wpc_region <| wpl_q (q_pure rfl) rfl <| wpl_nil <| ex_then <| wpc_seq ?_
   refine wpc_cond rfl (fun hc12 => ?_) (fun hc12 => ?_)
   ·
    simp only [decide_eq_true_eq] at hc12
    refine wpc_skip <| ex_then <| wpc_seq <| wpc_block <| wpc_seq <| wpc_region <| wpl_q (q_pure rfl) rfl <| wpl_q (q_pure rfl) rfl <| wpl_nil <| ex_then <| wpc_region <| wpl_q (q_pure rfl) rfl ?_
    refine wpl_q (q_ldN Tryd.underlying75 rfl Tryd.ti75 rfl (key_len xs m hxs)) rfl <| wpl_q (q_pure rfl) rfl ?_
    refine wpl_t (t_pur Tryd.hb57 rfl fun w h => leaf7 _ _ _ w zz21 (glob h hG)) rfl (fun b17 => ?_)
    refine wpl_t (t_pur Tryd.hb56 rfl fun w h => public_ _ w zz21 (glob h hG)) rfl (fun b18 => ?_)
    refine wpl_tp (t_bsS [_] Tryd.underlying28 Tryd.ti41 rfl zz20 rfl zz20 zz20 rfl (all_one zz21)) rfl (fun b19 p19 => ?_)
    refine wpl_tp (t_apW Tryd.underlying28 Tryd.ti41 rfl zz20 rfl rfl (fun w h => zz15) zz5 zz1 zz1 _ zz16) rfl (fun b20 p20 => ?_)
    refine wpl_q (q_pure rfl) rfl <| wpl_nil <| ex_block <| ex_then <| wpc_region ?_
    refine wpl_q (q_addN (b := 1) rfl rfl zz1) rfl ?_
    refine wpl_q (q_pure rfl) rfl <| wpl_nil ?_
    refine ex_again ⟨(i + 1, b20), ⟨zz14, p20⟩⟩ ?_ ?_ ?_
    ·
     exact zz9
    ·
     exact fun w h => by
       dsimp only
       rw [lev_succ, List.flatten_append]
       exact h.sub (.drop (Sub.refl _)) (Sub.refl _)
    ·
     (show 2 ^ m - (i + 1) < 2 ^ m - i); omega
   ·
    simp only [decide_eq_false_iff_not] at hc12
    obtain rfl : i = 2 ^ m := by omega
    refine wpc_exit ?_
    refine ex_then_exit ?_
    refine ex_then_exit ?_
    refine ex_block_hit ?_
    refine ex_then <| wpc_seq <| wpc_region <| wpl_q (q_pure rfl) rfl ?_
    refine wpl_tp (t_bsV [v] Tryd.underlying73 Tryd.ti28 rfl rfl zz20 zz20 rfl (one_one hi1.one)) rfl (fun b23 p23 => ?_)
    refine wpl_q (q_pure rfl) rfl <| wpl_nil <| ex_then <| wpc_seq <| wpc_block ?_
    refine wpc_loopc (ι := { x : Nat × Value × Value × List (Value × List (List UInt8)) // (x.1 ≤ m) ∧ (SV x.2.1 (2 ^ (m - x.1))) ∧ (SV x.2.2.1 (x.1 + 1)) ∧ (LevelsOk xs m x.2.2.2 (x.1 + 1)) }) [] (fun x Lc => (3, x.1.2.1) :: (5, x.1.2.2.1) :: Lc) (fun x => Mem w [] [.row x.1.2.2.1 (x.1.1 + 1) 28 1 (x.1.2.2.2.map Prod.fst), .blk b1 75 (v8s xs ++ [Value.int .i64 ((m : Nat) : Int)])] [Go.PL.seen x.1.2.1 (2 ^ (m - x.1.1)) 16 (v8s (lev xs x.1.1 (2 ^ (m - x.1.1))).flatten), rowsF 16 x.1.2.2.2]) (fun x => m - x.1.1) ⟨(0, v, b23, [(v, lev xs 0 (2 ^ m))]), ⟨Nat.zero_le _, hi1, p23, levels_one hi1⟩⟩ zz9 ?_ ?_
    ·
     exact fun w h => levels_init h
    ·
     rintro ⟨⟨l, vl, vt, qs⟩, ⟨hi0, hi1, hi2, hi3⟩⟩; try dsimp only
     have hi0 : l ≤ m := hi0; have hi1 : SV vl (2 ^ (m - l)) := hi1; have hi2 : SV vt (l + 1) := hi2; have hi3 : LevelsOk xs m qs (l + 1) := hi3
     refine wpc_seq <| wpc_seq <| wpc_region <| wpl_q (q_pure rfl) rfl ?_
     refine wpl_q (q_lenW Tryd.underlying28 rfl zz3) rfl ?_
     refine wpl_q (q_pure rfl) rfl <| wpl_nil <| ex_then ?_
     refine wpc_cond rfl (fun hc26 => ?_) (fun hc26 => ?_)
     ·
      simp only [decide_eq_true_eq] at hc26
      have hlm : l < m := by
        apply Classical.byContradiction
        intro hn
        have : m - l = 0 := by omega
        rw [this] at hc26
        omega
      have hpw := pow_half hlm
      have hpl : 2 ^ (m - l) ≤ 16 := pow_le16Mm zz14
      have hll := lev_length xs l (2 ^ (m - l))
      have hla := lev_all xs l (2 ^ (m - l))
      refine wpc_skip <| ex_then <| wpc_block <| wpc_seq <| wpc_region <| wpl_q (q_pure rfl) rfl <| wpl_nil <| ex_then <| wpc_seq <| wpc_seq <| wpc_region <| wpl_q (q_pure rfl) rfl ?_
      refine wpl_nil <| ex_then <| wpc_block ?_
      refine wpc_loopc (ι := { x : Nat × Nat × Value // (x.1 ≤ 2 ^ (m - (l + 1))) ∧ (x.2.1 = 2 * x.1) ∧ (SV x.2.2 x.1) }) [(3, _), (5, _)] (fun x Lc => (7, .int .i64 ((x.1.2.1 : Nat) : Int)) :: (6, x.1.2.2) :: Lc) (fun x => Mem w [] [.row x.1.2.2 x.1.1 41 16 (v8s (lev xs (l + 1) x.1.1).flatten), .row vt (l + 1) 28 1 (qs.map Prod.fst), .blk b1 75 (v8s xs ++ [Value.int .i64 ((m : Nat) : Int)])] [Go.PL.seen vl (2 ^ (m - l)) 16 (v8s (lev xs l (2 ^ (m - l))).flatten), rowsF 16 qs]) (fun x => 2 ^ (m - (l + 1)) - x.1.1) ⟨(0, 0, .slice none 0 0), ⟨Nat.zero_le _, rfl, SV.nil⟩⟩ zz9 ?_ ?_
      ·
       exact fun w h => h.nilRow 41 16
      ·
       rintro ⟨⟨i, j, v6⟩, ⟨hi0, hi1, hi2⟩⟩; try dsimp only
       have hi0 : i ≤ 2 ^ (m - (l + 1)) := hi0; have hi1 : j = 2 * i := hi1; have hi2 : SV v6 i := hi2
       refine wpc_seq <| wpc_seq <| wpc_region <| wpl_q (q_pure rfl) rfl <| wpl_q (q_pure rfl) rfl ?_
       refine wpl_q (q_lenW Tryd.underlying28 rfl zz3) rfl ?_
       refine wpl_q (q_pure rfl) rfl <| wpl_nil <| ex_then ?_
       refine wpc_cond rfl (fun hc30 => ?_) (fun hc30 => ?_)
       ·
        simp only [decide_eq_true_eq] at hc30
        have hg1 := getD_mem_len hla (i := j) zz14
        have hg2 := getD_mem_len hla (i := j + 1) zz14
        refine wpc_skip <| ex_then <| wpc_seq <| wpc_block ?_
        refine wpc_draw 12 zz7 (fun _ h => h.drew) ?_
        refine wpd_p 0 rfl zz7 trivial (q_pure rfl) rfl sk0 ?_
        refine wpd_p 1 rfl zz7 trivial (q_pure rfl) rfl sk0 ?_
        refine wpd_p 2 rfl zz7 trivial (q_pure rfl) rfl sk0 ?_
        refine wpd_p 3 rfl zz7 trivial (q_idxW Tryd.underlying28 Tryd.ti41 rfl rfl zz3 zz1) rfl sk0 ?_
        refine wpd_qB 4 [10, 11, 12] rfl zz7 trivial (q_ldWN Tryd.underlying41 rfl Tryd.ti41 rfl (fun w h => zz15) (v8s ((lev xs l (2 ^ (m - l))).getD j [])) (part8 hla zz14) ((v8s_length _).trans hg1)) rfl (fun _ h => h) ?_
        refine wpd_p 5 rfl zz7 trivial (q_pure rfl) rfl sk0 ?_
        refine wpd_p 6 rfl zz7 trivial (q_pure rfl) rfl sk0 ?_
        refine wpd_p 7 rfl zz7 trivial (q_addN (b := 1) rfl rfl zz1) rfl sk0 ?_
        refine wpd_p 8 rfl zz7 trivial (q_idxW Tryd.underlying28 Tryd.ti41 rfl rfl zz3 zz1) rfl sk0 ?_
        refine wpd_qB 9 [10, 11, 12] rfl zz7 trivial (q_ldWN Tryd.underlying41 rfl Tryd.ti41 rfl (fun w h => zz15) (v8s ((lev xs l (2 ^ (m - l))).getD (j + 1) [])) (part8 hla zz14) ((v8s_length _).trans hg2)) rfl (fun _ h => h) ?_
        refine wpd_t 10 rfl zz7 trivial (t_pur Tryd.hb58 rfl fun w h => joined7 _ _ w zz21 zz21 (glob h hG)) rfl (fun _ => sk0) (fun b43 => ?_)
        refine wpd_tp 11 rfl zz7 trivial (t_bsS [_] Tryd.underlying28 Tryd.ti41 rfl zz20 rfl zz20 zz20 rfl (all_one zz21)) rfl (fun _ => (fun w h => .inr (h.sub SubC.h SubC.h))) (fun b44 p44 => ?_)
        refine wpd_tp 12 rfl zz7 trivial (t_apW Tryd.underlying28 Tryd.ti41 rfl zz20 rfl rfl (fun w h => zz15) zz5 zz1 zz1 _ zz16) rfl (fun _ => skk rfl) (fun b45 p45 => ?_)
        refine wpd_p 13 rfl zz7 trivial (q_pure rfl) rfl (skk rfl) ?_
        refine wpd_done zz7 ?_
        refine ex_block <| ex_then <| wpc_region <| wpl_q (q_pure rfl) rfl ?_
        refine wpl_q (q_addN (b := 2) rfl rfl zz1) rfl ?_
        refine wpl_q (q_pure rfl) rfl <| wpl_nil ?_
        refine ex_again ⟨(i + 1, j + 2, b45), ⟨by dsimp only; omega, by dsimp only; omega, p45⟩⟩ ?_ ?_ ?_
        ·
         exact zz9
        ·
         exact fun w h => by
           dsimp only
           rw [← lev_next xs l (2 ^ (m - l)) i zz14, List.flatten_append]
           rw [hi1] at h
           first | exact h.sub SubC.h SubC.h | exact h.sub zz8 zz8
        ·
         (show 2 ^ (m - (l + 1)) - (i + 1) < 2 ^ (m - (l + 1)) - i); omega
       ·
        simp only [decide_eq_false_iff_not] at hc30
        obtain rfl : i = 2 ^ (m - (l + 1)) := by omega
        have hv6 := hi2
        refine wpc_exit ?_
        refine ex_then_exit ?_
        refine ex_then_exit ?_
        refine ex_block_hit ?_
        refine ex_then <| wpc_seq <| wpc_region <| wpl_q (q_pure rfl) rfl <| wpl_q (q_pure rfl) rfl <| wpl_nil <| ex_then <| wpc_region <| wpl_q (q_pure rfl) rfl <| wpl_q (q_pure rfl) rfl ?_
        refine wpl_tp (t_bsV [v6] Tryd.underlying73 Tryd.ti28 rfl rfl zz20 zz20 rfl (one_one hv6.one)) rfl (fun b49 p49 => ?_)
        refine wpl_tp (t_apW Tryd.underlying73 Tryd.ti28 rfl zz20 rfl rfl (fun w h => h.seenV) (one_one hv6.one) zz1 zz1 (qs.map Prod.fst ++ [v6]) rfl) rfl (fun b50 p50 => ?_)
        refine wpl_q (q_pure rfl) rfl <| wpl_nil <| ex_block ?_
        refine ex_again ⟨(l + 1, v6, b50, qs ++ [(v6, lev xs (l + 1) (2 ^ (m - (l + 1))))]), ⟨zz14, hv6, p50, hi3.snoc hv6⟩⟩ ?_ ?_ ?_
        ·
         exact zz9
        ·
         exact fun w h => levels_next h
        ·
         (show m - (l + 1) < m - l); omega
     ·
      simp only [decide_eq_false_iff_not] at hc26
      obtain rfl : l = m := by
        apply Classical.byContradiction
        intro hn
        have := pow_half (show l < m from zz14)
        have := Nat.two_pow_pos (m - (l + 1))
        omega
      refine wpc_exit ?_
      refine ex_then_exit ?_
      refine ex_then_exit ?_
      refine ex_block_hit ?_
      refine ex_then <| wpc_seq <| wpc_region <| wpl_q (q_pure rfl) rfl <| wpl_q (q_pure rfl) rfl <| wpl_nil <| ex_then <| wpc_ret ?_
      refine ret1 (.inl rfl) rfl rfl ?_
      exact fun w h => ⟨(vt, qs), ⟨hi2, hi3⟩, rfl, h.below, h.made (.keep .nil) (.drop (.keep .nil))⟩
end Go.Proofs.YtgnablliekgbgaaDoor
namespace Go.Proofs.YtgnablliekgbgaaDoor
open Go Go.PL Go.RowKit
theorem list16 {xs : List UInt8} (h : xs.length = 16) : ∃ a0 a1 a2 a3 a4 a5 a6 a7 a8 a9 a10 a11 a12 a13 a14 a15, xs = [a0, a1, a2, a3, a4, a5, a6, a7, a8, a9, a10, a11, a12, a13, a14, a15] := by
  iterate 16 (cases xs with | nil => simp at h | cons a xs => ?_)
  cases xs with
  | nil => exact ⟨_, _, _, _, _, _, _, _, _, _, _, _, _, _, _, _, rfl⟩
  | cons a xs => simp at h
theorem built_key (xs : List UInt8) (ht : Int) (h : xs.length = 16) : Tryd.prog.built 43 [(0, .agg (v8s xs).toArray), (1, .int .i64 ht)] = some (v8s xs ++ [Value.int .i64 ht]).toArray := by
  obtain ⟨a0, a1, a2, a3, a4, a5, a6, a7, a8, a9, a10, a11, a12, a13, a14, a15, rfl⟩ := list16 h
  kernel_rfl
theorem built_tree (xs : List UInt8) (ht : Int) (h : xs.length = 16) : Tryd.prog.built 75 [(0, .agg (v8s xs).toArray), (1, .int .i64 ht)] = some (v8s xs ++ [Value.int .i64 ht]).toArray := by
  obtain ⟨a0, a1, a2, a3, a4, a5, a6, a7, a8, a9, a10, a11, a12, a13, a14, a15, rfl⟩ := list16 h
  kernel_rfl
theorem built_key0 : Tryd.prog.built 43 [] = some (v8s (List.replicate 16 0) ++ [Value.int .i64 0]).toArray := by kernel_rfl
theorem built_sig0 : Tryd.prog.built 30 [] = some #[.int .i64 0, .slice none 0 0, .slice none 0 0] := by kernel_rfl
theorem built_sig2 {v1 : Value} {n1 : Nat} (h1 : SV v1 n1) (idx : Int) : Tryd.prog.built 30 [(0, .int .i64 idx), (1, v1)] = some #[.int .i64 idx, v1, .slice none 0 0] := by
  obtain ⟨a1, c1, rfl, _⟩ := h1
  kernel_rfl
theorem key_one (xs : List UInt8) (ht : Int) : ∀ u ∈ v8s xs ++ [Value.int .i64 ht], u.oneCell' = true := fun u hu => by
  rcases List.mem_append.1 hu with hu | hu
  · exact v8s_one _ u hu
  · rw [List.mem_singleton.1 hu]; rfl
def keyR (s : List UInt8) (ht : Int) : List UInt8 := if 0 ≤ ht ∧ ht ≤ 4 then nodeF s ht.toNat 0 else List.replicate 16 0
def keyH (ht : Int) : Int := if 0 ≤ ht ∧ ht ≤ 4 then ht else 0
def keyE (ht : Int) : Int := if 0 ≤ ht ∧ ht ≤ 4 then 0 else 2
theorem keyR_length (s : List UInt8) (ht : Int) : (keyR s ht).length = 16 := by
  unfold keyR; split
  · exact nodeF_length _ _ _
  · exact List.length_replicate
def okS (ht idx : Int) : Prop := (0 ≤ ht ∧ ht ≤ 4) ∧ 0 ≤ idx ∧ idx < ((2 ^ ht.toNat : Nat) : Int)
instance (ht idx : Int) : Decidable (okS ht idx) := by unfold okS; infer_instance
def pathF (s : List UInt8) (k m : Nat) : List (List UInt8) := (List.range m).map fun l => nodeF s l ((k / 2 ^ l) ^^^ 1)
theorem pathF_length (s : List UInt8) (k m : Nat) : (pathF s k m).length = m := by simp [pathF]
theorem pathF_all (s : List UInt8) (k m : Nat) : ∀ x ∈ pathF s k m, x.length = 16 := fun x hx => by
  obtain ⟨i, _, rfl⟩ := List.mem_map.1 hx; exact nodeF_length _ _ _
theorem pathF_succ (s : List UInt8) (k m : Nat) : pathF s k (m + 1) = pathF s k m ++ [nodeF s m ((k / 2 ^ m) ^^^ 1)] := by simp [pathF, List.range_succ]
theorem sib_lt {q m k : Nat} (h : q < 2 ^ m) (hk : k < m) : (q / 2 ^ k) ^^^ 1 < 2 ^ (m - k) := by
  refine Nat.xor_lt_two_pow ?_ ?_
  · rw [Nat.div_lt_iff_lt_mul (Nat.two_pow_pos k), ← Nat.pow_add, Nat.sub_add_cancel (Nat.le_of_lt hk)]; exact h
  · exact Nat.one_lt_two_pow zz14
def sigC (s : List UInt8) (ht idx : Int) (bs : List UInt8) : List (List UInt8) := if okS ht idx then signF (leafF s idx.toNat) bs else []
def sigP (s : List UInt8) (ht idx : Int) : List (List UInt8) := if okS ht idx then pathF s idx.toNat ht.toNat else []
def sigI (ht idx : Int) : Int := if okS ht idx then idx else 0
def sigE (ht idx : Int) : Int := if okS ht idx then 0 else 2
theorem sigC_all (s : List UInt8) (ht idx : Int) (bs : List UInt8) : ∀ x ∈ sigC s ht idx bs, x.length = 16 := by
  unfold sigC; split
  · exact signF_all _ _
  · intro x hx; cases hx
theorem sigP_all (s : List UInt8) (ht idx : Int) : ∀ x ∈ sigP s ht idx, x.length = 16 := by
  unfold sigP; split
  · exact pathF_all _ _ _
  · intro x hx; cases hx
theorem okS_nat {m q : Nat} (hm : m ≤ 4) (hq : q < 2 ^ m) : okS (m : Int) (q : Int) := ⟨⟨zz14, zz14⟩, zz14, by rw [Int.toNat_natCast]; omega⟩
theorem key7 (xs : List UInt8) (ht : Int) (w : World) (hxs : xs.length = 16) (hG : Glb w) :
    Calls Tryd.prog 11 [.agg (v8s xs).toArray, .int .i64 ht].toArray w (Pur w (.tuple #[.agg (v8s (keyR xs ht) ++ [Value.int .i64 (keyH ht)]).toArray, .int .i64 (keyE ht)])) := by
  refine enter (m := 21) (R := Mem w [] [] []) Tryd.func11 rfl rfl (Nat.le_of_ble_eq_true rfl) (Mem.start w) ?_
  refine wpc_seq <| wpc_region ?_
  refine wpl_t (t_box rfl (v8s xs) rfl) rfl (fun b2 => ?_)
  refine wpl_t (t_alloc Tryd.ti43 _ rfl) rfl (fun b4 => ?_)
  refine wpl_q (q_pure rfl) rfl <| wpl_nil <| ex_then <| wpc_seq <| wpc_seq <| wpc_region <| wpl_q (q_pure rfl) rfl ?_
  refine wpl_t (t_pur Tryd.hb32 rfl fun w h => goodMm _ w) rfl (fun b7 => ?_)
  refine wpl_q (q_pure rfl) rfl <| wpl_nil <| ex_then ?_
  refine wpc_cond rfl (fun hc8 => ?_) (fun hc8 => ?_)
  ·
   simp only [Bool.not_eq_true', decide_eq_false_iff_not] at hc8
   have e1 : keyR xs ht = (List.replicate 16 0) := if_neg hc8
   have e2 : keyH ht = 0 := if_neg hc8
   have e3 : keyE ht = 2 := if_neg hc8
   refine wpc_seq <| wpc_region ?_
   refine wpl_q (q_build (cs := v8s (List.replicate 16 0) ++ [Value.int .i64 0]) rfl built_key0) rfl ?_
   refine wpl_t0 (t_stA Tryd.ti43 rfl rfl zz2 zz5 zz2) (fun _ => ?_)
   refine wpl_q (q_pure rfl) rfl <| wpl_nil <| ex_then <| wpc_ret ?_
   refine ex_then_ret ?_
   refine retv2 (.inl rfl) rfl (rv_agg Tryd.underlying43 rfl Tryd.ti43 rfl (fun w h => h.atB) (key_len _ _ zz21)) (rv_tmp rfl) ?_
   exact fun w h => ⟨by rw [e1, e2, e3], h.below⟩
  ·
   simp only [Bool.not_eq_false', decide_eq_true_eq] at hc8
   obtain ⟨m, rfl⟩ : ∃ m : Nat, ht = (m : Int) := ⟨ht.toNat, zz14⟩
   have e1 : keyR xs m = nodeF xs m 0 := if_pos hc8
   have e2 : keyH m = m := if_pos hc8
   have e3 : keyE m = 0 := if_pos hc8
   refine wpc_skip <| ex_then <| wpc_seq <| wpc_region ?_
   refine wpl_q (q_ldN Tryd.underlying41 rfl Tryd.ti41 rfl zz2) rfl ?_
   refine wpl_q (q_pure rfl) rfl ?_
   refine wpl_q (q_build (cs := v8s xs ++ [Value.int .i64 ((m : Nat) : Int)]) rfl (built_tree _ _ hxs)) rfl ?_
   refine wpl_tp (t_callPF Tryd.hb33 rfl fun w h => levels7 _ _ w zz21 zz14 (glob h hG)) rfl (fun b13 p13 => ?_)
   obtain ⟨hq1, hq2⟩ := p13
   obtain ⟨u, hu1, hu2, hu3⟩ := hq2.get (show m < m + 1 from zz14)
   rw [Nat.sub_self] at hu2 hu3
   refine wpl_q (q_pure rfl) rfl ?_
   refine wpl_q (q_idxW1 Tryd.underlying73 Tryd.ti28 rfl rfl zz3 zz1) rfl ?_
   refine wpl_q (q_ldW Tryd.underlying28 rfl rfl (fun w h => zz15) hu1) rfl ?_
   refine wpl_q (q_idxW (j := 0) Tryd.underlying28 Tryd.ti41 rfl rfl zz3 zz1) rfl ?_
   refine wpl_q (q_ldWN Tryd.underlying41 rfl Tryd.ti41 rfl (fun w h => h.rowsF zz4 hu2) (v8s ((lev xs m (2 ^ 0)).getD 0 [])) (part8 (lev_all _ _ _) (by rw [lev_length]; decide)) ((v8s_length _).trans (getD_mem_len (lev_all _ _ _) (by rw [lev_length]; decide)))) rfl ?_
   refine wpl_re 18 rfl (congrArg (fun l : List UInt8 => Value.agg (v8s l).toArray) (lev_get xs m (2 ^ 0) 0 zz20)) ?_
   refine wpl_q (q_pure rfl) rfl ?_
   refine wpl_q (q_build (cs := v8s (nodeF xs m 0) ++ [Value.int .i64 ((m : Nat) : Int)]) rfl (built_key _ _ (nodeF_length _ _ _))) rfl ?_
   refine wpl_t0 (t_stA Tryd.ti43 rfl rfl zz2 zz5 zz2) (fun _ => ?_)
   refine wpl_q (q_pure rfl) rfl <| wpl_nil <| ex_then <| wpc_ret ?_
   refine retv2 (.inl rfl) rfl (rv_agg Tryd.underlying43 rfl Tryd.ti43 rfl (fun w h => h.atB) (key_len _ _ zz21)) (rv_tmp rfl) ?_
   exact fun w h => ⟨by rw [e1, e2, e3], h.below⟩
end Go.Proofs.YtgnablliekgbgaaDoor
