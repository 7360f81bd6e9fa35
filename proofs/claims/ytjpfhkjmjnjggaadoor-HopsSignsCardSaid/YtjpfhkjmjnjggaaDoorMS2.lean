/- What the statement reaches, in order. -/
import Derived.Test.YtjpfhkjmjnjggaaDoorMSTI
import Derived.Test.YtjpfhkjmjnjggaaDoorMSPLI
import Derived.Test.YtjpfhkjmjnjggaaDoorMSPLZ
import Derived.Test.YtjpfhkjmjnjggaaDoorMSPLL
import Derived.Test.YtjpfhkjmjnjggaaDoorMSPLN
import Derived.Test.YtjpfhkjmjnjggaaDoorMSPLP
import Derived.WalkKit
import Derived.ProofKit
import Derived.OpenShut
import Derived.ChangeOld
import Derived.Below
import Derived.Carry
import Derived.LaidMore
import Derived.Deep.DeepHandedRow
import Derived.Deep.DeepWitnessRowRef
import Derived.Lib.LaidTab
import Derived.Stop.Joined
import Derived.Test.YtjpfhkjmjnjggaaDoorMS1
set_option linter.unusedSimpArgs false
set_option linter.unusedVariables false
set_option maxRecDepth 100000
namespace Go.Proofs.YtjpfhkjmjnjggaaDoor
open Go Go.PL Go.RowKit
def accF (E : Nat → List UInt8) : Nat → List UInt8
  | 0 => []
  | i + 1 => accF E i ++ E i
theorem accF_length (E : Nat → List UInt8) (h : ∀ i, (E i).length = 16) : ∀ n, (accF E n).length = 16 * n
  | 0 => rfl
  | n + 1 => by rw [accF, List.length_append, accF_length E h n, h]; omega
theorem accF_flat (E : Nat → List UInt8) : ∀ n, ((List.range n).map E).flatten = accF E n
  | 0 => rfl
  | n + 1 => by rw [List.range_succ, List.map_append, List.flatten_append, accF_flat E n, accF]; simp
def publicF (s : List UInt8) : List UInt8 := shortF (accF (fun i => chainF s i 15) 35)
def dig (m : List UInt8) (i : Nat) : Nat := (digsF (shortF m)).getD i 0
def sg (s m : List UInt8) (n : Nat) : List (List UInt8) := (List.range n).map fun i => chainF s i (dig m i)
def signF (s m : List UInt8) : List (List UInt8) := sg s m 35
theorem sg_all (s m : List UInt8) (n : Nat) : ∀ x ∈ sg s m n, x.length = 16 := by
  intro x hx
  obtain ⟨i, _, rfl⟩ := List.mem_map.1 hx
  exact chainF_length _ _ _
theorem signF_all (s m : List UInt8) : ∀ x ∈ signF s m, x.length = 16 := sg_all s m 35
theorem sg_length (s m : List UInt8) (n : Nat) : (sg s m n).length = n := by simp [sg]
theorem signF_length (s m : List UInt8) : (signF s m).length = 35 := sg_length s m 35
theorem sg_succ (s m : List UInt8) (n : Nat) : sg s m (n + 1) = sg s m n ++ [chainF s n (dig m n)] := by simp [sg, List.range_succ]
theorem dig_le (m : List UInt8) (i : Nat) : dig m i ≤ 15 := by
  have hd := dsum_le (shortF m) 32
  have : ∀ x ∈ digsF (shortF m), x ≤ 15 := by
    intro x hx
    unfold digsF at hx
    rcases List.mem_append.1 hx with hx | hx
    · obtain ⟨k, _, rfl⟩ := List.mem_map.1 hx
      exact digN_le _ _
    · simp only [List.mem_cons, List.not_mem_nil, or_false] at hx
      omega
  unfold dig
  rw [List.getD_eq_getElem?_getD]
  cases h : (digsF (shortF m))[i]? with
  | none => exact Nat.zero_le _
  | some x => exact this x (List.mem_of_getElem? h)
theorem publicF_length (s : List UInt8) : (publicF s).length = 16 := by rw [publicF]; exact shortF_length _
theorem accF_len16 (E : Nat → List UInt8) (n : Nat) (h : ∀ i, i < n → (E i).length = 16) : ∀ k, k ≤ n → (accF E k).length = 16 * k
  | 0, _ => rfl
  | k + 1, hk => by rw [accF, List.length_append, accF_len16 E n h k zz14, h k zz14]; omega
theorem step (xs : List UInt8) (i : Nat) (j : Nat) (w : World) (hxs : xs.length = 16) (hG : Glb w) :
    Calls Tryd.prog 122 [.agg (v8s xs).toArray, .int .i64 ((i : Nat) : Int), .int .i64 ((j : Nat) : Int)].toArray w (Pur w (.agg (v8s (stepF xs i j)).toArray)) := by
  refine enter (m := 15) (R := Mem w [] [] []) Tryd.func122 rfl rfl (Nat.le_of_ble_eq_true rfl) (Mem.start w) ?_
  refine wpc_seq <| wpc_region ?_
  refine wpl_t (t_box rfl (v8s xs) rfl) rfl (fun b3 => ?_)
  refine wpl_t (t_alloc Tryd.ti61 (v8s (List.replicate 16 0)) (by rfl)) rfl (fun b6 => ?_)
  refine wpl_nil <| ex_then <| wpc_seq <| wpc_region <| wpl_q (q_arAll Tryd.underlying61 Tryd.ti5 rfl rfl) rfl <| wpl_q (q_pure rfl) rfl <| wpl_q (q8_conv Tryd.underlying3 Tryd.underlying5 rfl) rfl <| wpl_q (q_pure rfl) rfl <| wpl_q (q8_conv Tryd.underlying3 Tryd.underlying5 rfl) rfl ?_
  refine wpl_tp (t_bsV (v8s [_, _]) Tryd.underlying32 Tryd.ti5 rfl rfl zz19 zz19 rfl (v8s_one _)) rfl (fun b12 p12 => ?_)
  refine wpl_tp (t_apF Tryd.underlying32 Tryd.ti5 rfl rfl rfl (fun w h => zz13) (fun w h => zz13) zz1 zz1 zz1 _ zz16) rfl (fun b13 p13 => ?_)
  refine wpl_t (t_pur Tryd.hb118 rfl fun w h => shortW _ _ w zz15 (glob h hG)) rfl (fun b14 => ?_)
  refine wpl_t0 (t_stA Tryd.ti61 rfl rfl zz0 (v8s_one _) zz0) (fun _ => ?_)
  refine wpl_nil <| ex_then <| wpc_ret ?_
  refine retv1 (.inl rfl) rfl (rv_agg Tryd.underlying61 rfl Tryd.ti61 rfl (fun w h => h.atB) zz0) ?_
  exact fun w h => ⟨rfl, h.below⟩
theorem climb (xs : List UInt8) (i : Nat) (f : Nat) (t : Nat) (w : World) (hxs : xs.length = 16) (hG : Glb w) (hf : f ≤ 1000) (ht : t ≤ 1000) :
    Calls Tryd.prog 107 [.agg (v8s xs).toArray, .int .i64 ((i : Nat) : Int), .int .i64 ((f : Nat) : Int), .int .i64 ((t : Nat) : Int)].toArray w (Pur w (.agg (v8s (climbF xs i f (t - f))).toArray)) := by
  refine enter (m := 21) (R := Mem w [] [] []) Tryd.func107 rfl rfl (Nat.le_of_ble_eq_true rfl) (Mem.start w) ?_
  refine wpc_seq <| wpc_region ?_
  refine wpl_t (t_box rfl (v8s xs) rfl) rfl (fun b4 => ?_)
  refine wpl_t (t_alloc Tryd.ti61 (v8s (List.replicate 16 0)) (by rfl)) rfl (fun b8 => ?_)
  refine wpl_nil <| ex_then <| wpc_seq <| wpc_seq <| wpc_region <| wpl_q (q_pure rfl) rfl <| wpl_q (q_pure rfl) rfl <| wpl_nil <| ex_then <| wpc_block ?_
  refine wpc_loopc (ι := { x : Nat // (x ≤ t - f) }) [(1, _), (3, _), (4, _), (8, _)] (fun x Lc => (9, .int .i64 ((f + x.1 : Nat) : Int)) :: Lc) (fun x => Mem w [] [.blk b8 61 (v8s (List.replicate 16 0)), .blk b4 61 (v8s (climbF xs i f x.1))] []) (fun x => t - f - x.1) ⟨0, zz18⟩ zz10 ?_ ?_
  ·
   exact fun w h => h
  ·
   rintro ⟨n, hi0⟩; try dsimp only
   have hi0 : n ≤ t - f := hi0
   have hcl := climbF_length xs hxs i f n
   refine wpc_seq <| wpc_seq <| wpc_region <| wpl_q (q_pure rfl) rfl <| wpl_q (q_pure rfl) rfl <| wpl_q (q_pure rfl) rfl <| wpl_nil <| ex_then ?_
   refine wpc_cond rfl (fun hc13 => ?_) (fun hc13 => ?_)
   ·
    simp only [decide_eq_true_eq] at hc13
    refine wpc_skip <| ex_then <| wpc_seq <| wpc_block <| wpc_region ?_
    refine wpl_q (q_ldN Tryd.underlying61 rfl Tryd.ti61 rfl zz0) rfl ?_
    refine wpl_q (q_pure rfl) rfl <| wpl_q (q_pure rfl) rfl ?_
    refine wpl_t (t_pur Tryd.hb122 rfl fun w h => step _ _ _ w zz9 (glob h hG)) rfl (fun b19 => ?_)
    refine wpl_t0 (t_stA Tryd.ti61 rfl rfl zz0 (v8s_one _) zz0) (fun _ => ?_)
    refine wpl_nil <| ex_block <| ex_then <| wpc_region <| wpl_q (q_pure rfl) rfl ?_
    refine wpl_q (q_addN (b := 1) rfl rfl zz1) rfl ?_
    refine wpl_q (q_pure rfl) rfl <| wpl_nil ?_
    refine ex_again ⟨n + 1, zz18⟩ ?_ ?_ ?_
    ·
     exact zz10
    ·
     exact fun w h => by first | exact h | exact h.sub SubC.h SubC.h | exact h.sub zz8 zz8
    ·
     (show t - f - (n + 1) < t - f - n); omega
   ·
    simp only [decide_eq_false_iff_not] at hc13
    obtain rfl : n = t - f := by omega
    refine wpc_exit ?_
    refine ex_then_exit ?_
    refine ex_then_exit ?_
    refine ex_block_hit ?_
    refine ex_then <| wpc_seq <| wpc_region ?_
    refine wpl_q (q_ldN Tryd.underlying61 rfl Tryd.ti61 rfl zz0) rfl ?_
    refine wpl_t0 (t_stA Tryd.ti61 rfl rfl zz0 (v8s_one _) zz0) (fun _ => ?_)
    refine wpl_nil <| ex_then <| wpc_ret ?_
    refine retv1 (.inl rfl) rfl (rv_agg Tryd.underlying61 rfl Tryd.ti61 rfl (fun w h => h.atB) zz0) ?_
    exact fun w h => ⟨rfl, h.below⟩
theorem begin_ (xs : List UInt8) (i : Nat) (w : World) (hxs : xs.length = 16) (hG : Glb w) :
    Calls Tryd.prog 117 [.agg (v8s xs).toArray, .int .i64 ((i : Nat) : Int)].toArray w (Pur w (.agg (v8s (beginF xs i)).toArray)) := by
  refine enter (m := 8) (R := Mem w [] [] []) Tryd.func117 rfl rfl (Nat.le_of_ble_eq_true rfl) (Mem.start w) ?_
  refine wpc_seq <| wpc_region ?_
  refine wpl_t (t_box rfl (v8s xs) rfl) rfl (fun b2 => ?_)
  refine wpl_t (t_alloc Tryd.ti61 (v8s (List.replicate 16 0)) (by rfl)) rfl (fun b4 => ?_)
  refine wpl_nil <| ex_then <| wpc_seq <| wpc_region ?_
  refine wpl_q (q_ldN Tryd.underlying61 rfl Tryd.ti61 rfl zz0) rfl ?_
  refine wpl_q (q_pure rfl) rfl ?_
  refine wpl_t (t_pur Tryd.hb122 rfl fun w h => step _ _ 255 w zz9 (glob h hG)) rfl (fun b7 => ?_)
  refine wpl_t0 (t_stA Tryd.ti61 rfl rfl zz0 (v8s_one _) zz0) (fun _ => ?_)
  refine wpl_nil <| ex_then <| wpc_ret ?_
  refine retv1 (.inl rfl) rfl (rv_agg Tryd.underlying61 rfl Tryd.ti61 rfl (fun w h => h.atB) zz0) ?_
  exact fun w h => ⟨rfl, h.below⟩
theorem ends (cf : Nat) (cap : Array Value) (E : Nat → List UInt8) (w : World)  (hG : Glb w) (hcb : HasBody Tryd.prog cf) (hE : ∀ i, i < 35 → (E i).length = 16) (hcl : ∀ (i : Nat) (w1 : World), i < 35 → Mem w [] [] [] w1 → Calls Tryd.prog cf (#[.int .i64 ((i : Nat) : Int)] ++ cap) w1 (Pur w1 (.agg (v8s (E i)).toArray))) :
    Calls Tryd.prog 105 [.func (.func cf) #[] cap].toArray w (Pur w (.agg (v8s (shortF (accF E 35))).toArray)) := by
  refine enter (m := 18) (R := Mem w [] [] []) Tryd.func105 rfl rfl (Nat.le_of_ble_eq_true rfl) (Mem.start w) ?_
  refine wpc_seq <| wpc_region ?_
  refine wpl_t (t_alloc Tryd.ti61 (v8s (List.replicate 16 0)) (by rfl)) rfl (fun b2 => ?_)
  refine wpl_nil <| ex_then <| wpc_seq <| wpc_region <| wpl_q (q_pure rfl) rfl <| wpl_nil <| ex_then <| wpc_seq <| wpc_seq <| wpc_region <| wpl_q (q_pure rfl) rfl <| wpl_nil ?_
  refine ex_then <| wpc_block ?_
  refine wpc_loopc (ι := { x : Nat × Value // (x.1 ≤ 35) ∧ (SV x.2 (accF E x.1).length) }) [(0, _), (2, _)] (fun x Lc => (6, .int .i64 ((x.1.1 : Nat) : Int)) :: (3, x.1.2) :: Lc) (fun x => Mem w [] [.row x.1.2 (accF E x.1.1).length 5 1 (v8s (accF E x.1.1)), .blk b2 61 (v8s (List.replicate 16 0))] []) (fun x => 35 - x.1.1) ⟨(0, .slice none 0 0), ⟨Nat.zero_le _, SV.nil⟩⟩ zz10 ?_ ?_
  ·
   exact fun w h => h.nilRow 5 1
  ·
   rintro ⟨⟨i, v⟩, ⟨hi0, hi1⟩⟩; try dsimp only
   have hi0 : i ≤ 35 := hi0; have hi1 : SV v (accF E i).length := hi1
   have hal : i ≤ 35 → (accF E i).length ≤ 16 * 35 := fun hi => by rw [accF_len16 E 35 hE i hi]; omega
   have hal2 := hal hi0
   refine wpc_seq <| wpc_region <| wpl_q (q_pure rfl) rfl <| wpl_nil <| ex_then <| wpc_seq ?_
   refine wpc_cond rfl (fun hc7 => ?_) (fun hc7 => ?_)
   ·
    simp only [decide_eq_true_eq] at hc7
    have hEi := hE i zz14
    refine wpc_skip <| ex_then <| wpc_seq <| wpc_block <| wpc_seq <| wpc_region <| wpl_q (q_pure rfl) rfl <| wpl_q (q_pure rfl) rfl <| wpl_nil <| ex_then <| wpc_seq <| wpc_region ?_
    refine wpl_q (q_pure rfl) rfl <| wpl_q (q_pure rfl) rfl ?_
    refine wpl_t (t_purV rfl hcb rfl fun w h => hcl i w zz14 (h.sub .nil .nil)) rfl (fun b11 => ?_)
    refine wpl_t (t_alloc Tryd.ti61 (v8s (List.replicate 16 0)) (by rfl)) rfl (fun b5 => ?_)
    refine wpl_t0 (t_stA Tryd.ti61 rfl rfl zz0 (v8s_one _) zz0) (fun _ => ?_)
    refine wpl_nil <| ex_then <| wpc_region <| wpl_q (q_pure rfl) rfl <| wpl_q (q_arAll Tryd.underlying61 Tryd.ti5 rfl rfl) rfl ?_
    refine wpl_tp (t_apW Tryd.underlying32 Tryd.ti5 rfl zz19 rfl rfl (fun w h => zz13) (v8s_one _) zz1 zz1 _ zz16) rfl (fun b14 p14 => ?_)
    refine wpl_q (q_pure rfl) rfl <| wpl_nil <| ex_block <| ex_then <| wpc_region ?_
    refine wpl_q (q_addN (b := 1) rfl rfl zz1) rfl ?_
    refine wpl_q (q_pure rfl) rfl <| wpl_nil ?_
    refine ex_again ⟨(i + 1, b14), ⟨zz14, by rw [accF, List.length_append, hEi]; exact p14⟩⟩ ?_ ?_ ?_
    ·
     exact zz10
    ·
     exact fun w h => by
       dsimp only
       rw [accF, List.length_append, hEi]
       first | exact h.sub SubC.h SubC.h | exact h.sub zz8 zz8
    ·
     (show 35 - (i + 1) < 35 - i); omega
   ·
    simp only [decide_eq_false_iff_not] at hc7
    obtain rfl : i = 35 := by omega
    refine wpc_exit ?_
    refine ex_then_exit ?_
    refine ex_then_exit ?_
    refine ex_block_hit ?_
    refine ex_then <| wpc_seq <| wpc_region <| wpl_q (q_pure rfl) rfl ?_
    refine wpl_t (t_pur Tryd.hb118 rfl fun w h => shortW _ _ w zz15 (glob h hG)) rfl (fun b17 => ?_)
    refine wpl_t0 (t_stA Tryd.ti61 rfl rfl zz0 (v8s_one _) zz0) (fun _ => ?_)
    refine wpl_nil <| ex_then <| wpc_ret ?_
    refine retv1 (.inl rfl) rfl (rv_agg Tryd.underlying61 rfl Tryd.ti61 rfl (fun w h => h.atB) zz0) ?_
    exact fun w h => ⟨rfl, h.below⟩
theorem public1 (i : Nat) (b : Nat) (xs : List UInt8) (w : World) (hxs : xs.length = 16) (hb : CellsAt w.cell? ⟨b, 0, none⟩ (v8s xs)) (hG : Glb w) :
    Calls Tryd.prog 121 [.int .i64 ((i : Nat) : Int), .pointer (some ⟨b, 0, none⟩)].toArray w (Pur w (.agg (v8s (chainF xs i 15)).toArray)) := by
  refine enter (m := 9) (R := Mem w [] [] []) Tryd.func121 rfl rfl (Nat.le_of_ble_eq_true rfl) (Mem.start w) ?_
  refine wpc_seq <| wpc_region ?_
  refine wpl_t (t_alloc Tryd.ti61 (v8s (List.replicate 16 0)) (by rfl)) rfl (fun b3 => ?_)
  refine wpl_nil <| ex_then <| wpc_seq <| wpc_region ?_
  refine wpl_q (q_loadN Tryd.underlying61 rfl Tryd.ti61 rfl (fun w h => h.at_old hb) zz0) rfl ?_
  refine wpl_q (q_pure rfl) rfl ?_
  refine wpl_t (t_pur Tryd.hb117 rfl fun w h => begin_ _ _ w zz9 (glob h hG)) rfl (fun b6 => ?_)
  refine wpl_q (q_pure rfl) rfl ?_
  refine wpl_t (t_pur Tryd.hb107 rfl fun w h => climb _ _ 0 15 w zz9 (glob h hG) zz14 zz14) rfl (fun b8 => ?_)
  refine wpl_t0 (t_stA Tryd.ti61 rfl rfl zz0 (v8s_one _) zz0) (fun _ => ?_)
  refine wpl_nil <| ex_then <| wpc_ret ?_
  refine retv1 (.inl rfl) rfl (rv_agg Tryd.underlying61 rfl Tryd.ti61 rfl (fun w h => h.atB) zz0) ?_
  exact fun w h => ⟨rfl, h.below⟩
theorem public_ (xs : List UInt8) (w : World) (hxs : xs.length = 16) (hG : Glb w) :
    Calls Tryd.prog 102 [.agg (v8s xs).toArray].toArray w (Pur w (.agg (v8s (publicF xs)).toArray)) := by
  refine enter (m := 5) (R := Mem w [] [] []) Tryd.func102 rfl rfl (Nat.le_of_ble_eq_true rfl) (Mem.start w) ?_
  refine wpc_seq <| wpc_region ?_
  refine wpl_t (t_box rfl (v8s xs) rfl) rfl (fun b1 => ?_)
  refine wpl_t (t_alloc Tryd.ti61 (v8s (List.replicate 16 0)) (by rfl)) rfl (fun b2 => ?_)
  refine wpl_nil <| ex_then <| wpc_seq <| wpc_region ?_
  refine wpl_q (q_fn (us := []) (vs := [_]) rfl rfl) rfl ?_
  refine wpl_t (t_pur Tryd.hb105 rfl fun w h => ends 121 _ (fun i => chainF xs i 15) w (glob h hG) Tryd.hb121 (fun _ _ => chainF_length _ _ _) fun i w1 _ h1 => public1 i b1 xs w1 hxs (h1.at_old h.atB) (glob h1 (glob h hG))) rfl (fun b4 => ?_)
  refine wpl_t0 (t_stA Tryd.ti61 rfl rfl zz0 (v8s_one _) zz0) (fun _ => ?_)
  refine wpl_nil <| ex_then <| wpc_ret ?_
  refine retv1 (.inl rfl) rfl (rv_agg Tryd.underlying61 rfl Tryd.ti61 rfl (fun w h => h.atB) zz0) ?_
  exact fun w h => ⟨rfl, h.below⟩
theorem sign1 (xs : List UInt8) (bv : Value) (bs : List UInt8) (w : World) (hxs : xs.length = 16) (hbv : Seen w.cell? bv bs.length 1 (v8s bs)) (hG : Glb w) :
    Calls Tryd.prog 97 [.agg (v8s xs).toArray, bv].toArray w (GivesP w (fun v => SV v 35) (fun v : Value => v) (fun v => [.row v 35 61 16 (v8s (signF xs bs).flatten)]) (fun _ => [])) := by
  have sbv := hbv.sv
  have lbv := sbv.le
  simp only [maxLen] at lbv
  refine enter (m := 27) (R := Mem w [] [] []) Tryd.func97 rfl rfl (Nat.le_of_ble_eq_true rfl) (Mem.start w) ?_
  refine wpc_seq <| wpc_region ?_
  refine wpl_t (t_box rfl (v8s xs) rfl) rfl (fun b2 => ?_)
  refine wpl_q (q_pure rfl) rfl <| wpl_nil <| ex_then <| wpc_seq <| wpc_region <| wpl_q (q_pure rfl) rfl <| wpl_nil <| ex_then <| wpc_seq <| wpc_seq <| wpc_region <| wpl_q (q_pure rfl) rfl ?_
  refine wpl_tp (t_callP1 Tryd.hb104 rfl fun w h => digits _ _ w zz15 (glob h hG)) rfl (fun b9 p9 => ?_)
  refine wpl_q (q_lenW Tryd.underlying124 rfl zz4) rfl ?_
  refine wpl_q (q_pure rfl) rfl <| wpl_nil <| ex_then <| wpc_block ?_
  refine wpc_loopc (ι := { x : Nat × Value // (x.1 ≤ 35) ∧ (SV x.2 x.1) }) [(2, _), (9, _), (10, _)] (fun x Lc => (11, .int .i64 ((x.1.1 : Nat) : Int)) :: (5, x.1.2) :: Lc) (fun x => Mem w [] [.row x.1.2 x.1.1 61 16 (v8s (sg xs bs x.1.1).flatten), .row b9 35 3 1 (vns (digsF (shortF bs))), .blk b2 61 (v8s xs)] []) (fun x => 35 - x.1.1) ⟨(0, .slice none 0 0), ⟨Nat.zero_le _, SV.nil⟩⟩ zz10 ?_ ?_
  ·
   exact fun w h => h.nilRow 61 16
  ·
   rintro ⟨⟨i, v⟩, ⟨hi0, hi1⟩⟩; try dsimp only
   have hi0 : i ≤ 35 := hi0; have hi1 : SV v i := hi1
   have hdl := digsF_length (shortF bs)
   have hdg : (digsF (shortF bs)).getD i 0 ≤ 15 := dig_le bs i
   refine wpc_seq <| wpc_region <| wpl_q (q_pure rfl) rfl <| wpl_nil <| ex_then <| wpc_seq ?_
   refine wpc_cond rfl (fun hc12 => ?_) (fun hc12 => ?_)
   ·
    try simp only [decide_eq_true_eq, decide_eq_false_iff_not, Bool.and_eq_true, Bool.or_eq_true, beq_iff_eq, bne_iff_ne, ne_eq, Bool.not_eq_true', Bool.not_eq_false', Decidable.not_not] at hc12
    refine wpc_skip <| ex_then <| wpc_seq <| wpc_block <| wpc_seq <| wpc_region <| wpl_q (q_pure rfl) rfl ?_
    refine wpl_q (q_idxW1 Tryd.underlying124 Tryd.ti3 rfl rfl zz4 zz1) rfl ?_
    refine wpl_q (q_ldW Tryd.underlying3 rfl rfl (fun w h => zz13) zz34) rfl ?_
    refine wpl_q (q_pure rfl) rfl <| wpl_q (q_pure rfl) rfl <| wpl_nil <| ex_then <| wpc_region <| wpl_q (q_pure rfl) rfl ?_
    refine wpl_q (q_ldN Tryd.underlying61 rfl Tryd.ti61 rfl zz0) rfl ?_
    refine wpl_q (q_pure rfl) rfl ?_
    refine wpl_t (t_pur Tryd.hb117 rfl fun w h => begin_ _ _ w zz9 (glob h hG)) rfl (fun b19 => ?_)
    refine wpl_q (q_pure rfl) rfl <| wpl_q (q_pure rfl) rfl ?_
    refine wpl_t (t_pur Tryd.hb107 rfl fun w h => climb _ _ 0 _ w zz9 (glob h hG) zz14 zz14) rfl (fun b22 => ?_)
    refine wpl_tp (t_bsS [_] Tryd.underlying64 Tryd.ti61 rfl zz19 rfl zz19 zz19 rfl (all_one zz9)) rfl (fun b23 p23 => ?_)
    refine wpl_tp (t_apW Tryd.underlying64 Tryd.ti61 rfl zz19 rfl rfl (fun w h => zz13) zz17 zz1 zz1 _ zz16) rfl (fun b24 p24 => ?_)
    refine wpl_q (q_pure rfl) rfl <| wpl_nil <| ex_block <| ex_then <| wpc_region ?_
    refine wpl_q (q_addN (b := 1) rfl rfl zz1) rfl ?_
    refine wpl_q (q_pure rfl) rfl <| wpl_nil ?_
    refine ex_again ⟨(i + 1, b24), ⟨zz14, p24⟩⟩ ?_ ?_ ?_
    ·
     exact zz10
    ·
     exact fun w h => by
       dsimp only
       rw [sg_succ, List.flatten_append]
       first | exact h.sub SubC.h SubC.h | exact h.sub zz8 zz8
    ·
     (show 35 - (i + 1) < 35 - i); omega
   ·
    simp only [decide_eq_false_iff_not] at hc12
    obtain rfl : i = 35 := by omega
    refine wpc_exit ?_
    refine ex_then_exit ?_
    refine ex_then_exit ?_
    refine ex_block_hit ?_
    refine ex_then <| wpc_seq <| wpc_region <| wpl_q (q_pure rfl) rfl <| wpl_q (q_pure rfl) rfl <| wpl_nil <| ex_then <| wpc_ret ?_
    refine ret1 (.inl rfl) rfl rfl ?_
    exact fun w h => ⟨v, hi1, rfl, h.below, h.made (.keep .nil) .nil⟩
end Go.Proofs.YtjpfhkjmjnjggaaDoor
namespace Go.Proofs.YtjpfhkjmjnjggaaDoor
open Go Go.PL Go.RowKit
theorem digs_one (s : List UInt8) (i : Nat) : digs s i ++ [digN s i] = digs s (i + 1) := (digs_succ s i).symm
theorem dsum_one (s : List UInt8) (i : Nat) : dsum s i + 15 - digN s i = dsum s (i + 1) := by
  have := digN_le s i
  rw [dsum]; omega
theorem take_one (xs : List UInt8) (i : Nat) (h : i < xs.length) : xs.take i ++ [xs.getD i 0] = xs.take (i + 1) := by
  rw [List.take_add_one, List.getD_eq_getElem?_getD, List.getElem?_eq_getElem h]; rfl
theorem sameS_step (xs ys : List (List UInt8)) (i : Nat) (h : xs.take i = ys.take i) (h1 : i < xs.length) (h2 : i < ys.length) (he : xs.getD i [] = ys.getD i []) : xs.take (i + 1) = ys.take (i + 1) := by
  rw [List.take_add_one, List.take_add_one, h]
  simp only [List.getD_eq_getElem?_getD, List.getElem?_eq_getElem h1, List.getElem?_eq_getElem h2, Option.getD_some] at he
  simp [h1, h2, he]
def upto (l : List (List UInt8)) (i k : Nat) : List UInt8 := (l.take i).flatten ++ (l.getD i []).take k
theorem upto_step (l : List (List UInt8)) (i k : Nat) (h : ∀ x ∈ l, x.length = 16) (hi : i < l.length) (hk : k < 16) : upto l i k ++ [(l.getD i []).getD k 0] = upto l i (k + 1) := by
  unfold upto; rw [List.append_assoc, take_one _ _ (by rw [getD_mem_len h hi]; exact hk)]
theorem upto_next (l : List (List UInt8)) (i : Nat) (h : ∀ x ∈ l, x.length = 16) (hi : i < l.length) : upto l i 16 = upto l (i + 1) 0 := by
  unfold upto
  have e : (l.getD i []).take 16 = l.getD i [] := List.take_of_length_le (by rw [getD_mem_len h hi]; omega)
  rw [List.take_zero, List.append_nil, take_succ_flat l i hi, e]
theorem upto_len (l : List (List UInt8)) (i k : Nat) (h : ∀ x ∈ l, x.length = 16) : (upto l i k).length ≤ l.length * 16 + 16 := by
  unfold upto
  have h1 := flat_le l i
  rw [flat_len l h] at h1
  rw [List.length_append, List.length_take]
  by_cases hi : i < l.length
  · rw [getD_mem_len h hi]; omega
  · rw [List.getD_eq_getElem?_getD, List.getElem?_eq_none zz14]
    have : min k (([] : List UInt8)).length = 0 := by simp
    show _ + min k (([] : List UInt8)).length ≤ _
    omega
def kacc (E : Nat → List UInt8) (n : Nat) : List (List UInt8) := (List.range n).map E
theorem kacc_succ (E : Nat → List UInt8) (n : Nat) : kacc E (n + 1) = kacc E n ++ [E n] := by simp [kacc, List.range_succ]
theorem kacc_length (E : Nat → List UInt8) (n : Nat) : (kacc E n).length = n := by simp [kacc]
theorem kacc_all (E : Nat → List UInt8) (n : Nat) (h : ∀ i, i < n → (E i).length = 16) : ∀ x ∈ kacc E n, x.length = 16 := by
  intro x hx
  obtain ⟨i, hi, rfl⟩ := List.mem_map.1 hx
  exact h i (List.mem_range.1 hi)
theorem refDigits (bv : Value) (bs : List UInt8) (w : World) (hbv : Seen w.cell? bv bs.length 1 (v8s bs)) (hlb : bs.length ≤ 1000000000) :
    Calls Tryd.prog 112 [bv].toArray w (GivesP w (fun v => SV v 35) (fun v : Value => v) (fun v => [.row v 35 3 1 (vns (digsF (shortF bs)))]) (fun _ => [])) := by
  have sbv := hbv.sv
  have lbv := sbv.le
  simp only [maxLen] at lbv
  refine enter (m := 47) (R := Mem w [] [] []) Tryd.func112 rfl rfl (Nat.le_of_ble_eq_true rfl) (Mem.start w) ?_
  refine wpc_seq <| wpc_region <| wpl_q (q_pure rfl) rfl <| wpl_nil <| ex_then <| wpc_seq <| wpc_region <| wpl_q (q_pure rfl) rfl ?_
  refine wpl_t (t_pur Tryd.hb115 rfl fun w h => refShort _ _ w zz15 zz1) rfl (fun b9 => ?_)
  refine wpl_t (t_alloc Tryd.ti61 (v8s (List.replicate 16 0)) (by rfl)) rfl (fun b3 => ?_)
  refine wpl_t0 (t_stA Tryd.ti61 rfl rfl zz0 (v8s_one _) zz0) (fun _ => ?_)
  refine wpl_nil <| ex_then <| wpc_seq <| wpc_region <| wpl_q (q_pure rfl) rfl <| wpl_nil <| ex_then <| wpc_seq <| wpc_region <| wpl_q (q_pure rfl) rfl <| wpl_nil <| ex_then ?_
  refine wpc_seq <| wpc_seq <| wpc_region <| wpl_q (q_pure rfl) rfl <| wpl_nil <| ex_then <| wpc_block ?_
  refine wpc_loopc (ι := { x : Nat × Value // (x.1 ≤ 32) ∧ (SV x.2 x.1) }) [(3, _)] (fun x Lc => (6, .int .i64 ((x.1.1 : Nat) : Int)) :: (4, x.1.2) :: (5, .int .i64 ((dsum (shortF bs) x.1.1 : Nat) : Int)) :: Lc) (fun x => Mem w [] [.row x.1.2 x.1.1 3 1 (vns (digs (shortF bs) x.1.1)), .blk b3 61 (v8s (shortF bs))] []) (fun x => 32 - x.1.1) ⟨(0, .slice none 0 0), ⟨Nat.zero_le _, SV.nil⟩⟩ zz10 ?_ ?_
  ·
   exact fun w h => h.nilRow 3 1
  ·
   rintro ⟨⟨i, v⟩, ⟨hi0, hi1⟩⟩; try dsimp only
   have hi0 : i ≤ 32 := hi0; have hi1 : SV v i := hi1
   have hds := dsum_le (shortF bs) i
   have hsl := shortF_length bs
   have hx3 := ((shortF bs).getD (i / 2) 0).toNat_lt
   have hdn := digN_le (shortF bs) i
   refine wpc_seq <| wpc_seq <| wpc_region <| wpl_q (q_pure rfl) rfl <| wpl_q (q_pure rfl) rfl <| wpl_nil <| ex_then ?_
   refine wpc_cond rfl (fun hc11 => ?_) (fun hc11 => ?_)
   ·
    try simp only [decide_eq_true_eq, decide_eq_false_iff_not, Bool.and_eq_true, Bool.or_eq_true, beq_iff_eq, bne_iff_ne, ne_eq, Bool.not_eq_true', Bool.not_eq_false', Decidable.not_not] at hc11
    refine wpc_skip <| ex_then <| wpc_seq <| wpc_block <| wpc_seq <| wpc_region <| wpl_q (q_pure rfl) rfl ?_
    refine wpl_q (q_quoN (b := 2) rfl rfl zz30 zz1) rfl ?_
    refine wpl_q (q_idxA1 Tryd.underlying61 Tryd.ti5 rfl rfl zz14) rfl ?_
    refine wpl_q (q_ld Tryd.underlying5 rfl rfl zz38) rfl ?_
    refine wpl_q (q8_int Tryd.underlying5 Tryd.underlying3 rfl) rfl ?_
    refine wpl_q (q_remN (b := 16) rfl rfl zz30) rfl ?_
    refine wpl_q (q_pure rfl) rfl <| wpl_nil <| ex_then ?_
    refine wpc_cutc ({ x : Unit // True }) [(3, .pointer (some ⟨b3, 0, none⟩)), (4, v), (5, .int .i64 ((dsum (shortF bs) i : Nat) : Int)), (6, .int .i64 ((i : Nat) : Int))] (fun x Lc => (7, .int .i64 ((digN (shortF bs) i : Nat) : Int)) :: Lc) (fun x => Mem w [] [.row v i 3 1 (vns (digs (shortF bs) i)), .blk b3 61 (v8s (shortF bs))] []) ?_ ?_
    ·
     refine wpc_seq <| wpc_region <| wpl_q (q_pure rfl) rfl ?_
     refine wpl_q (q_remN (b := 2) rfl rfl zz30) rfl ?_
     refine wpl_q (q_pure rfl) rfl <| wpl_nil <| ex_then ?_
     refine wpc_cond rfl (fun hc22 => ?_) (fun hc22 => ?_)
     ·
      simp only [decide_eq_true_eq, beq_iff_eq] at hc22
      have hev : i % 2 = 0 := by omega
      have hd : ((shortF bs).getD (i / 2) 0).toNat / 16 = digN (shortF bs) i := by unfold digN; rw [if_pos hev]
      refine wpc_region <| wpl_q (q_pure rfl) rfl ?_
      refine wpl_q (q_quoN (b := 2) rfl rfl zz30 zz1) rfl ?_
      refine wpl_q (q_idxA1 Tryd.underlying61 Tryd.ti5 rfl rfl zz14) rfl ?_
      refine wpl_q (q_ld Tryd.underlying5 rfl rfl zz38) rfl ?_
      refine wpl_q (q8_int Tryd.underlying5 Tryd.underlying3 rfl) rfl ?_
      refine wpl_q (q_quoN (b := 16) rfl rfl zz30 zz1) rfl ?_
      rw [hd]
      refine wpl_q (q_pure rfl) rfl <| wpl_nil ?_
      refine ex_mid ⟨(), trivial⟩ ?_ ?_
      ·
       exact zz10
      ·
       exact fun w h => by first | exact h | exact h.sub SubC.h SubC.h | exact h.sub zz8 zz8
     ·
      simp only [decide_eq_false_iff_not, beq_eq_false_iff_ne, ne_eq] at hc22
      have hod : ¬ i % 2 = 0 := by omega
      have hd : ((shortF bs).getD (i / 2) 0).toNat % 16 = digN (shortF bs) i := by unfold digN; rw [if_neg hod]
      rw [hd]
      refine wpc_skip ?_
      refine ex_mid ⟨(), trivial⟩ ?_ ?_
      ·
       exact zz10
      ·
       exact fun w h => by first | exact h | exact h.sub SubC.h SubC.h | exact h.sub zz8 zz8
    ·
     rintro ⟨_, _⟩; try dsimp only
     refine wpc_seq <| wpc_region <| wpl_q (q_pure rfl) rfl <| wpl_q (q_pure rfl) rfl ?_
     refine wpl_tp (t_bsV (vns [_]) Tryd.underlying124 Tryd.ti3 rfl rfl zz19 zz19 rfl (vns_one _)) rfl (fun b31 p31 => ?_)
     refine wpl_tp (t_apW Tryd.underlying124 Tryd.ti3 rfl zz19 rfl rfl (fun w h => zz13) (vns_one _) zz1 zz1 _ zz16) rfl (fun b32 p32 => ?_)
     refine wpl_q (q_pure rfl) rfl <| wpl_nil <| ex_then <| wpc_region <| wpl_q (q_pure rfl) rfl ?_
     refine wpl_q (q_addN (b := 15) rfl rfl zz1) rfl ?_
     refine wpl_q (q_pure rfl) rfl ?_
     refine wpl_q (q_subN rfl rfl zz14 zz1) rfl ?_
     rw [dsum_one]
     refine wpl_q (q_pure rfl) rfl <| wpl_nil <| ex_block <| ex_then <| wpc_region <| wpl_q (q_pure rfl) rfl ?_
     refine wpl_q (q_addN (b := 1) rfl rfl zz1) rfl ?_
     refine wpl_q (q_pure rfl) rfl <| wpl_nil ?_
     refine ex_again ⟨(i + 1, b32), ⟨zz14, p32⟩⟩ ?_ ?_ ?_
     ·
      exact zz10
     ·
      exact fun w h => by
        dsimp only
        rw [← digs_one]
        first | exact h.sub SubC.h SubC.h | exact h.sub zz8 zz8
     ·
      (show 32 - (i + 1) < 32 - i); omega
   ·
    simp only [decide_eq_false_iff_not] at hc11
    obtain rfl : i = 32 := by omega
    refine wpc_exit ?_
    refine ex_then_exit ?_
    refine ex_then_exit ?_
    refine ex_block_hit ?_
    refine ex_then <| wpc_seq <| wpc_region <| wpl_q (q_pure rfl) rfl <| wpl_q (q_pure rfl) rfl ?_
    refine wpl_q (q_quoN (b := 256) rfl rfl zz30 zz1) rfl ?_
    refine wpl_q (q_pure rfl) rfl ?_
    refine wpl_q (q_quoN (b := 16) rfl rfl zz30 zz1) rfl ?_
    refine wpl_q (q_remN (b := 16) rfl rfl zz30) rfl ?_
    refine wpl_q (q_pure rfl) rfl ?_
    refine wpl_q (q_remN (b := 16) rfl rfl zz30) rfl ?_
    refine wpl_tp (t_bsV (vns [_, _, _]) Tryd.underlying124 Tryd.ti3 rfl rfl zz19 zz19 rfl (vns_one _)) rfl (fun b45 p45 => ?_)
    refine wpl_tp (t_apW Tryd.underlying124 Tryd.ti3 rfl zz19 rfl rfl (fun w h => zz13) (vns_one _) zz1 zz1 (vns (digsF (shortF bs))) (by rw [← vns_append]; rfl)) rfl (fun b46 p46 => ?_)
    refine wpl_q (q_pure rfl) rfl <| wpl_nil <| ex_then <| wpc_ret ?_
    refine ret1 (.inl rfl) rfl rfl ?_
    exact fun w h => ⟨b46, p46, rfl, h.below, h.made SubC.h SubC.h⟩
theorem refStep (xs : List UInt8) (i : Nat) (j : Nat) (w : World) (hxs : xs.length = 16)  :
    Calls Tryd.prog 113 [.agg (v8s xs).toArray, .int .i64 ((i : Nat) : Int), .int .i64 ((j : Nat) : Int)].toArray w (Pur w (.agg (v8s (stepF xs i j)).toArray)) := by
  refine enter (m := 27) (R := Mem w [] [] []) Tryd.func113 rfl rfl (Nat.le_of_ble_eq_true rfl) (Mem.start w) ?_
  refine wpc_seq <| wpc_region ?_
  refine wpl_t (t_box rfl (v8s xs) rfl) rfl (fun b3 => ?_)
  refine wpl_t (t_alloc Tryd.ti61 (v8s (List.replicate 16 0)) (by rfl)) rfl (fun b6 => ?_)
  refine wpl_nil <| ex_then <| wpc_seq <| wpc_region <| wpl_q (q_pure rfl) rfl <| wpl_nil <| ex_then <| wpc_seq <| wpc_seq <| wpc_region <| wpl_q (q_pure rfl) rfl <| wpl_nil ?_
  refine ex_then <| wpc_block ?_
  refine wpc_loopc (ι := { x : Nat × Value // (x.1 ≤ 16) ∧ (SV x.2 x.1) }) [(1, _), (2, _), (3, _), (6, _)] (fun x Lc => (8, .int .i64 ((x.1.1 : Nat) : Int)) :: (7, x.1.2) :: Lc) (fun x => Mem w [] [.row x.1.2 x.1.1 5 1 (v8s (xs.take x.1.1)), .blk b6 61 (v8s (List.replicate 16 0)), .blk b3 61 (v8s xs)] []) (fun x => 16 - x.1.1) ⟨(0, .slice none 0 0), ⟨Nat.zero_le _, SV.nil⟩⟩ zz10 ?_ ?_
  ·
   exact fun w h => h.nilRow 5 1
  ·
   rintro ⟨⟨k, v⟩, ⟨hi0, hi1⟩⟩; try dsimp only
   have hi0 : k ≤ 16 := hi0; have hi1 : SV v k := hi1
   refine wpc_seq <| wpc_seq <| wpc_region <| wpl_q (q_pure rfl) rfl <| wpl_q (q_pure rfl) rfl <| wpl_nil <| ex_then ?_
   refine wpc_cond rfl (fun hc10 => ?_) (fun hc10 => ?_)
   ·
    try simp only [decide_eq_true_eq, decide_eq_false_iff_not, Bool.and_eq_true, Bool.or_eq_true, beq_iff_eq, bne_iff_ne, ne_eq, Bool.not_eq_true', Bool.not_eq_false', Decidable.not_not] at hc10
    refine wpc_skip <| ex_then <| wpc_seq <| wpc_block <| wpc_region <| wpl_q (q_pure rfl) rfl <| wpl_q (q_pure rfl) rfl ?_
    refine wpl_q (q_idxA1 Tryd.underlying61 Tryd.ti5 rfl rfl zz14) rfl ?_
    refine wpl_q (q_ld Tryd.underlying5 rfl rfl zz38) rfl ?_
    refine wpl_tp (t_bsV (v8s [_]) Tryd.underlying32 Tryd.ti5 rfl rfl zz19 zz19 rfl (v8s_one _)) rfl (fun b17 p17 => ?_)
    refine wpl_tp (t_apW Tryd.underlying32 Tryd.ti5 rfl zz19 rfl rfl (fun w h => zz13) (v8s_one _) zz1 zz1 _ zz16) rfl (fun b18 p18 => ?_)
    refine wpl_q (q_pure rfl) rfl <| wpl_nil <| ex_block <| ex_then <| wpc_region <| wpl_q (q_pure rfl) rfl ?_
    refine wpl_q (q_addN (b := 1) rfl rfl zz1) rfl ?_
    refine wpl_q (q_pure rfl) rfl <| wpl_nil ?_
    refine ex_again ⟨(k + 1, b18), ⟨zz14, p18⟩⟩ ?_ ?_ ?_
    ·
     exact zz10
    ·
     exact fun w h => by
       dsimp only
       rw [← take_one xs k zz14]
       first | exact h.sub SubC.h SubC.h | exact h.sub zz8 zz8
    ·
     (show 16 - (k + 1) < 16 - k); omega
   ·
    simp only [decide_eq_false_iff_not] at hc10
    obtain rfl : k = 16 := by omega
    have htk : xs.take 16 = xs := List.take_of_length_le zz14
    rw [htk]
    refine wpc_exit ?_
    refine ex_then_exit ?_
    refine ex_then_exit ?_
    refine ex_block_hit ?_
    refine ex_then <| wpc_seq <| wpc_region <| wpl_q (q_pure rfl) rfl <| wpl_q (q_pure rfl) rfl <| wpl_q (q8_conv Tryd.underlying3 Tryd.underlying5 rfl) rfl <| wpl_q (q_pure rfl) rfl <| wpl_q (q8_conv Tryd.underlying3 Tryd.underlying5 rfl) rfl ?_
    refine wpl_tp (t_bsV (v8s [_, _]) Tryd.underlying32 Tryd.ti5 rfl rfl zz19 zz19 rfl (v8s_one _)) rfl (fun b24 p24 => ?_)
    refine wpl_tp (t_apW Tryd.underlying32 Tryd.ti5 rfl zz19 rfl rfl (fun w h => zz13) (v8s_one _) zz1 zz1 _ zz16) rfl (fun b25 p25 => ?_)
    refine wpl_t (t_pur Tryd.hb115 rfl fun w h => refShort _ _ w zz15 zz1) rfl (fun b26 => ?_)
    refine wpl_t0 (t_stA Tryd.ti61 rfl rfl zz0 (v8s_one _) zz0) (fun _ => ?_)
    refine wpl_nil <| ex_then <| wpc_ret ?_
    refine retv1 (.inl rfl) rfl (rv_agg Tryd.underlying61 rfl Tryd.ti61 rfl (fun w h => h.atB) zz0) ?_
    exact fun w h => ⟨rfl, h.below⟩
theorem refChain (xs : List UInt8) (i : Nat) (t : Nat) (w : World) (hxs : xs.length = 16) (ht : t ≤ 1000) :
    Calls Tryd.prog 120 [.agg (v8s xs).toArray, .int .i64 ((i : Nat) : Int), .int .i64 ((t : Nat) : Int)].toArray w (Pur w (.agg (v8s (chainF xs i t)).toArray)) := by
  refine enter (m := 22) (R := Mem w [] [] []) Tryd.func120 rfl rfl (Nat.le_of_ble_eq_true rfl) (Mem.start w) ?_
  refine wpc_seq <| wpc_region ?_
  refine wpl_t (t_box rfl (v8s xs) rfl) rfl (fun b3 => ?_)
  refine wpl_t (t_alloc Tryd.ti61 (v8s (List.replicate 16 0)) (by rfl)) rfl (fun b6 => ?_)
  refine wpl_nil <| ex_then <| wpc_seq <| wpc_region ?_
  refine wpl_q (q_ldN Tryd.underlying61 rfl Tryd.ti61 rfl zz0) rfl ?_
  refine wpl_q (q_pure rfl) rfl ?_
  refine wpl_t (t_pur Tryd.hb113 rfl fun w h => refStep _ _ 255 w zz9) rfl (fun b11 => ?_)
  refine wpl_t (t_alloc Tryd.ti61 (v8s (List.replicate 16 0)) (by rfl)) rfl (fun b7 => ?_)
  refine wpl_t0 (t_stA Tryd.ti61 rfl rfl zz0 (v8s_one _) zz0) (fun _ => ?_)
  refine wpl_nil <| ex_then <| wpc_seq <| wpc_seq <| wpc_region <| wpl_q (q_pure rfl) rfl <| wpl_nil <| ex_then <| wpc_block ?_
  refine wpc_loopc (ι := { x : Nat // (x ≤ t) }) [(1, _), (2, _), (6, _), (7, _)] (fun x Lc => (8, .int .i64 ((x.1 : Nat) : Int)) :: Lc) (fun x => Mem w [] [.blk b7 61 (v8s (chainF xs i x.1)), .blk b6 61 (v8s (List.replicate 16 0)), .blk b3 61 (v8s xs)] []) (fun x => t - x.1) ⟨0, zz18⟩ zz10 ?_ ?_
  ·
   exact fun w h => h
  ·
   rintro ⟨n, hi0⟩; try dsimp only
   have hi0 : n ≤ t := hi0
   have hcl := chainF_length xs i n
   refine wpc_seq <| wpc_seq <| wpc_region <| wpl_q (q_pure rfl) rfl <| wpl_q (q_pure rfl) rfl <| wpl_q (q_pure rfl) rfl <| wpl_nil <| ex_then ?_
   refine wpc_cond rfl (fun hc14 => ?_) (fun hc14 => ?_)
   ·
    simp only [decide_eq_true_eq] at hc14
    refine wpc_skip <| ex_then <| wpc_seq <| wpc_block <| wpc_region ?_
    refine wpl_q (q_ldN Tryd.underlying61 rfl Tryd.ti61 rfl zz0) rfl ?_
    refine wpl_q (q_pure rfl) rfl <| wpl_q (q_pure rfl) rfl ?_
    refine wpl_t (t_pur Tryd.hb113 rfl fun w h => refStep _ _ _ w zz9) rfl (fun b20 => ?_)
    refine wpl_t0 (t_stA Tryd.ti61 rfl rfl zz0 (v8s_one _) zz0) (fun _ => ?_)
    refine wpl_nil <| ex_block <| ex_then <| wpc_region <| wpl_q (q_pure rfl) rfl ?_
    refine wpl_q (q_addN (b := 1) rfl rfl zz1) rfl ?_
    refine wpl_q (q_pure rfl) rfl <| wpl_nil ?_
    refine ex_again ⟨n + 1, zz18⟩ ?_ ?_ ?_
    ·
     exact zz10
    ·
     exact fun w h => by
       have e : stepF (chainF xs i n) i n = chainF xs i (n + 1) := by rw [chainF, chainF, climbF, Nat.zero_add]
       rw [e] at h; exact h
    ·
     (show t - (n + 1) < t - n); omega
   ·
    simp only [decide_eq_false_iff_not] at hc14
    obtain rfl : n = t := by omega
    refine wpc_exit ?_
    refine ex_then_exit ?_
    refine ex_then_exit ?_
    refine ex_block_hit ?_
    refine ex_then <| wpc_seq <| wpc_region ?_
    refine wpl_q (q_ldN Tryd.underlying61 rfl Tryd.ti61 rfl zz0) rfl ?_
    refine wpl_t0 (t_stA Tryd.ti61 rfl rfl zz0 (v8s_one _) zz0) (fun _ => ?_)
    refine wpl_nil <| ex_then <| wpc_ret ?_
    refine retv1 (.inl rfl) rfl (rv_agg Tryd.underlying61 rfl Tryd.ti61 rfl (fun w h => h.atB) zz0) ?_
    exact fun w h => ⟨rfl, h.below⟩
theorem refJoined (cv : Value) (l : List (List UInt8)) (w : World) (hcv : Seen w.cell? cv l.length 16 (v8s l.flatten)) (hll : ∀ x ∈ l, x.length = 16) (hlb : l.length ≤ 1000000) :
    Calls Tryd.prog 114 [cv].toArray w (Pur w (.agg (v8s (shortF l.flatten)).toArray)) := by
  have scv := hcv.sv
  have lcv := scv.le
  simp only [maxLen] at lcv
  refine enter (m := 27) (R := Mem w [] [] []) Tryd.func114 rfl rfl (Nat.le_of_ble_eq_true rfl) (Mem.start w) ?_
  refine wpc_seq <| wpc_region ?_
  refine wpl_t (t_alloc Tryd.ti61 (v8s (List.replicate 16 0)) (by rfl)) rfl (fun b2 => ?_)
  refine wpl_nil <| ex_then <| wpc_seq <| wpc_region <| wpl_q (q_pure rfl) rfl <| wpl_nil <| ex_then <| wpc_seq <| wpc_seq <| wpc_region <| wpl_q (q_pure rfl) rfl <| wpl_nil ?_
  refine ex_then <| wpc_block ?_
  refine wpc_loopc (ι := { x : Nat × Value // (x.1 ≤ l.length) ∧ (SV x.2 (upto l x.1 0).length) }) [(0, _), (2, _)] (fun x Lc => (4, .int .i64 ((x.1.1 : Nat) : Int)) :: (3, x.1.2) :: Lc) (fun x => Mem w [] [.row x.1.2 (upto l x.1.1 0).length 5 1 (v8s (upto l x.1.1 0)), .blk b2 61 (v8s (List.replicate 16 0))] []) (fun x => l.length - x.1.1) ⟨(0, .slice none 0 0), ⟨Nat.zero_le _, SV.nil⟩⟩ zz10 ?_ ?_
  ·
   exact fun w h => h.nilRow 5 1
  ·
   rintro ⟨⟨i, v⟩, ⟨hi0, hi1⟩⟩; try dsimp only
   have hi0 : i ≤ l.length := hi0; have hi1 : SV v (upto l i 0).length := hi1
   refine wpc_seq <| wpc_seq <| wpc_region <| wpl_q (q_pure rfl) rfl <| wpl_q (q_pure rfl) rfl ?_
   refine wpl_q (q_lenW Tryd.underlying64 rfl zz4) rfl ?_
   refine wpl_q (q_pure rfl) rfl <| wpl_nil <| ex_then ?_
   refine wpc_cond rfl (fun hc9 => ?_) (fun hc9 => ?_)
   ·
    simp only [decide_eq_true_eq] at hc9
    have hil : i < l.length := by omega
    have hgl := getD_mem_len hll hil
    have hiv := hi1
    refine wpc_skip <| ex_then <| wpc_seq <| wpc_block <| wpc_seq <| wpc_region <| wpl_q (q_pure rfl) rfl <| wpl_nil <| ex_then <| wpc_block ?_
    refine wpc_loopc (ι := { x : Nat × Value // (x.1 ≤ 16) ∧ (SV x.2 (upto l i x.1).length) }) [(0, _), (2, _), (4, _)] (fun x Lc => (5, .int .i64 ((x.1.1 : Nat) : Int)) :: (3, x.1.2) :: Lc) (fun x => Mem w [] [.row x.1.2 (upto l i x.1.1).length 5 1 (v8s (upto l i x.1.1)), .blk b2 61 (v8s (List.replicate 16 0))] []) (fun x => 16 - x.1.1) ⟨(0, v), ⟨Nat.zero_le _, hiv⟩⟩ zz10 ?_ ?_
    ·
     exact fun w h => h
    ·
     rintro ⟨⟨k, v1⟩, ⟨hi0, hi1⟩⟩; try dsimp only
     have hi0 : k ≤ 16 := hi0; have hi1 : SV v1 (upto l i k).length := hi1
     have hul := upto_len l i k hll
     refine wpc_seq <| wpc_seq <| wpc_region <| wpl_q (q_pure rfl) rfl <| wpl_q (q_pure rfl) rfl <| wpl_nil <| ex_then ?_
     refine wpc_cond rfl (fun hc13 => ?_) (fun hc13 => ?_)
     ·
      try simp only [decide_eq_true_eq, decide_eq_false_iff_not, Bool.and_eq_true, Bool.or_eq_true, beq_iff_eq, bne_iff_ne, ne_eq, Bool.not_eq_true', Bool.not_eq_false', Decidable.not_not] at hc13
      refine wpc_skip <| ex_then <| wpc_seq <| wpc_block <| wpc_region <| wpl_q (q_pure rfl) rfl <| wpl_q (q_pure rfl) rfl <| wpl_q (q_pure rfl) rfl <| wpl_q (q_pure rfl) rfl ?_
      refine wpl_q (q_idxW Tryd.underlying64 Tryd.ti61 rfl rfl zz4 zz1) rfl ?_
      refine wpl_q (q_idxP1 Tryd.underlying61 Tryd.ti5 rfl rfl zz14) rfl ?_
      refine wpl_q (q_ldWF Tryd.underlying5 rfl rfl (fun w h => zz13) (get2 hll hil zz14)) rfl ?_
      refine wpl_tp (t_bsV (v8s [_]) Tryd.underlying32 Tryd.ti5 rfl rfl zz19 zz19 rfl (v8s_one _)) rfl (fun b23 p23 => ?_)
      refine wpl_tp (t_apW Tryd.underlying32 Tryd.ti5 rfl zz19 rfl rfl (fun w h => zz13) (v8s_one _) zz1 zz1 _ zz16) rfl (fun b24 p24 => ?_)
      refine wpl_q (q_pure rfl) rfl <| wpl_nil <| ex_block <| ex_then <| wpc_region <| wpl_q (q_pure rfl) rfl ?_
      refine wpl_q (q_addN (b := 1) rfl rfl zz1) rfl ?_
      refine wpl_q (q_pure rfl) rfl <| wpl_nil ?_
      refine ex_again ⟨(k + 1, b24), ⟨zz14, by rw [← upto_step l i k hll hil zz14, List.length_append]; exact p24⟩⟩ ?_ ?_ ?_
      ·
       exact zz10
      ·
       exact fun w h => by
         dsimp only
         rw [← upto_step l i k hll hil zz14, List.length_append]; first | exact h.sub SubC.h SubC.h | exact h.sub zz8 zz8
      ·
       (show 16 - (k + 1) < 16 - k); omega
     ·
      simp only [decide_eq_false_iff_not] at hc13
      obtain rfl : k = 16 := by omega
      refine wpc_exit ?_
      refine ex_then_exit ?_
      refine ex_then_exit ?_
      refine ex_block_hit ?_
      refine ex_block <| ex_then <| wpc_region <| wpl_q (q_pure rfl) rfl ?_
      refine wpl_q (q_addN (b := 1) rfl rfl zz1) rfl ?_
      refine wpl_q (q_pure rfl) rfl <| wpl_nil ?_
      refine ex_again ⟨(i + 1, v1), ⟨zz14, by rw [← upto_next l i hll hil]; exact hi1⟩⟩ ?_ ?_ ?_
      ·
       exact zz10
      ·
       exact fun w h => by
         dsimp only
         rw [← upto_next l i hll hil]; exact h
      ·
       (show l.length - (i + 1) < l.length - i); omega
   ·
    simp only [decide_eq_false_iff_not] at hc9
    obtain rfl : i = l.length := by omega
    have hfl : l.flatten.length = l.length * 16 := flat_len l hll
    have hup : upto l l.length 0 = l.flatten := by unfold upto; rw [List.take_zero, List.append_nil, List.take_of_length_le (Nat.le_refl _)]
    refine wpc_mono (R' := Mem w [] [.row v l.flatten.length 5 1 (v8s l.flatten), .blk b2 61 (v8s (List.replicate 16 0))] []) (fun _ h => by rw [hup] at h; exact h) ?_
    refine wpc_exit ?_
    refine ex_then_exit ?_
    refine ex_then_exit ?_
    refine ex_block_hit ?_
    refine ex_then <| wpc_seq <| wpc_region <| wpl_q (q_pure rfl) rfl ?_
    refine wpl_t (t_pur Tryd.hb115 rfl fun w h => refShort _ _ w zz15 zz1) rfl (fun b26 => ?_)
    refine wpl_t0 (t_stA Tryd.ti61 rfl rfl zz0 (v8s_one _) zz0) (fun _ => ?_)
    refine wpl_nil <| ex_then <| wpc_ret ?_
    refine retv1 (.inl rfl) rfl (rv_agg Tryd.underlying61 rfl Tryd.ti61 rfl (fun w h => h.atB) zz0) ?_
    exact fun w h => ⟨rfl, h.below⟩
theorem refPublic (xs : List UInt8) (w : World) (hxs : xs.length = 16)  :
    Calls Tryd.prog 119 [.agg (v8s xs).toArray].toArray w (Pur w (.agg (v8s (publicF xs)).toArray)) := by
  refine enter (m := 17) (R := Mem w [] [] []) Tryd.func119 rfl rfl (Nat.le_of_ble_eq_true rfl) (Mem.start w) ?_
  refine wpc_seq <| wpc_region ?_
  refine wpl_t (t_box rfl (v8s xs) rfl) rfl (fun b1 => ?_)
  refine wpl_t (t_alloc Tryd.ti61 (v8s (List.replicate 16 0)) (by rfl)) rfl (fun b2 => ?_)
  refine wpl_nil <| ex_then <| wpc_seq <| wpc_region <| wpl_q (q_pure rfl) rfl <| wpl_nil <| ex_then <| wpc_seq <| wpc_seq <| wpc_region <| wpl_q (q_pure rfl) rfl <| wpl_nil ?_
  refine ex_then <| wpc_block ?_
  refine wpc_loopc (ι := { x : Nat × Value // (x.1 ≤ 35) ∧ (SV x.2 x.1) }) [(1, _), (2, _)] (fun x Lc => (4, .int .i64 ((x.1.1 : Nat) : Int)) :: (3, x.1.2) :: Lc) (fun x => Mem w [] [.row x.1.2 x.1.1 61 16 (v8s (kacc (fun q => chainF xs q 15) x.1.1).flatten), .blk b2 61 (v8s (List.replicate 16 0)), .blk b1 61 (v8s xs)] []) (fun x => 35 - x.1.1) ⟨(0, .slice none 0 0), ⟨Nat.zero_le _, SV.nil⟩⟩ zz10 ?_ ?_
  ·
   exact fun w h => h.nilRow 61 16
  ·
   rintro ⟨⟨i, v⟩, ⟨hi0, hi1⟩⟩; try dsimp only
   have hi0 : i ≤ 35 := hi0; have hi1 : SV v i := hi1
   refine wpc_seq <| wpc_seq <| wpc_region <| wpl_q (q_pure rfl) rfl <| wpl_q (q_pure rfl) rfl <| wpl_nil <| ex_then ?_
   refine wpc_cond rfl (fun hc6 => ?_) (fun hc6 => ?_)
   ·
    try simp only [decide_eq_true_eq, decide_eq_false_iff_not, Bool.and_eq_true, Bool.or_eq_true, beq_iff_eq, bne_iff_ne, ne_eq, Bool.not_eq_true', Bool.not_eq_false', Decidable.not_not] at hc6
    refine wpc_skip <| ex_then <| wpc_seq <| wpc_block <| wpc_region <| wpl_q (q_pure rfl) rfl ?_
    refine wpl_q (q_ldN Tryd.underlying61 rfl Tryd.ti61 rfl zz0) rfl ?_
    refine wpl_q (q_pure rfl) rfl ?_
    refine wpl_t (t_pur Tryd.hb120 rfl fun w h => refChain _ _ 15 w zz9 zz14) rfl (fun b12 => ?_)
    refine wpl_tp (t_bsS [chainF xs i 15] Tryd.underlying64 Tryd.ti61 rfl zz19 rfl zz19 zz19 rfl (all_one (chainF_length _ _ _))) rfl (fun b13 p13 => ?_)
    refine wpl_tp (t_apW Tryd.underlying64 Tryd.ti61 rfl zz19 rfl rfl (fun w h => zz13) zz17 zz1 zz1 _ zz16) rfl (fun b14 p14 => ?_)
    refine wpl_q (q_pure rfl) rfl <| wpl_nil <| ex_block <| ex_then <| wpc_region <| wpl_q (q_pure rfl) rfl ?_
    refine wpl_q (q_addN (b := 1) rfl rfl zz1) rfl ?_
    refine wpl_q (q_pure rfl) rfl <| wpl_nil ?_
    refine ex_again ⟨(i + 1, b14), ⟨zz14, p14⟩⟩ ?_ ?_ ?_
    ·
     exact zz10
    ·
     exact fun w h => by
       dsimp only
       rw [kacc_succ, List.flatten_append]
       first | exact h.sub SubC.h SubC.h | exact h.sub zz8 zz8
    ·
     (show 35 - (i + 1) < 35 - i); omega
   ·
    simp only [decide_eq_false_iff_not] at hc6
    obtain rfl : i = 35 := by omega
    have hka := kacc_all (fun q => chainF xs q 15) 35 (fun q _ => chainF_length xs q 15)
    have hkl := kacc_length (fun q => chainF xs q 15) 35
    have hkf : (kacc (fun q => chainF xs q 15) 35).flatten = accF (fun q => chainF xs q 15) 35 := accF_flat _ _
    refine wpc_exit ?_
    refine ex_then_exit ?_
    refine ex_then_exit ?_
    refine ex_block_hit ?_
    refine ex_then <| wpc_seq <| wpc_region <| wpl_q (q_pure rfl) rfl ?_
    refine wpl_t (t_pur Tryd.hb114 rfl fun w h => refJoined _ _ w zz15 (by first | assumption | exact signF_all _ _ | exact sg_all _ _) zz1) rfl (fun b16 => ?_)
    refine wpl_t0 (t_stA Tryd.ti61 rfl rfl zz0 (v8s_one _) zz0) (fun _ => ?_)
    refine wpl_nil <| ex_then <| wpc_ret ?_
    refine retv1 (.inl rfl) rfl (rv_agg Tryd.underlying61 rfl Tryd.ti61 rfl (fun w h => h.atB) zz0) ?_
    exact fun w h => ⟨by rw [publicF, ← hkf], h.below⟩
theorem refSign (xs : List UInt8) (bv : Value) (bs : List UInt8) (w : World) (hxs : xs.length = 16) (hbv : Seen w.cell? bv bs.length 1 (v8s bs)) (hlb : bs.length ≤ 1000000000) :
    Calls Tryd.prog 100 [.agg (v8s xs).toArray, bv].toArray w (GivesP w (fun v => SV v 35) (fun v : Value => v) (fun v => [.row v 35 61 16 (v8s (signF xs bs).flatten)]) (fun _ => [])) := by
  have sbv := hbv.sv
  have lbv := sbv.le
  simp only [maxLen] at lbv
  refine enter (m := 25) (R := Mem w [] [] []) Tryd.func100 rfl rfl (Nat.le_of_ble_eq_true rfl) (Mem.start w) ?_
  refine wpc_seq <| wpc_region ?_
  refine wpl_t (t_box rfl (v8s xs) rfl) rfl (fun b2 => ?_)
  refine wpl_q (q_pure rfl) rfl <| wpl_nil <| ex_then <| wpc_seq <| wpc_region <| wpl_q (q_pure rfl) rfl ?_
  refine wpl_tp (t_callP1 Tryd.hb112 rfl fun w h => refDigits _ _ w zz15 zz1) rfl (fun b9 p9 => ?_)
  refine wpl_q (q_pure rfl) rfl <| wpl_nil <| ex_then <| wpc_seq <| wpc_region <| wpl_q (q_pure rfl) rfl <| wpl_nil <| ex_then <| wpc_seq <| wpc_seq <| wpc_region <| wpl_q (q_pure rfl) rfl ?_
  refine wpl_nil <| ex_then <| wpc_block ?_
  refine wpc_loopc (ι := { x : Nat × Value // (x.1 ≤ 35) ∧ (SV x.2 x.1) }) [(2, _), (5, _)] (fun x Lc => (7, .int .i64 ((x.1.1 : Nat) : Int)) :: (6, x.1.2) :: Lc) (fun x => Mem w [] [.row x.1.2 x.1.1 61 16 (v8s (sg xs bs x.1.1).flatten), .row b9 35 3 1 (vns (digsF (shortF bs))), .blk b2 61 (v8s xs)] []) (fun x => 35 - x.1.1) ⟨(0, .slice none 0 0), ⟨Nat.zero_le _, SV.nil⟩⟩ zz10 ?_ ?_
  ·
   exact fun w h => h.nilRow 61 16
  ·
   rintro ⟨⟨i, v⟩, ⟨hi0, hi1⟩⟩; try dsimp only
   have hi0 : i ≤ 35 := hi0; have hi1 : SV v i := hi1
   have hdl := digsF_length (shortF bs)
   have hdg : (digsF (shortF bs)).getD i 0 ≤ 15 := dig_le bs i
   refine wpc_seq <| wpc_seq <| wpc_region <| wpl_q (q_pure rfl) rfl <| wpl_q (q_pure rfl) rfl <| wpl_nil <| ex_then ?_
   refine wpc_cond rfl (fun hc11 => ?_) (fun hc11 => ?_)
   ·
    try simp only [decide_eq_true_eq, decide_eq_false_iff_not, Bool.and_eq_true, Bool.or_eq_true, beq_iff_eq, bne_iff_ne, ne_eq, Bool.not_eq_true', Bool.not_eq_false', Decidable.not_not] at hc11
    refine wpc_skip <| ex_then <| wpc_seq <| wpc_block ?_
    refine wpc_draw 9 zz6 (fun _ h => h.drew) ?_
    refine wpd_p 0 rfl zz6 trivial (q_pure rfl) rfl sk0 ?_
    refine wpd_qB 1 [7, 8, 9] rfl zz6 trivial (q_ldN Tryd.underlying61 rfl Tryd.ti61 rfl zz0) rfl (fun _ h => h) ?_
    refine wpd_p 2 rfl zz6 trivial (q_pure rfl) rfl sk0 ?_
    refine wpd_p 3 rfl zz6 trivial (q_pure rfl) rfl sk0 ?_
    refine wpd_p 4 rfl zz6 trivial (q_pure rfl) rfl sk0 ?_
    refine wpd_p 5 rfl zz6 trivial (q_idxW1 Tryd.underlying124 Tryd.ti3 rfl rfl zz4 zz1) rfl sk0 ?_
    refine wpd_qB 6 [7, 8, 9] rfl zz6 trivial (q_ldW Tryd.underlying3 rfl rfl (fun w h => zz13) zz34) rfl (fun _ h => h) ?_
    refine wpd_t 7 rfl zz6 trivial (t_pur Tryd.hb120 rfl fun w h => refChain _ _ _ w zz9 zz14) rfl (fun _ => sk0) (fun b21 => ?_)
    refine wpd_tp 8 rfl zz6 trivial (t_bsS [_] Tryd.underlying64 Tryd.ti61 rfl zz19 rfl zz19 zz19 rfl (all_one zz9)) rfl (fun _ => (fun w h => .inr (h.sub SubC.h SubC.h))) (fun b22 p22 => ?_)
    refine wpd_tp 9 rfl zz6 trivial (t_apW Tryd.underlying64 Tryd.ti61 rfl zz19 rfl rfl (fun w h => zz13) zz17 zz1 zz1 _ zz16) rfl (fun _ => skk rfl) (fun b23 p23 => ?_)
    refine wpd_p 10 rfl zz6 trivial (q_pure rfl) rfl (skk rfl) ?_
    refine wpd_done zz6 ?_
    refine ex_block <| ex_then <| wpc_region <| wpl_q (q_pure rfl) rfl ?_
    refine wpl_q (q_addN (b := 1) rfl rfl zz1) rfl ?_
    refine wpl_q (q_pure rfl) rfl <| wpl_nil ?_
    refine ex_again ⟨(i + 1, b23), ⟨zz14, p23⟩⟩ ?_ ?_ ?_
    ·
     exact zz10
    ·
     exact fun w h => by
       dsimp only
       rw [sg_succ, List.flatten_append]
       first | exact h.sub SubC.h SubC.h | exact h.sub zz8 zz8
    ·
     (show 35 - (i + 1) < 35 - i); omega
   ·
    simp only [decide_eq_false_iff_not] at hc11
    obtain rfl : i = 35 := by omega
    refine wpc_exit ?_
    refine ex_then_exit ?_
    refine ex_then_exit ?_
    refine ex_block_hit ?_
    refine ex_then <| wpc_seq <| wpc_region <| wpl_q (q_pure rfl) rfl <| wpl_q (q_pure rfl) rfl <| wpl_nil <| ex_then <| wpc_ret ?_
    refine ret1 (.inl rfl) rfl rfl ?_
    exact fun w h => ⟨v, hi1, rfl, h.below, h.made (.keep .nil) .nil⟩
theorem refSame6 (av : Value) (xs : List (List UInt8)) (bv : Value) (ys : List (List UInt8)) (w : World) (hav : Seen w.cell? av xs.length 16 (v8s xs.flatten)) (hlxs : ∀ x ∈ xs, x.length = 16) (hbv : Seen w.cell? bv ys.length 16 (v8s ys.flatten)) (hlys : ∀ x ∈ ys, x.length = 16)  :
    Calls Tryd.prog 70 [av, bv].toArray w (Pur w (.bool (decide (xs = ys)))) := by
  have sav := hav.sv
  have lav := sav.le
  simp only [maxLen] at lav
  have sbv := hbv.sv
  have lbv := sbv.le
  simp only [maxLen] at lbv
  refine enter (m := 26) (R := Mem w [] [] []) Tryd.func70 rfl rfl (Nat.le_of_ble_eq_true rfl) (Mem.start w) ?_
  refine wpc_seq <| wpc_region <| wpl_q (q_pure rfl) rfl <| wpl_nil <| ex_then <| wpc_seq <| wpc_seq <| wpc_region <| wpl_q (q_pure rfl) rfl ?_
  refine wpl_q (q_lenW Tryd.underlying64 rfl zz4) rfl ?_
  refine wpl_q (q_pure rfl) rfl ?_
  refine wpl_q (q_lenW Tryd.underlying64 rfl zz4) rfl ?_
  refine wpl_q (q_pure rfl) rfl <| wpl_nil <| ex_then ?_
  refine wpc_cond rfl (fun hc10 => ?_) (fun hc10 => ?_)
  ·
   simp only [decide_eq_true_eq, bne_iff_ne, ne_eq] at hc10
   have hne : xs ≠ ys := fun e => hc10 (by rw [e])
   refine wpc_seq <| wpc_region <| wpl_q (q_pure rfl) rfl <| wpl_nil <| ex_then <| wpc_ret ?_
   refine ex_then_ret ?_
   refine ret1 (.inl rfl) rfl rfl ?_
   exact fun w h => ⟨by simp [hne], h.below⟩
  ·
   simp only [bne_eq_false_iff_eq] at hc10
   have hl : xs.length = ys.length := by omega
   refine wpc_skip <| ex_then <| wpc_seq <| wpc_seq <| wpc_region <| wpl_q (q_pure rfl) rfl <| wpl_nil <| ex_then <| wpc_block ?_
   refine wpc_loopc (ι := { x : Nat // (x ≤ xs.length) ∧ (xs.take x = ys.take x) }) [(0, _), (1, _)] (fun x Lc => (5, .int .i64 ((x.1 : Nat) : Int)) :: Lc) (fun x => Mem w [] [] []) (fun x => xs.length - x.1) ⟨0, ⟨Nat.zero_le _, rfl⟩⟩ zz10 ?_ ?_
   ·
    exact fun w h => h
   ·
    rintro ⟨i, ⟨hi0, hi1⟩⟩; try dsimp only
    have hi0 : i ≤ xs.length := hi0; have hi1 : xs.take i = ys.take i := hi1
    refine wpc_seq <| wpc_seq <| wpc_region <| wpl_q (q_pure rfl) rfl <| wpl_q (q_pure rfl) rfl ?_
    refine wpl_q (q_lenW Tryd.underlying64 rfl zz4) rfl ?_
    refine wpl_q (q_pure rfl) rfl <| wpl_nil <| ex_then ?_
    refine wpc_cond rfl (fun hc14 => ?_) (fun hc14 => ?_)
    ·
     simp only [decide_eq_true_eq] at hc14
     have g1 := getD_mem_len hlxs (i := i) zz14
     have g2 := getD_mem_len hlys (i := i) zz14
     refine wpc_skip <| ex_then <| wpc_seq <| wpc_block <| wpc_seq ?_
     refine wpc_draw 9 zz6 (fun _ h => h.drew) ?_
     refine wpd_p 0 rfl zz6 trivial (q_pure rfl) rfl sk0 ?_
     refine wpd_p 1 rfl zz6 trivial (q_pure rfl) rfl sk0 ?_
     refine wpd_p 2 rfl zz6 trivial (q_idxW Tryd.underlying64 Tryd.ti61 rfl rfl zz4 zz1) rfl sk0 ?_
     refine wpd_q 3 rfl zz6 trivial (q_ldWN Tryd.underlying61 rfl Tryd.ti61 rfl (fun w h => zz13) (v8s (xs.getD i [])) (part8 hlxs zz14) ((v8s_length _).trans g1)) rfl (fun _ h => h) ?_
     refine wpd_p 4 rfl zz6 trivial (q_pure rfl) rfl sk0 ?_
     refine wpd_p 5 rfl zz6 trivial (q_pure rfl) rfl sk0 ?_
     refine wpd_p 6 rfl zz6 trivial (q_idxW Tryd.underlying64 Tryd.ti61 rfl rfl zz4 zz1) rfl sk0 ?_
     refine wpd_q 7 rfl zz6 trivial (q_ldWN Tryd.underlying61 rfl Tryd.ti61 rfl (fun w h => zz13) (v8s (ys.getD i [])) (part8 hlys zz14) ((v8s_length _).trans g2)) rfl (fun _ h => h) ?_
     refine wpd_p 8 rfl zz6 trivial (q_ne8 eq8_61 zz6 rfl rfl zz27 zz27) rfl sk0 ?_
     refine wpd_done zz6 ?_
     refine ex_then ?_
     refine wpc_cond rfl (fun hc25 => ?_) (fun hc25 => ?_)
     ·
      simp only [Bool.not_eq_true', decide_eq_false_iff_not] at hc25
      have hne : xs ≠ ys := fun e => hc25 (by rw [e])
      refine wpc_seq <| wpc_region <| wpl_q (q_pure rfl) rfl <| wpl_nil <| ex_then <| wpc_ret ?_
      refine ex_block_ret ?_
      refine ex_then_ret ?_
      refine ex_then_ret ?_
      refine ex_block_ret ?_
      refine ex_then_ret ?_
      refine ret1 (.inl rfl) rfl rfl ?_
      exact fun w h => ⟨by simp [hne], h.below⟩
     ·
      simp only [Bool.not_eq_false', decide_eq_true_eq] at hc25
      refine wpc_skip <| ex_block <| ex_then <| wpc_region <| wpl_q (q_pure rfl) rfl ?_
      refine wpl_q (q_addN (b := 1) rfl rfl zz1) rfl ?_
      refine wpl_q (q_pure rfl) rfl <| wpl_nil ?_
      refine ex_again ⟨i + 1, ⟨zz14, sameS_step xs ys i hi1 zz14 zz14 hc25⟩⟩ ?_ ?_ ?_
      ·
       exact zz10
      ·
       exact fun w h => by first | exact h | exact h.sub SubC.h SubC.h | exact h.sub zz8 zz8
      ·
       (show xs.length - (i + 1) < xs.length - i); omega
    ·
     simp only [decide_eq_false_iff_not] at hc14
     obtain rfl : i = xs.length := by omega
     have heq : xs = ys := by rw [List.take_length, hl, List.take_length] at hi1; exact hi1
     refine wpc_exit ?_
     refine ex_then_exit ?_
     refine ex_then_exit ?_
     refine ex_block_hit ?_
     refine ex_then <| wpc_seq <| wpc_region <| wpl_q (q_pure rfl) rfl <| wpl_nil <| ex_then <| wpc_ret ?_
     refine ret1 (.inl rfl) rfl rfl ?_
     exact fun w h => ⟨by simp [heq], h.below⟩
end Go.Proofs.YtjpfhkjmjnjggaaDoor
namespace Go.Proofs.YtjpfhkjmjnjggaaDoor
open Go Go.PL Go.RowKit
def joinedF (a b : List UInt8) : List UInt8 := shortF ([1] ++ a ++ b)
instance l16_short {s : List UInt8} : L16 (shortF s) := ⟨shortF_length s⟩
instance l16_pub {s : List UInt8} : L16 (publicF s) := ⟨publicF_length s⟩
theorem joinedF_length (a b : List UInt8) : (joinedF a b).length = 16 := by rw [joinedF]; exact shortF_length _
instance l16_joined {a b : List UInt8} : L16 (joinedF a b) := ⟨joinedF_length a b⟩
def checkF (ht idx : Int) (nc np : Nat) : Int := if 0 ≤ ht ∧ ht ≤ 4 then (if 0 ≤ idx ∧ idx < ((2 ^ ht.toNat : Nat) : Int) ∧ nc = 35 ∧ (np : Int) = ht then 0 else 12) else 2
theorem check_2 {ht idx : Int} {nc np : Nat} (h : ¬ (0 ≤ ht ∧ ht ≤ 4)) : checkF ht idx nc np = 2 := if_neg h
theorem check_in {m : Nat} {idx : Int} {nc np : Nat} (h : (m : Int) ≤ 4) : checkF m idx nc np = if 0 ≤ idx ∧ idx < ((2 ^ m : Nat) : Int) ∧ nc = 35 ∧ np = m then 0 else 12 := by
  unfold checkF
  rw [if_pos ⟨Int.natCast_nonneg m, h⟩, Int.toNat_natCast]
  simp only [Int.ofNat_inj]
theorem check_12 {m : Nat} {idx : Int} {nc np : Nat} (h : (m : Int) ≤ 4) (hn : ¬ (0 ≤ idx ∧ idx < ((2 ^ m : Nat) : Int) ∧ nc = 35 ∧ np = m)) : checkF m idx nc np = 12 := (check_in h).trans (if_neg hn)
theorem check_0 {m : Nat} {idx : Int} {nc np : Nat} (h : (m : Int) ≤ 4) (hn : 0 ≤ idx ∧ idx < ((2 ^ m : Nat) : Int) ∧ nc = 35 ∧ np = m) : checkF m idx nc np = 0 := (check_in h).trans (if_pos hn)
theorem pow_le16 {m : Nat} (h : m ≤ 4) : 2 ^ m ≤ 16 := Nat.le_trans (Nat.pow_le_pow_right zz19 h) zz19
theorem good (ht : Int) (w : World)   :
    Calls Tryd.prog 65 [.int .i64 ht].toArray w (Pur w (.bool (decide (0 ≤ ht ∧ ht ≤ 4)))) := by
  refine enter (m := 9) (R := Mem w [] [] []) Tryd.func65 rfl rfl (Nat.le_of_ble_eq_true rfl) (Mem.start w) ?_
  refine wpc_seq <| wpc_region <| wpl_q (q_pure rfl) rfl <| wpl_nil <| ex_then <| wpc_seq <| wpc_region <| wpl_q (q_pure rfl) rfl <| wpl_q (q_pure rfl) rfl <| wpl_q (q_pure rfl) rfl ?_
  refine wpl_bool2 5 4 rfl rfl (fun hb5 => ?_) (fun hb5 => ?_)
  ·
   try simp only [decide_eq_true_eq, decide_eq_false_iff_not, Bool.and_eq_true, Bool.or_eq_true, beq_iff_eq, bne_iff_ne, ne_eq, Bool.not_eq_true', Bool.not_eq_false', Decidable.not_not] at hb5
   refine wpl_on rfl rfl <| wpl_q (q_pure rfl) rfl <| wpl_on rfl rfl <| wpl_q (q_pure rfl) rfl <| wpl_q (q_pure rfl) rfl <| wpl_q (q_pure rfl) rfl <| wpl_nil <| ex_then <| wpc_ret ?_
   refine ret1 (.inl rfl) rfl rfl ?_
   exact fun w h => ⟨by simp; omega, h.below⟩
  ·
   try simp only [decide_eq_true_eq, decide_eq_false_iff_not, Bool.and_eq_true, Bool.or_eq_true, beq_iff_eq, bne_iff_ne, ne_eq, Bool.not_eq_true', Bool.not_eq_false', Decidable.not_not] at hb5
   refine wpl_off rfl rfl rfl rfl <| wpl_off rfl rfl rfl rfl <| wpl_q (q_pure rfl) rfl <| wpl_q (q_pure rfl) rfl <| wpl_nil <| ex_then <| wpc_ret ?_
   refine ret1 (.inl rfl) rfl rfl ?_
   exact fun w h => ⟨by simp; omega, h.below⟩
theorem joined7 (xs : List UInt8) (ys : List UInt8) (w : World) (hxs : xs.length = 16) (hys : ys.length = 16) (hG : Glb w) :
    Calls Tryd.prog 103 [.agg (v8s xs).toArray, .agg (v8s ys).toArray].toArray w (Pur w (.agg (v8s (joinedF xs ys)).toArray)) := by
  refine enter (m := 11) (R := Mem w [] [] []) Tryd.func103 rfl rfl (Nat.le_of_ble_eq_true rfl) (Mem.start w) ?_
  refine wpc_seq <| wpc_region ?_
  refine wpl_t (t_box rfl (v8s xs) rfl) rfl (fun b2 => ?_)
  refine wpl_t (t_box rfl (v8s ys) rfl) rfl (fun b3 => ?_)
  refine wpl_t (t_alloc Tryd.ti61 (v8s (List.replicate 16 0)) (by rfl)) rfl (fun b4 => ?_)
  refine wpl_nil <| ex_then <| wpc_seq ?_
  refine wpc_draw 2 zz6 (fun _ h => h.drew) ?_
  refine wpd_p 1 rfl zz6 trivial (q_arAll Tryd.underlying61 Tryd.ti5 rfl rfl) rfl sk0 ?_
  refine wpd_p 3 rfl zz6 trivial (q_arAll Tryd.underlying61 Tryd.ti5 rfl rfl) rfl sk0 ?_
  refine wpd_tp 0 rfl zz6 trivial (t_bsV (v8s [(1 : UInt8)]) Tryd.underlying32 Tryd.ti5 rfl rfl zz19 zz19 rfl (v8s_one _)) rfl (fun _ => (fun w h => .inr (h.sub SubC.h SubC.h))) (fun b5 p5 => ?_)
  refine wpd_tp 2 rfl zz6 trivial (t_apW Tryd.underlying32 Tryd.ti5 rfl zz19 rfl rfl (fun w h => zz11) (v8s_one _) zz1 zz1 _ zz16) rfl (fun _ => skk rfl) (fun b7 p7 => ?_)
  refine wpd_tp 4 rfl zz6 trivial (t_apW Tryd.underlying32 Tryd.ti5 rfl zz19 rfl rfl (fun w h => zz11) (v8s_one _) zz1 zz1 _ zz16) rfl (fun _ => skk rfl) (fun b9 p9 => ?_)
  refine wpd_t 5 rfl zz6 trivial (t_pur Tryd.hb118 rfl fun w h => shortW _ _ w zz12 (glob h hG)) rfl (fun _ => skk rfl) (fun b10 => ?_)
  refine wpd_t0 6 rfl zz6 trivial (t_stA Tryd.ti61 rfl rfl zz2 (v8s_one _) zz2) (fun _ => skk rfl) (fun _ => ?_)
  refine wpd_done zz6 ?_
  refine ex_then <| wpc_ret ?_
  refine retv1 (.inl rfl) rfl (rv_agg Tryd.underlying61 rfl Tryd.ti61 rfl (fun w h => h.atB) zz2) ?_
  exact fun w h => ⟨rfl, h.below⟩
theorem check7 (ht : Int) (cv pv : Value) (chs ps : List (List UInt8)) (idx : Int) (w : World) (hcv : Seen w.cell? cv chs.length 16 (v8s chs.flatten)) (hlchs : ∀ x ∈ chs, x.length = 16) (hpv : Seen w.cell? pv ps.length 16 (v8s ps.flatten)) (hlps : ∀ x ∈ ps, x.length = 16)  :
    Calls Tryd.prog 43 [.int .i64 ht, .agg #[.int .i64 idx, cv, pv]].toArray w (Pur w (.int .i64 (checkF ht idx chs.length ps.length))) := by
  have scv := hcv.sv
  have lcv := scv.le
  simp only [maxLen] at lcv
  have spv := hpv.sv
  have lpv := spv.le
  simp only [maxLen] at lpv
  refine enter (m := 31) (R := Mem w [] [] []) Tryd.func43 rfl rfl (Nat.le_of_ble_eq_true rfl) (Mem.start w) ?_
  refine wpc_seq <| wpc_region ?_
  refine wpl_t (t_box rfl [.int .i64 idx, cv, pv] rfl) rfl (fun b3 => ?_)
  refine wpl_q (q_pure rfl) rfl <| wpl_nil <| ex_then <| wpc_seq <| wpc_seq <| wpc_region <| wpl_q (q_pure rfl) rfl ?_
  refine wpl_t (t_pur Tryd.hb65 rfl fun w h => good _ w) rfl (fun b6 => ?_)
  refine wpl_q (q_pure rfl) rfl <| wpl_nil <| ex_then ?_
  refine wpc_cond rfl (fun hc7 => ?_) (fun hc7 => ?_)
  ·
   try simp only [decide_eq_true_eq, decide_eq_false_iff_not, Bool.and_eq_true, Bool.or_eq_true, beq_iff_eq, bne_iff_ne, ne_eq, Bool.not_eq_true', Bool.not_eq_false', Decidable.not_not] at hc7
   refine wpc_seq <| wpc_region <| wpl_q (q_pure rfl) rfl <| wpl_nil <| ex_then <| wpc_ret ?_
   refine ex_then_ret ?_
   refine ret1 (.inl rfl) rfl rfl ?_
   exact fun w h => ⟨by rw [check_2 hc7], h.below⟩
  ·
   simp only [Bool.not_eq_false', decide_eq_true_eq] at hc7
   obtain ⟨m, rfl⟩ : ∃ m : Nat, ht = (m : Int) := ⟨ht.toNat, zz14⟩
   have hpw := pow_le16 (m := m) zz14
   refine wpc_skip <| ex_then <| wpc_seq <| wpc_seq ?_
   refine wpc_draw 23 zz6 (fun _ h => h.drew) ?_
   refine wpd_p 0 rfl zz6 trivial (q_field Tryd.underlying66 rfl Tryd.ti3 rfl rfl _ rfl) rfl sk0 ?_
   refine wpd_q 1 rfl zz6 trivial (q_ld Tryd.underlying3 rfl rfl zz34) rfl (fun _ h => h) ?_
   refine wpd_p 2 rfl zz6 trivial (q_pure rfl) rfl sk0 ?_
   refine wpd_p 3 rfl zz6 trivial (q_pure rfl) rfl sk0 ?_
   refine wpd_bool2 11 10 rfl rfl (fun hb11 => ?_) (fun hb11 => ?_)
   ·
    try simp only [decide_eq_true_eq, decide_eq_false_iff_not, Bool.and_eq_true, Bool.or_eq_true, beq_iff_eq, bne_iff_ne, ne_eq, Bool.not_eq_true', Bool.not_eq_false', Decidable.not_not] at hb11
    refine wpd_off 4 rfl zz6 ⟨_, _, rfl, rfl, rfl⟩ rfl sk0 ?_
    refine wpd_off 5 rfl zz6 ⟨_, _, rfl, rfl, rfl⟩ rfl sk0 ?_
    refine wpd_off 6 rfl zz6 ⟨_, _, rfl, rfl, rfl⟩ rfl sk0 ?_
    refine wpd_off 7 rfl zz6 ⟨_, _, rfl, rfl, rfl⟩ rfl sk0 ?_
    refine wpd_off 8 rfl zz6 ⟨_, _, rfl, rfl, rfl⟩ rfl sk0 ?_
    refine wpd_p 9 rfl zz6 trivial (q_pure rfl) rfl sk0 ?_
    refine wpd_p 10 rfl zz6 trivial (q_pure rfl) rfl sk0 ?_
    refine wpd_off 11 rfl zz6 ⟨_, _, rfl, rfl, rfl⟩ rfl sk0 ?_
    refine wpd_off 12 rfl zz6 ⟨_, _, rfl, rfl, rfl⟩ rfl sk0 ?_
    refine wpd_off 13 rfl zz6 ⟨_, _, rfl, rfl, rfl⟩ rfl sk0 ?_
    refine wpd_off 14 rfl zz6 ⟨_, _, rfl, rfl, rfl⟩ rfl sk0 ?_
    refine wpd_p 15 rfl zz6 trivial (q_pure rfl) rfl sk0 ?_
    refine wpd_p 16 rfl zz6 trivial (q_pure rfl) rfl sk0 ?_
    refine wpd_off 17 rfl zz6 ⟨_, _, rfl, rfl, rfl⟩ rfl sk0 ?_
    refine wpd_off 18 rfl zz6 ⟨_, _, rfl, rfl, rfl⟩ rfl sk0 ?_
    refine wpd_off 19 rfl zz6 ⟨_, _, rfl, rfl, rfl⟩ rfl sk0 ?_
    refine wpd_off 20 rfl zz6 ⟨_, _, rfl, rfl, rfl⟩ rfl sk0 ?_
    refine wpd_off 21 rfl zz6 ⟨_, _, rfl, rfl, rfl⟩ rfl sk0 ?_
    refine wpd_p 22 rfl zz6 trivial (q_pure rfl) rfl sk0 ?_
    refine wpd_done zz6 ?_
    refine ex_then ?_
    refine wpc_cond_t rfl ?_
    refine wpc_seq <| wpc_region <| wpl_q (q_pure rfl) rfl <| wpl_nil <| ex_then <| wpc_ret ?_
    refine ex_then_ret ?_
    refine ret1 (.inl rfl) rfl rfl ?_
    exact fun w h => ⟨zz31, h.below⟩
   ·
    try simp only [decide_eq_true_eq, decide_eq_false_iff_not, Bool.and_eq_true, Bool.or_eq_true, beq_iff_eq, bne_iff_ne, ne_eq, Bool.not_eq_true', Bool.not_eq_false', Decidable.not_not] at hb11
    refine wpd_p 4 rfl zz6 ⟨_, rfl, rfl⟩ (q_field Tryd.underlying66 rfl Tryd.ti3 rfl rfl _ rfl) rfl sk0 ?_
    refine wpd_q 5 rfl zz6 ⟨_, rfl, rfl⟩ (q_ld Tryd.underlying3 rfl rfl zz34) rfl (fun _ h => h) ?_
    refine wpd_p 6 rfl zz6 ⟨_, rfl, rfl⟩ (q_pure rfl) rfl sk0 ?_
    refine wpd_p 7 rfl zz6 ⟨_, rfl, rfl⟩ (q_shlN (a := 1) rfl rfl zz30 zz1) rfl sk0 ?_
    refine wpd_p 8 rfl zz6 ⟨_, rfl, rfl⟩ (q_pure rfl) rfl sk0 ?_
    refine wpd_p 9 rfl zz6 trivial (q_pure rfl) rfl sk0 ?_
    refine wpd_p 10 rfl zz6 trivial (q_pure rfl) rfl sk0 ?_
    refine wpd_bool2 18 16 rfl rfl (fun hb18 => ?_) (fun hb18 => ?_)
    ·
     try simp only [decide_eq_true_eq, decide_eq_false_iff_not, Bool.and_eq_true, Bool.or_eq_true, beq_iff_eq, bne_iff_ne, ne_eq, Bool.not_eq_true', Bool.not_eq_false', Decidable.not_not] at hb18
     refine wpd_off 11 rfl zz6 ⟨_, _, rfl, rfl, rfl⟩ rfl sk0 ?_
     refine wpd_off 12 rfl zz6 ⟨_, _, rfl, rfl, rfl⟩ rfl sk0 ?_
     refine wpd_off 13 rfl zz6 ⟨_, _, rfl, rfl, rfl⟩ rfl sk0 ?_
     refine wpd_off 14 rfl zz6 ⟨_, _, rfl, rfl, rfl⟩ rfl sk0 ?_
     refine wpd_p 15 rfl zz6 trivial (q_pure rfl) rfl sk0 ?_
     refine wpd_p 16 rfl zz6 trivial (q_pure rfl) rfl sk0 ?_
     refine wpd_off 17 rfl zz6 ⟨_, _, rfl, rfl, rfl⟩ rfl sk0 ?_
     refine wpd_off 18 rfl zz6 ⟨_, _, rfl, rfl, rfl⟩ rfl sk0 ?_
     refine wpd_off 19 rfl zz6 ⟨_, _, rfl, rfl, rfl⟩ rfl sk0 ?_
     refine wpd_off 20 rfl zz6 ⟨_, _, rfl, rfl, rfl⟩ rfl sk0 ?_
     refine wpd_off 21 rfl zz6 ⟨_, _, rfl, rfl, rfl⟩ rfl sk0 ?_
     refine wpd_p 22 rfl zz6 trivial (q_pure rfl) rfl sk0 ?_
     refine wpd_done zz6 ?_
     refine ex_then ?_
     refine wpc_cond_t rfl ?_
     refine wpc_seq <| wpc_region <| wpl_q (q_pure rfl) rfl <| wpl_nil <| ex_then <| wpc_ret ?_
     refine ex_then_ret ?_
     refine ret1 (.inl rfl) rfl rfl ?_
     exact fun w h => ⟨zz31, h.below⟩
    ·
     try simp only [decide_eq_true_eq, decide_eq_false_iff_not, Bool.and_eq_true, Bool.or_eq_true, beq_iff_eq, bne_iff_ne, ne_eq, Bool.not_eq_true', Bool.not_eq_false', Decidable.not_not] at hb18
     refine wpd_p 11 rfl zz6 ⟨_, rfl, rfl⟩ (q_field Tryd.underlying66 rfl Tryd.ti64 rfl rfl _ rfl) rfl sk0 ?_
     refine wpd_q 12 rfl zz6 ⟨_, rfl, rfl⟩ (q_ld Tryd.underlying64 rfl rfl rfl) rfl (fun _ h => h) ?_
     refine wpd_p 13 rfl zz6 ⟨_, rfl, rfl⟩ (q_lenW Tryd.underlying64 rfl zz4) rfl sk0 ?_
     refine wpd_p 14 rfl zz6 ⟨_, rfl, rfl⟩ (q_pure rfl) rfl sk0 ?_
     refine wpd_p 15 rfl zz6 trivial (q_pure rfl) rfl sk0 ?_
     refine wpd_p 16 rfl zz6 trivial (q_pure rfl) rfl sk0 ?_
     refine wpd_bool2 24 22 rfl rfl (fun hb24 => ?_) (fun hb24 => ?_)
     ·
      try simp only [decide_eq_true_eq, decide_eq_false_iff_not, Bool.and_eq_true, Bool.or_eq_true, beq_iff_eq, bne_iff_ne, ne_eq, Bool.not_eq_true', Bool.not_eq_false', Decidable.not_not] at hb24
      refine wpd_off 17 rfl zz6 ⟨_, _, rfl, rfl, rfl⟩ rfl sk0 ?_
      refine wpd_off 18 rfl zz6 ⟨_, _, rfl, rfl, rfl⟩ rfl sk0 ?_
      refine wpd_off 19 rfl zz6 ⟨_, _, rfl, rfl, rfl⟩ rfl sk0 ?_
      refine wpd_off 20 rfl zz6 ⟨_, _, rfl, rfl, rfl⟩ rfl sk0 ?_
      refine wpd_off 21 rfl zz6 ⟨_, _, rfl, rfl, rfl⟩ rfl sk0 ?_
      refine wpd_p 22 rfl zz6 trivial (q_pure rfl) rfl sk0 ?_
      refine wpd_done zz6 ?_
      refine ex_then ?_
      refine wpc_cond_t rfl ?_
      refine wpc_seq <| wpc_region <| wpl_q (q_pure rfl) rfl <| wpl_nil <| ex_then <| wpc_ret ?_
      refine ex_then_ret ?_
      refine ret1 (.inl rfl) rfl rfl ?_
      exact fun w h => ⟨zz31, h.below⟩
     ·
      try simp only [decide_eq_true_eq, decide_eq_false_iff_not, Bool.and_eq_true, Bool.or_eq_true, beq_iff_eq, bne_iff_ne, ne_eq, Bool.not_eq_true', Bool.not_eq_false', Decidable.not_not] at hb24
      refine wpd_p 17 rfl zz6 ⟨_, rfl, rfl⟩ (q_field Tryd.underlying66 rfl Tryd.ti64 rfl rfl _ rfl) rfl sk0 ?_
      refine wpd_q 18 rfl zz6 ⟨_, rfl, rfl⟩ (q_ld Tryd.underlying64 rfl rfl rfl) rfl (fun _ h => h) ?_
      refine wpd_p 19 rfl zz6 ⟨_, rfl, rfl⟩ (q_lenW Tryd.underlying64 rfl zz4) rfl sk0 ?_
      refine wpd_p 20 rfl zz6 ⟨_, rfl, rfl⟩ (q_pure rfl) rfl sk0 ?_
      refine wpd_p 21 rfl zz6 ⟨_, rfl, rfl⟩ (q_pure rfl) rfl sk0 ?_
      refine wpd_p 22 rfl zz6 trivial (q_pure rfl) rfl sk0 ?_
      refine wpd_done zz6 ?_
      refine ex_then ?_
      refine wpc_cond rfl (fun hc30 => ?_) (fun hc30 => ?_)
      ·
       try simp only [decide_eq_true_eq, decide_eq_false_iff_not, Bool.and_eq_true, Bool.or_eq_true, beq_iff_eq, bne_iff_ne, ne_eq, Bool.not_eq_true', Bool.not_eq_false', Decidable.not_not] at hc30
       refine wpc_seq <| wpc_region <| wpl_q (q_pure rfl) rfl <| wpl_nil <| ex_then <| wpc_ret ?_
       refine ex_then_ret ?_
       refine ret1 (.inl rfl) rfl rfl ?_
       exact fun w h => ⟨zz31, h.below⟩
      ·
       simp only [bne_eq_false_iff_eq, decide_eq_false_iff_not, ne_eq, Decidable.not_not] at hc30 hb24
       refine wpc_skip <| ex_then <| wpc_seq <| wpc_region <| wpl_q (q_pure rfl) rfl <| wpl_nil <| ex_then <| wpc_ret ?_
       refine ret1 (.inl rfl) rfl rfl ?_
       exact fun w h => ⟨by rw [check_0 zz14 zz14], h.below⟩
end Go.Proofs.YtjpfhkjmjnjggaaDoor
namespace Go.Proofs.YtjpfhkjmjnjggaaDoor
open Go Go.PL Go.RowKit
theorem key_height (rs : List UInt8) (ht : Int) (h : rs.length = 16) : (v8s rs ++ [Value.int .i64 ht])[16]? = some (.int .i64 ht) := by
  rw [List.getElem?_append_right (by rw [v8s_length]; omega), v8s_length, h]; rfl
theorem key_root (rs : List UInt8) (ht : Int) (h : rs.length = 16) : ((v8s rs ++ [Value.int .i64 ht]).drop 0).take 16 = v8s rs := by
  rw [List.drop_zero, List.take_left' (by rw [v8s_length]; exact h)]
end Go.Proofs.YtjpfhkjmjnjggaaDoor
namespace Go.Proofs.YtjpfhkjmjnjggaaDoor
open Go Go.PL Go.RowKit
theorem take_getD (l : List UInt8) (i : Nat) (h : i < l.length) : l.take i ++ [l.getD i 0] = l.take (i + 1) := by
  rw [List.take_add_one, List.getD_eq_getElem?_getD, List.getElem?_eq_getElem h]; rfl
def leafF (s : List UInt8) (i : Nat) : List UInt8 := shortF (s ++ [of8 (i : Int), 254, 0])
theorem leafF_length (s : List UInt8) (i : Nat) : (leafF s i).length = 16 := by rw [leafF]; exact shortF_length _
instance l16_leaf {s : List UInt8} {i : Nat} : L16 (leafF s i) := ⟨leafF_length s i⟩
theorem refPower7 (m : Nat) (w : World)  (hm : m ≤ 30) :
    Calls Tryd.prog 69 [.int .i64 ((m : Nat) : Int)].toArray w (Pur w (.int .i64 ((2 ^ m : Nat) : Int))) := by
  refine enter (m := 14) (R := Mem w [] [] []) Tryd.func69 rfl rfl (Nat.le_of_ble_eq_true rfl) (Mem.start w) ?_
  refine wpc_seq <| wpc_region <| wpl_q (q_pure rfl) rfl <| wpl_nil <| ex_then <| wpc_seq <| wpc_region <| wpl_q (q_pure rfl) rfl <| wpl_nil <| ex_then <| wpc_seq <| wpc_seq ?_
  refine wpc_region <| wpl_q (q_pure rfl) rfl <| wpl_nil <| ex_then <| wpc_block ?_
  refine wpc_loopc (ι := { x : Nat × Nat // (x.1 ≤ m) ∧ (x.2 = 2 ^ x.1) }) [(0, _)] (fun x Lc => (4, .int .i64 ((x.1.1 : Nat) : Int)) :: (3, .int .i64 ((x.1.2 : Nat) : Int)) :: Lc) (fun x => Mem w [] [] []) (fun x => m - x.1.1) ⟨(0, 1), ⟨Nat.zero_le _, rfl⟩⟩ zz10 ?_ ?_
  ·
   exact fun w h => h
  ·
   rintro ⟨⟨i, s⟩, ⟨hi0, hi1⟩⟩; try dsimp only
   have hi0 : i ≤ m := hi0; have hi1 : s = 2 ^ i := hi1
   have hp : 2 ^ i ≤ 2 ^ 30 := Nat.pow_le_pow_right zz19 zz14
   refine wpc_seq <| wpc_seq <| wpc_region <| wpl_q (q_pure rfl) rfl <| wpl_q (q_pure rfl) rfl <| wpl_q (q_pure rfl) rfl <| wpl_nil <| ex_then ?_
   refine wpc_cond rfl (fun hc7 => ?_) (fun hc7 => ?_)
   ·
    try simp only [decide_eq_true_eq, decide_eq_false_iff_not, Bool.and_eq_true, Bool.or_eq_true, beq_iff_eq, bne_iff_ne, ne_eq, Bool.not_eq_true', Bool.not_eq_false', Decidable.not_not] at hc7
    refine wpc_skip <| ex_then <| wpc_seq <| wpc_block <| wpc_region <| wpl_q (q_pure rfl) rfl <| wpl_q (q_pure rfl) rfl ?_
    refine wpl_q (q_addN rfl rfl zz1) rfl ?_
    refine wpl_q (q_pure rfl) rfl <| wpl_nil <| ex_block <| ex_then <| wpc_region <| wpl_q (q_pure rfl) rfl ?_
    refine wpl_q (q_addN (b := 1) rfl rfl zz1) rfl ?_
    refine wpl_q (q_pure rfl) rfl <| wpl_nil ?_
    refine ex_again ⟨(i + 1, s + s), ⟨zz14, by rw [Nat.pow_succ]; omega⟩⟩ ?_ ?_ ?_
    ·
     exact zz10
    ·
     exact fun w h => by first | exact h | exact h.sub SubC.h SubC.h | exact h.sub zz8 zz8
    ·
     (show m - (i + 1) < m - i); omega
   ·
    simp only [decide_eq_false_iff_not] at hc7
    obtain rfl : i = m := by omega
    refine wpc_exit ?_
    refine ex_then_exit ?_
    refine ex_then_exit ?_
    refine ex_block_hit ?_
    refine ex_then <| wpc_seq <| wpc_region <| wpl_q (q_pure rfl) rfl <| wpl_q (q_pure rfl) rfl <| wpl_nil <| ex_then <| wpc_ret ?_
    refine ret1 (.inl rfl) rfl rfl ?_
    exact fun w h => ⟨by rw [hi1], h.below⟩
theorem refAdd7 (v : Value) (xs : List UInt8) (ys : List UInt8) (w : World) (hrow : (Ent.row v xs.length 5 1 (v8s xs)).at w) (sv : SV v xs.length) (hxl : xs.length ≤ 1000) (hys : ys.length = 16)  :
    Calls Tryd.prog 116 [v, .agg (v8s ys).toArray].toArray w (GivesR w (.row v xs.length 5 1 (v8s xs)) (xs.length + 16) 5 1 (v8s (xs ++ ys))) := by
  refine enter (m := 17) (R := Mem w (nums [(.row v xs.length 5 1 (v8s xs))]) [(.row v xs.length 5 1 (v8s xs))] []) Tryd.func116 rfl rfl (Nat.le_of_ble_eq_true rfl) (Mem.startR w hrow) ?_
  refine wpc_seq <| wpc_region ?_
  refine wpl_t (t_box rfl (v8s ys) rfl) rfl (fun b3 => ?_)
  refine wpl_q (q_pure rfl) rfl <| wpl_nil <| ex_then <| wpc_seq <| wpc_seq <| wpc_region <| wpl_q (q_pure rfl) rfl <| wpl_nil <| ex_then <| wpc_block ?_
  refine wpc_loopc (ι := { x : Nat × Value // (x.1 ≤ 16) ∧ (SV x.2 (xs.length + x.1)) }) [(3, _)] (fun x Lc => (5, .int .i64 ((x.1.1 : Nat) : Int)) :: (0, x.1.2) :: Lc) (fun x => Mem w (nums [(.row v xs.length 5 1 (v8s xs))]) [.blk b3 61 (v8s ys), .row x.1.2 (xs.length + x.1.1) 5 1 (v8s (xs ++ ys.take x.1.1))] []) (fun x => 16 - x.1.1) ⟨(0, v), ⟨Nat.zero_le _, sv⟩⟩ zz10 ?_ ?_
  ·
   exact fun w h => by
     dsimp only
     rw [List.take_zero, List.append_nil, Nat.add_zero]
     first | exact h.sub SubC.h SubC.h | exact h.sub zz8 zz8
  ·
   rintro ⟨⟨i, v2⟩, ⟨hi0, hi1⟩⟩; try dsimp only
   have hi0 : i ≤ 16 := hi0; have hi1 : SV v2 (xs.length + i) := hi1
   refine wpc_seq <| wpc_seq <| wpc_region <| wpl_q (q_pure rfl) rfl <| wpl_q (q_pure rfl) rfl <| wpl_nil <| ex_then ?_
   refine wpc_cond rfl (fun hc7 => ?_) (fun hc7 => ?_)
   ·
    simp only [decide_eq_true_eq] at hc7
    refine wpc_skip <| ex_then <| wpc_seq <| wpc_block <| wpc_region <| wpl_q (q_pure rfl) rfl <| wpl_q (q_pure rfl) rfl ?_
    refine wpl_q (q_idxA1 Tryd.underlying61 Tryd.ti5 rfl rfl zz14) rfl ?_
    refine wpl_q (q_ld Tryd.underlying5 rfl rfl zz38) rfl ?_
    refine wpl_tp (t_bsV (v8s [_]) Tryd.underlying32 Tryd.ti5 rfl rfl zz19 zz19 rfl (v8s_one _)) rfl (fun b14 p14 => ?_)
    refine wpl_tp (t_apW Tryd.underlying32 Tryd.ti5 rfl zz19 rfl rfl (fun w h => zz11) (v8s_one _) zz1 zz1 (v8s (xs ++ ys.take (i + 1))) (by rw [← take_getD ys i zz14, ← List.append_assoc, v8s_append (xs ++ ys.take i)])) rfl (fun b15 p15 => ?_)
    refine wpl_q (q_pure rfl) rfl <| wpl_nil <| ex_block <| ex_then <| wpc_region <| wpl_q (q_pure rfl) rfl ?_
    refine wpl_q (q_addN (b := 1) rfl rfl zz1) rfl ?_
    refine wpl_q (q_pure rfl) rfl <| wpl_nil ?_
    refine ex_again ⟨(i + 1, b15), ⟨zz14, p15⟩⟩ ?_ ?_ ?_
    ·
     exact zz10
    ·
     exact fun w h => by first | exact h | exact h.sub SubC.h SubC.h | exact h.sub zz8 zz8
    ·
     (show 16 - (i + 1) < 16 - i); omega
   ·
    simp only [decide_eq_false_iff_not] at hc7
    obtain rfl : i = 16 := by omega
    refine wpc_exit ?_
    refine ex_then_exit ?_
    refine ex_then_exit ?_
    refine ex_block_hit ?_
    refine ex_then <| wpc_seq <| wpc_region <| wpl_q (q_pure rfl) rfl <| wpl_q (q_pure rfl) rfl <| wpl_nil <| ex_then <| wpc_ret ?_
    refine ret1 (.inl rfl) rfl rfl ?_
    exact fun w h => ⟨v2, hi1, rfl, by
      rw [List.take_of_length_le zz14] at h
      first | exact h.sub SubC.h SubC.h | exact h.sub zz8 zz8⟩
theorem refJoined7 (xs : List UInt8) (ys : List UInt8) (w : World) (hxs : xs.length = 16) (hys : ys.length = 16)  :
    Calls Tryd.prog 95 [.agg (v8s xs).toArray, .agg (v8s ys).toArray].toArray w (Pur w (.agg (v8s (joinedF xs ys)).toArray)) := by
  refine enter (m := 11) (R := Mem w [] [] []) Tryd.func95 rfl rfl (Nat.le_of_ble_eq_true rfl) (Mem.start w) ?_
  refine wpc_seq <| wpc_region ?_
  refine wpl_t (t_box rfl (v8s xs) rfl) rfl (fun b2 => ?_)
  refine wpl_t (t_box rfl (v8s ys) rfl) rfl (fun b3 => ?_)
  refine wpl_t (t_alloc Tryd.ti61 (v8s (List.replicate 16 0)) (by rfl)) rfl (fun b4 => ?_)
  refine wpl_nil <| ex_then <| wpc_seq ?_
  refine wpc_draw 6 zz6 (fun _ h => h.drew) ?_
  refine wpd_q 1 rfl zz6 trivial (q_ldN Tryd.underlying61 rfl Tryd.ti61 rfl zz2) rfl (fun _ h => h) ?_
  refine wpd_q 3 rfl zz6 trivial (q_ldN Tryd.underlying61 rfl Tryd.ti61 rfl zz2) rfl (fun _ h => h) ?_
  refine wpd_tp 0 rfl zz6 trivial (t_bsV (v8s [(1 : UInt8)]) Tryd.underlying32 Tryd.ti5 rfl rfl zz19 zz19 rfl (v8s_one _)) rfl (fun _ => (fun w h => .inr (h.sub SubC.h SubC.h))) (fun b5 p5 => ?_)
  refine wpd_tp 2 rfl zz6 trivial (t_callR (m := 1) (m' := 17) (ys := v8s ([1] ++ xs)) Tryd.hb116 rfl fun w h hr => refAdd7 _ [1] xs w hr zz57 zz19 hxs) rfl (fun _ => (fun w h => .inr (h.sub SubC.h SubC.h))) (fun b7 p7 => ?_)
  refine wpd_tp 4 rfl zz6 trivial (t_callR (m := 17) (m' := 33) (ys := v8s ([1] ++ xs ++ ys)) Tryd.hb116 rfl fun w h hr => by
    have e : ([1] ++ xs : List UInt8).length = 17 := by simp [hxs]
    have h9 := refAdd7 b7 ([1] ++ xs) ys w (by rw [e]; exact hr) (by rw [e]; exact p7) zz14 hys
    rw [e] at h9; exact h9) rfl (fun _ => (fun w h => .inr (h.sub SubC.h SubC.h))) (fun b9 p9 => ?_)
  refine wpd_t 5 rfl zz6 trivial (t_pur Tryd.hb115 rfl fun w h => refShort _ _ w zz12 zz1) rfl (fun _ => (fun w h => .inr (h.sub SubC.h SubC.h))) (fun b10 => ?_)
  refine wpd_t0 6 rfl zz6 trivial (t_stA Tryd.ti61 rfl rfl zz2 (v8s_one _) zz2) (fun _ => skk rfl) (fun _ => ?_)
  refine wpd_done zz6 ?_
  refine ex_then <| wpc_ret ?_
  refine retv1 (.inl rfl) rfl (rv_agg Tryd.underlying61 rfl Tryd.ti61 rfl (fun w h => h.atB) zz2) ?_
  exact fun w h => ⟨rfl, h.below⟩
theorem refSeed7 (xs : List UInt8) (i : Nat) (w : World) (hxs : xs.length = 16)  :
    Calls Tryd.prog 101 [.agg (v8s xs).toArray, .int .i64 ((i : Nat) : Int)].toArray w (Pur w (.agg (v8s (leafF xs i)).toArray)) := by
  refine enter (m := 12) (R := Mem w [] [] []) Tryd.func101 rfl rfl (Nat.le_of_ble_eq_true rfl) (Mem.start w) ?_
  refine wpc_seq <| wpc_region ?_
  refine wpl_t (t_box rfl (v8s xs) rfl) rfl (fun b2 => ?_)
  refine wpl_t (t_alloc Tryd.ti61 (v8s (List.replicate 16 0)) (by rfl)) rfl (fun b4 => ?_)
  refine wpl_nil <| ex_then <| wpc_seq <| wpc_region ?_
  refine wpl_q (q_ldN Tryd.underlying61 rfl Tryd.ti61 rfl zz2) rfl ?_
  refine wpl_tp (t_callR0 (m' := 16) (ys := v8s xs) 5 1 Tryd.hb116 rfl fun w h hr => refAdd7 _ [] xs w hr SV.nil zz19 hxs) rfl (fun b6 p6 => ?_)
  refine wpl_q (q_pure rfl) rfl <| wpl_q (q8_conv Tryd.underlying3 Tryd.underlying5 rfl) rfl ?_
  refine wpl_tp (t_bsV (v8s [_, (254 : UInt8), (0 : UInt8)]) Tryd.underlying32 Tryd.ti5 rfl rfl zz19 zz19 rfl (v8s_one _)) rfl (fun b9 p9 => ?_)
  refine wpl_tp (t_apW Tryd.underlying32 Tryd.ti5 rfl zz19 rfl rfl (fun w h => zz11) (v8s_one _) zz1 zz1 _ zz16) rfl (fun b10 p10 => ?_)
  refine wpl_t (t_pur Tryd.hb115 rfl fun w h => refShort _ _ w zz12 zz1) rfl (fun b11 => ?_)
  refine wpl_t0 (t_stA Tryd.ti61 rfl rfl zz2 (v8s_one _) zz2) (fun _ => ?_)
  refine wpl_nil <| ex_then <| wpc_ret ?_
  refine retv1 (.inl rfl) rfl (rv_agg Tryd.underlying61 rfl Tryd.ti61 rfl (fun w h => h.atB) zz2) ?_
  exact fun w h => ⟨rfl, h.below⟩
theorem refGreat7 (cv pv : Value) (chs ps : List (List UInt8)) (idx : Int) (w : World) (hcv : Seen w.cell? cv chs.length 16 (v8s chs.flatten)) (hlchs : ∀ x ∈ chs, x.length = 16) (hpv : Seen w.cell? pv ps.length 16 (v8s ps.flatten)) (hlps : ∀ x ∈ ps, x.length = 16)  :
    Calls Tryd.prog 36 [.agg #[.int .i64 idx, cv, pv]].toArray w (Pur w (.bool (decide (100 < chs.length ∨ 100 < ps.length)))) := by
  have scv := hcv.sv
  have lcv := scv.le
  simp only [maxLen] at lcv
  have spv := hpv.sv
  have lpv := spv.le
  simp only [maxLen] at lpv
  refine enter (m := 13) (R := Mem w [] [] []) Tryd.func36 rfl rfl (Nat.le_of_ble_eq_true rfl) (Mem.start w) ?_
  refine wpc_seq <| wpc_region ?_
  refine wpl_t (t_box rfl [.int .i64 idx, cv, pv] rfl) rfl (fun b1 => ?_)
  refine wpl_q (q_pure rfl) rfl <| wpl_nil <| ex_then <| wpc_seq <| wpc_region <| wpl_q (q_field Tryd.underlying66 rfl Tryd.ti64 rfl rfl _ rfl) rfl <| wpl_q (q_ld Tryd.underlying64 rfl rfl rfl) rfl ?_
  refine wpl_q (q_lenW Tryd.underlying64 rfl zz4) rfl ?_
  refine wpl_q (q_pure rfl) rfl <| wpl_q (q_pure rfl) rfl ?_
  refine wpl_bool2 7 6 rfl rfl (fun hb7 => ?_) (fun hb7 => ?_)
  ·
   try simp only [decide_eq_true_eq, decide_eq_false_iff_not, Bool.and_eq_true, Bool.or_eq_true, beq_iff_eq, bne_iff_ne, ne_eq, Bool.not_eq_true', Bool.not_eq_false', Decidable.not_not] at hb7
   refine wpl_off rfl rfl rfl rfl <| wpl_off rfl rfl rfl rfl <| wpl_off rfl rfl rfl rfl <| wpl_off rfl rfl rfl rfl <| wpl_q (q_pure rfl) rfl <| wpl_q (q_pure rfl) rfl <| wpl_nil <| ex_then <| wpc_ret ?_
   refine ret1 (.inl rfl) rfl rfl ?_
   exact fun w h => ⟨by first | rw [decide_eq_true (p := 100 < chs.length ∨ 100 < ps.length) zz14] | rw [show decide (100 < chs.length ∨ 100 < ps.length) = decide ((ps.length : Int) > 100) from decide_eq_decide.2 zz14], h.below⟩
  ·
   try simp only [decide_eq_true_eq, decide_eq_false_iff_not, Bool.and_eq_true, Bool.or_eq_true, beq_iff_eq, bne_iff_ne, ne_eq, Bool.not_eq_true', Bool.not_eq_false', Decidable.not_not] at hb7
   refine wpl_on rfl rfl <| wpl_q (q_field Tryd.underlying66 rfl Tryd.ti64 rfl rfl _ rfl) rfl <| wpl_on rfl rfl <| wpl_q (q_ld Tryd.underlying64 rfl rfl rfl) rfl <| wpl_on rfl rfl ?_
   refine wpl_q (q_lenW Tryd.underlying64 rfl zz4) rfl ?_
   refine wpl_on rfl rfl <| wpl_q (q_pure rfl) rfl <| wpl_q (q_pure rfl) rfl <| wpl_q (q_pure rfl) rfl <| wpl_nil <| ex_then <| wpc_ret ?_
   refine ret1 (.inl rfl) rfl rfl ?_
   exact fun w h => ⟨by first | rw [decide_eq_true (p := 100 < chs.length ∨ 100 < ps.length) zz14] | rw [show decide (100 < chs.length ∨ 100 < ps.length) = decide ((ps.length : Int) > 100) from decide_eq_decide.2 zz14], h.below⟩
theorem refCheck7 (ht : Int) (cv pv : Value) (chs ps : List (List UInt8)) (idx : Int) (w : World) (hcv : Seen w.cell? cv chs.length 16 (v8s chs.flatten)) (hlchs : ∀ x ∈ chs, x.length = 16) (hpv : Seen w.cell? pv ps.length 16 (v8s ps.flatten)) (hlps : ∀ x ∈ ps, x.length = 16)  :
    Calls Tryd.prog 45 [.int .i64 ht, .agg #[.int .i64 idx, cv, pv]].toArray w (Pur w (.int .i64 (checkF ht idx chs.length ps.length))) := by
  have scv := hcv.sv
  have lcv := scv.le
  simp only [maxLen] at lcv
  have spv := hpv.sv
  have lpv := spv.le
  simp only [maxLen] at lpv
  refine enter (m := 34) (R := Mem w [] [] []) Tryd.func45 rfl rfl (Nat.le_of_ble_eq_true rfl) (Mem.start w) ?_
  refine wpc_seq <| wpc_region ?_
  refine wpl_t (t_box rfl [.int .i64 idx, cv, pv] rfl) rfl (fun b3 => ?_)
  refine wpl_q (q_pure rfl) rfl <| wpl_nil <| ex_then <| wpc_seq <| wpc_seq <| wpc_region <| wpl_q (q_pure rfl) rfl <| wpl_q (q_pure rfl) rfl <| wpl_q (q_pure rfl) rfl ?_
  refine wpl_bool2 7 6 rfl rfl (fun hb7 => ?_) (fun hb7 => ?_)
  ·
   try simp only [decide_eq_true_eq, decide_eq_false_iff_not, Bool.and_eq_true, Bool.or_eq_true, beq_iff_eq, bne_iff_ne, ne_eq, Bool.not_eq_true', Bool.not_eq_false', Decidable.not_not] at hb7
   refine wpl_off rfl rfl rfl rfl <| wpl_off rfl rfl rfl rfl <| wpl_q (q_pure rfl) rfl <| wpl_nil <| ex_then ?_
   refine wpc_cond_t rfl ?_
   refine wpc_seq <| wpc_region <| wpl_q (q_pure rfl) rfl <| wpl_nil <| ex_then <| wpc_ret ?_
   refine ex_then_ret ?_
   refine ret1 (.inl rfl) rfl rfl ?_
   exact fun w h => ⟨by rw [check_2 (by first | omega | (simp only [decide_eq_true_eq] at *; omega))], h.below⟩
  ·
   try simp only [decide_eq_true_eq, decide_eq_false_iff_not, Bool.and_eq_true, Bool.or_eq_true, beq_iff_eq, bne_iff_ne, ne_eq, Bool.not_eq_true', Bool.not_eq_false', Decidable.not_not] at hb7
   refine wpl_on rfl rfl <| wpl_q (q_pure rfl) rfl <| wpl_on rfl rfl <| wpl_q (q_pure rfl) rfl <| wpl_q (q_pure rfl) rfl <| wpl_nil <| ex_then ?_
   refine wpc_cond rfl (fun hc10 => ?_) (fun hc10 => ?_)
   ·
    try simp only [decide_eq_true_eq, decide_eq_false_iff_not, Bool.and_eq_true, Bool.or_eq_true, beq_iff_eq, bne_iff_ne, ne_eq, Bool.not_eq_true', Bool.not_eq_false', Decidable.not_not] at hc10
    refine wpc_seq <| wpc_region <| wpl_q (q_pure rfl) rfl <| wpl_nil <| ex_then <| wpc_ret ?_
    refine ex_then_ret ?_
    refine ret1 (.inl rfl) rfl rfl ?_
    exact fun w h => ⟨by rw [check_2 (by first | omega | (simp only [decide_eq_true_eq] at *; omega))], h.below⟩
   ·
    simp only [decide_eq_false_iff_not, decide_eq_true_eq] at hc10
    obtain ⟨m, rfl⟩ : ∃ m : Nat, ht = (m : Int) := ⟨ht.toNat, zz14⟩
    have hpw := pow_le16 (m := m) zz14
    refine wpc_skip <| ex_then <| wpc_seq <| wpc_seq ?_
    refine wpc_draw 23 zz6 (fun _ h => h.drew) ?_
    refine wpd_p 0 rfl zz6 trivial (q_field Tryd.underlying66 rfl Tryd.ti3 rfl rfl _ rfl) rfl sk0 ?_
    refine wpd_q 1 rfl zz6 trivial (q_ld Tryd.underlying3 rfl rfl zz34) rfl (fun _ h => h) ?_
    refine wpd_p 2 rfl zz6 trivial (q_pure rfl) rfl sk0 ?_
    refine wpd_p 3 rfl zz6 trivial (q_pure rfl) rfl sk0 ?_
    refine wpd_bool2 14 13 rfl rfl (fun hb14 => ?_) (fun hb14 => ?_)
    ·
     try simp only [decide_eq_true_eq, decide_eq_false_iff_not, Bool.and_eq_true, Bool.or_eq_true, beq_iff_eq, bne_iff_ne, ne_eq, Bool.not_eq_true', Bool.not_eq_false', Decidable.not_not] at hb14
     refine wpd_off 4 rfl zz6 ⟨_, _, rfl, rfl, rfl⟩ rfl sk0 ?_
     refine wpd_off 5 rfl zz6 ⟨_, _, rfl, rfl, rfl⟩ rfl sk0 ?_
     refine wpd_off 6 rfl zz6 ⟨_, _, rfl, rfl, rfl⟩ rfl sk0 ?_
     refine wpd_off 7 rfl zz6 ⟨_, _, rfl, rfl, rfl⟩ rfl sk0 ?_
     refine wpd_off 8 rfl zz6 ⟨_, _, rfl, rfl, rfl⟩ rfl sk0 ?_
     refine wpd_p 9 rfl zz6 trivial (q_pure rfl) rfl sk0 ?_
     refine wpd_p 10 rfl zz6 trivial (q_pure rfl) rfl sk0 ?_
     refine wpd_off 11 rfl zz6 ⟨_, _, rfl, rfl, rfl⟩ rfl sk0 ?_
     refine wpd_off 12 rfl zz6 ⟨_, _, rfl, rfl, rfl⟩ rfl sk0 ?_
     refine wpd_off 13 rfl zz6 ⟨_, _, rfl, rfl, rfl⟩ rfl sk0 ?_
     refine wpd_off 14 rfl zz6 ⟨_, _, rfl, rfl, rfl⟩ rfl sk0 ?_
     refine wpd_p 15 rfl zz6 trivial (q_pure rfl) rfl sk0 ?_
     refine wpd_p 16 rfl zz6 trivial (q_pure rfl) rfl sk0 ?_
     refine wpd_off 17 rfl zz6 ⟨_, _, rfl, rfl, rfl⟩ rfl sk0 ?_
     refine wpd_off 18 rfl zz6 ⟨_, _, rfl, rfl, rfl⟩ rfl sk0 ?_
     refine wpd_off 19 rfl zz6 ⟨_, _, rfl, rfl, rfl⟩ rfl sk0 ?_
     refine wpd_off 20 rfl zz6 ⟨_, _, rfl, rfl, rfl⟩ rfl sk0 ?_
     refine wpd_off 21 rfl zz6 ⟨_, _, rfl, rfl, rfl⟩ rfl sk0 ?_
     refine wpd_p 22 rfl zz6 trivial (q_pure rfl) rfl sk0 ?_
     refine wpd_done zz6 ?_
     refine ex_then ?_
     refine wpc_cond_t rfl ?_
     refine wpc_seq <| wpc_region <| wpl_q (q_pure rfl) rfl <| wpl_nil <| ex_then <| wpc_ret ?_
     refine ex_then_ret ?_
     refine ret1 (.inl rfl) rfl rfl ?_
     exact fun w h => ⟨zz31, h.below⟩
    ·
     try simp only [decide_eq_true_eq, decide_eq_false_iff_not, Bool.and_eq_true, Bool.or_eq_true, beq_iff_eq, bne_iff_ne, ne_eq, Bool.not_eq_true', Bool.not_eq_false', Decidable.not_not] at hb14
     refine wpd_p 4 rfl zz6 ⟨_, rfl, rfl⟩ (q_field Tryd.underlying66 rfl Tryd.ti3 rfl rfl _ rfl) rfl sk0 ?_
     refine wpd_q 5 rfl zz6 ⟨_, rfl, rfl⟩ (q_ld Tryd.underlying3 rfl rfl zz34) rfl (fun _ h => h) ?_
     refine wpd_p 6 rfl zz6 ⟨_, rfl, rfl⟩ (q_pure rfl) rfl sk0 ?_
     refine wpd_t 7 rfl zz6 ⟨_, rfl, rfl⟩ (t_pur Tryd.hb69 rfl fun w h => refPower7 _ w zz14) rfl (fun _ => sk0) (fun b18 => ?_)
     refine wpd_p 8 rfl zz6 ⟨_, rfl, rfl⟩ (q_pure rfl) rfl sk0 ?_
     refine wpd_p 9 rfl zz6 trivial (q_pure rfl) rfl sk0 ?_
     refine wpd_p 10 rfl zz6 trivial (q_pure rfl) rfl sk0 ?_
     refine wpd_bool2 21 19 rfl rfl (fun hb21 => ?_) (fun hb21 => ?_)
     ·
      try simp only [decide_eq_true_eq, decide_eq_false_iff_not, Bool.and_eq_true, Bool.or_eq_true, beq_iff_eq, bne_iff_ne, ne_eq, Bool.not_eq_true', Bool.not_eq_false', Decidable.not_not] at hb21
      refine wpd_off 11 rfl zz6 ⟨_, _, rfl, rfl, rfl⟩ rfl sk0 ?_
      refine wpd_off 12 rfl zz6 ⟨_, _, rfl, rfl, rfl⟩ rfl sk0 ?_
      refine wpd_off 13 rfl zz6 ⟨_, _, rfl, rfl, rfl⟩ rfl sk0 ?_
      refine wpd_off 14 rfl zz6 ⟨_, _, rfl, rfl, rfl⟩ rfl sk0 ?_
      refine wpd_p 15 rfl zz6 trivial (q_pure rfl) rfl sk0 ?_
      refine wpd_p 16 rfl zz6 trivial (q_pure rfl) rfl sk0 ?_
      refine wpd_off 17 rfl zz6 ⟨_, _, rfl, rfl, rfl⟩ rfl sk0 ?_
      refine wpd_off 18 rfl zz6 ⟨_, _, rfl, rfl, rfl⟩ rfl sk0 ?_
      refine wpd_off 19 rfl zz6 ⟨_, _, rfl, rfl, rfl⟩ rfl sk0 ?_
      refine wpd_off 20 rfl zz6 ⟨_, _, rfl, rfl, rfl⟩ rfl sk0 ?_
      refine wpd_off 21 rfl zz6 ⟨_, _, rfl, rfl, rfl⟩ rfl sk0 ?_
      refine wpd_p 22 rfl zz6 trivial (q_pure rfl) rfl sk0 ?_
      refine wpd_done zz6 ?_
      refine ex_then ?_
      refine wpc_cond_t rfl ?_
      refine wpc_seq <| wpc_region <| wpl_q (q_pure rfl) rfl <| wpl_nil <| ex_then <| wpc_ret ?_
      refine ex_then_ret ?_
      refine ret1 (.inl rfl) rfl rfl ?_
      exact fun w h => ⟨zz31, h.below⟩
     ·
      try simp only [decide_eq_true_eq, decide_eq_false_iff_not, Bool.and_eq_true, Bool.or_eq_true, beq_iff_eq, bne_iff_ne, ne_eq, Bool.not_eq_true', Bool.not_eq_false', Decidable.not_not] at hb21
      refine wpd_p 11 rfl zz6 ⟨_, rfl, rfl⟩ (q_field Tryd.underlying66 rfl Tryd.ti64 rfl rfl _ rfl) rfl sk0 ?_
      refine wpd_q 12 rfl zz6 ⟨_, rfl, rfl⟩ (q_ld Tryd.underlying64 rfl rfl rfl) rfl (fun _ h => h) ?_
      refine wpd_p 13 rfl zz6 ⟨_, rfl, rfl⟩ (q_lenW Tryd.underlying64 rfl zz4) rfl sk0 ?_
      refine wpd_p 14 rfl zz6 ⟨_, rfl, rfl⟩ (q_pure rfl) rfl sk0 ?_
      refine wpd_p 15 rfl zz6 trivial (q_pure rfl) rfl sk0 ?_
      refine wpd_p 16 rfl zz6 trivial (q_pure rfl) rfl sk0 ?_
      refine wpd_bool2 27 25 rfl rfl (fun hb27 => ?_) (fun hb27 => ?_)
      ·
       try simp only [decide_eq_true_eq, decide_eq_false_iff_not, Bool.and_eq_true, Bool.or_eq_true, beq_iff_eq, bne_iff_ne, ne_eq, Bool.not_eq_true', Bool.not_eq_false', Decidable.not_not] at hb27
       refine wpd_off 17 rfl zz6 ⟨_, _, rfl, rfl, rfl⟩ rfl sk0 ?_
       refine wpd_off 18 rfl zz6 ⟨_, _, rfl, rfl, rfl⟩ rfl sk0 ?_
       refine wpd_off 19 rfl zz6 ⟨_, _, rfl, rfl, rfl⟩ rfl sk0 ?_
       refine wpd_off 20 rfl zz6 ⟨_, _, rfl, rfl, rfl⟩ rfl sk0 ?_
       refine wpd_off 21 rfl zz6 ⟨_, _, rfl, rfl, rfl⟩ rfl sk0 ?_
       refine wpd_p 22 rfl zz6 trivial (q_pure rfl) rfl sk0 ?_
       refine wpd_done zz6 ?_
       refine ex_then ?_
       refine wpc_cond_t rfl ?_
       refine wpc_seq <| wpc_region <| wpl_q (q_pure rfl) rfl <| wpl_nil <| ex_then <| wpc_ret ?_
       refine ex_then_ret ?_
       refine ret1 (.inl rfl) rfl rfl ?_
       exact fun w h => ⟨zz31, h.below⟩
      ·
       try simp only [decide_eq_true_eq, decide_eq_false_iff_not, Bool.and_eq_true, Bool.or_eq_true, beq_iff_eq, bne_iff_ne, ne_eq, Bool.not_eq_true', Bool.not_eq_false', Decidable.not_not] at hb27
       refine wpd_p 17 rfl zz6 ⟨_, rfl, rfl⟩ (q_field Tryd.underlying66 rfl Tryd.ti64 rfl rfl _ rfl) rfl sk0 ?_
       refine wpd_q 18 rfl zz6 ⟨_, rfl, rfl⟩ (q_ld Tryd.underlying64 rfl rfl rfl) rfl (fun _ h => h) ?_
       refine wpd_p 19 rfl zz6 ⟨_, rfl, rfl⟩ (q_lenW Tryd.underlying64 rfl zz4) rfl sk0 ?_
       refine wpd_p 20 rfl zz6 ⟨_, rfl, rfl⟩ (q_pure rfl) rfl sk0 ?_
       refine wpd_p 21 rfl zz6 ⟨_, rfl, rfl⟩ (q_pure rfl) rfl sk0 ?_
       refine wpd_p 22 rfl zz6 trivial (q_pure rfl) rfl sk0 ?_
       refine wpd_done zz6 ?_
       refine ex_then ?_
       refine wpc_cond rfl (fun hc33 => ?_) (fun hc33 => ?_)
       ·
        try simp only [decide_eq_true_eq, decide_eq_false_iff_not, Bool.and_eq_true, Bool.or_eq_true, beq_iff_eq, bne_iff_ne, ne_eq, Bool.not_eq_true', Bool.not_eq_false', Decidable.not_not] at hc33
        refine wpc_seq <| wpc_region <| wpl_q (q_pure rfl) rfl <| wpl_nil <| ex_then <| wpc_ret ?_
        refine ex_then_ret ?_
        refine ret1 (.inl rfl) rfl rfl ?_
        exact fun w h => ⟨zz31, h.below⟩
       ·
        simp only [bne_eq_false_iff_eq, decide_eq_false_iff_not, ne_eq, Decidable.not_not] at hc33 hb27
        refine wpc_skip <| ex_then <| wpc_seq <| wpc_region <| wpl_q (q_pure rfl) rfl <| wpl_nil <| ex_then <| wpc_ret ?_
        refine ret1 (.inl rfl) rfl rfl ?_
        exact fun w h => ⟨by rw [check_0 zz14 zz14], h.below⟩
end Go.Proofs.YtjpfhkjmjnjggaaDoor
