/- Examples, computed. -/
import Derived.Test.YtlapmdiabhlbmaaDoorBC
import Derived.Test.YtlapmdiabhlbmaaDoorDF
namespace Go.Proofs.YtlapmdiabhlbmaaDoor
set_option linter.unusedSimpArgs false
set_option linter.unusedVariables false
open Go Go.PL Go.RowKit
theorem nil_pad : padF [] = bytesW [2147483648, 0, 0, 0, 0, 0, 0, 0, 0, 0, 0, 0, 0, 0, 0, 0] := by decide +kernel
theorem nil_sum : sumF [] = bytesW [3820012610, 2566659092, 2600203464, 2574235940, 665731556, 1687917388, 2761267483, 2018687061] := (sum_W _ 1 _ nil_pad (by decide) (by decide)).trans (congrArg bytesW (by decide +kernel))

theorem abc_pad : padF [97, 98, 99] = bytesW [1633837952, 0, 0, 0, 0, 0, 0, 0, 0, 0, 0, 0, 0, 0, 0, 24] := by decide +kernel
theorem abc_sum : sumF [97, 98, 99] = bytesW [3128432319, 2399260650, 1094795486, 1571693091, 2953011619, 2518121116, 3021012833, 4060091821] := (sum_W _ 1 _ abc_pad (by decide) (by decide)).trans (congrArg bytesW (by decide +kernel))

theorem nil_hex : (hexF (sumF []) 32).take 16 = [101, 51, 98, 48, 99, 52, 52, 50, 57, 56, 102, 99, 49, 99, 49, 52] := by rw [nil_sum]; decide +kernel
theorem abc_hex : (hexF (sumF [97, 98, 99]) 32).take 16 = [98, 97, 55, 56, 49, 54, 98, 102, 56, 102, 48, 49, 99, 102, 101, 97] := by rw [abc_sum]; decide +kernel
theorem ex_hex : hexF [0, 255, 16] 3 = [48, 48, 102, 102, 49, 48] := by decide +kernel
theorem ex_b64 : base64F [0, 255, 16] = [65, 80, 56, 81] := by decide +kernel

set_option maxRecDepth 100000 in
theorem lawHex (xs : List UInt8) (w : World) (hxs : xs.length = 32)  :
    Calls Tryd.prog 26 [.agg (v8s xs).toArray].toArray w (Pur w (str (hexF xs 32))) := by
  refine enter (m := 5) (R := Mem w [] [] []) Tryd.func26 rfl rfl (Nat.le_of_ble_eq_true rfl) (Mem.start w) ?_
  refine wpc_seq ?_
  refine wpc_region ?_
  refine wpl_t (t_box rfl (v8s xs) rfl) rfl (fun b1 => ?_)
  refine wpl_q (q_pure rfl) rfl ?_
  refine wpl_nil ?_
  refine ex_then ?_
  refine wpc_seq ?_
  refine wpc_region ?_
  refine wpl_q (q_arAll Tryd.underlying26 Tryd.ti5 rfl rfl) rfl ?_
  refine wpl_t (t_pur (v := str (hexF xs 32)) Tryd.hb18 rfl fun w h => by have hh := hexW (arv b1 32) xs w (Seen.re8 (m := 32) (by exact h.seenA (by first | decide | (simp only [maxLen]; omega)) (by first | with_reducible rfl | (simp only [v8s_length, v32s_length, vis_length, vns_length, v64s_length, List.length_replicate]; first | done | with_reducible assumption | omega) | (rw [v8s_length]; (first | with_reducible assumption | with_reducible exact shortF_length _ | with_reducible exact stepF_length _ _ _ | with_reducible exact sumF_length _ | with_reducible exact climbF_length _ (by first | with_reducible assumption | with_reducible exact shortF_length _ | with_reducible exact beginF_length _ _ | with_reducible exact getD_mem_len (by assumption) (by omega)) _ _ _ | with_reducible exact beginF_length _ _ | with_reducible exact chainF_length _ _ _ | with_reducible exact recF_length _ _ | with_reducible exact publicF_length _ | with_reducible exact getD_mem_len (by assumption) (by omega) | (with_reducible exact List.length_replicate))) | rfl))) (by omega); rw [hxs] at hh; exact hh) rfl (fun b4 => ?_)
  refine wpl_q (q_pure rfl) rfl ?_
  refine wpl_nil ?_
  refine ex_then ?_
  refine wpc_ret ?_
  refine ret1 (.inl rfl) rfl rfl ?_
  exact fun w h => ⟨rfl, h.below⟩

end Go.Proofs.YtlapmdiabhlbmaaDoor
