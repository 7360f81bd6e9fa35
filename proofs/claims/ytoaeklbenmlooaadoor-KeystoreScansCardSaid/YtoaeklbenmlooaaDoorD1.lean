/- Walks of the digest functions: rotations and words. -/
import Derived.Test.YtoaeklbenmlooaaDoorTI
namespace Go.Proofs.YtoaeklbenmlooaaDoor
set_option linter.unusedSimpArgs false
set_option linter.unusedVariables false
open Go Go.PL Go.RowKit
def rotlF (x : UInt32) (k : Int) : UInt32 :=
  sl32 x (((of64 k &&& 31).toNat : Nat) : Int).toNat ||| sr32 x (((32 - (of64 k &&& 31)).toNat : Nat) : Int).toNat

set_option maxRecDepth 100000 in
theorem rotl (x : UInt32) (k : Int) (w : World) :
    Calls Tryd.prog 83 [.int .u32 x.toNat, .int .i64 k].toArray w (Pur w (.int .u32 (rotlF x k).toNat)) := by
  refine enter (m := 17) (R := Mem w [] [] []) Tryd.func83 rfl rfl (Nat.le_of_ble_eq_true rfl) (Mem.start w) ?_
  refine wpc_seq ?_
  -- region 0
  refine wpc_region ?_
  refine wpl_q (q_pure rfl) rfl ?_
  refine wpl_nil ?_
  refine ex_then ?_
  refine wpc_seq ?_
  -- region 1
  refine wpc_region ?_
  refine wpl_q (q_pure rfl) rfl ?_
  refine wpl_q (q64_conv Tryd.underlying3 Tryd.underlying64 rfl) rfl ?_
  refine wpl_q (q64_and (b := (31 : UInt64)) rfl rfl) rfl ?_
  refine wpl_q (q_pure rfl) rfl ?_
  refine wpl_nil ?_
  refine ex_then ?_
  refine wpc_seq ?_
  -- region 2
  refine wpc_region ?_
  refine wpl_q (q_pure rfl) rfl ?_
  refine wpl_q (q_pure rfl) rfl ?_
  refine wpl_q (q32_shl rfl rfl (by first | decide | omega) _ rfl) rfl ?_
  refine wpl_q (q_pure rfl) rfl ?_
  refine wpl_q (q_pure rfl) rfl ?_
  refine wpl_q (q64_sub (a := (32 : UInt64)) rfl rfl) rfl ?_
  refine wpl_q (q32_shr rfl rfl (by first | decide | omega) _ rfl) rfl ?_
  refine wpl_q (q32_or rfl rfl) rfl ?_
  refine wpl_q (q_pure rfl) rfl ?_
  refine wpl_nil ?_
  refine ex_then ?_
  refine wpc_ret ?_
  refine ret1 (.inl rfl) rfl rfl ?_
  exact fun w h => ⟨rfl, h.below⟩

set_option maxRecDepth 100000 in
theorem turn (x : UInt32) (k : Int) (h0 : -64 ≤ k) (h1 : k ≤ 64) (w : World) :
    Calls Tryd.prog 73 [.int .u32 x.toNat, .int .i64 k].toArray w (Pur w (.int .u32 (rotlF x (-k)).toNat)) := by
  refine enter (m := 9) (R := Mem w [] [] []) Tryd.func73 rfl rfl (Nat.le_of_ble_eq_true rfl) (Mem.start w) ?_
  refine wpc_seq ?_
  -- region 0
  refine wpc_region ?_
  refine wpl_q (q_pure rfl) rfl ?_
  refine wpl_nil ?_
  refine ex_then ?_
  refine wpc_seq ?_
  -- region 1
  refine wpc_region ?_
  refine wpl_q (q_pure rfl) rfl ?_
  refine wpl_q (q_pure rfl) rfl ?_
  first | refine wpl_q (qop_eq (q_pure rfl) (congrArg (Value.int .i64) (wk_i64 (by omega) (by omega)))) rfl ?_ | refine wpl_q (q_pure rfl) rfl ?_
  refine wpl_t (t_pur Tryd.hb83 rfl fun w h => rotl _ _ _) rfl ?_
  intro b8
  refine wpl_q (q_pure rfl) rfl ?_
  refine wpl_nil ?_
  refine ex_then ?_
  refine wpc_ret ?_
  refine ret1 (.inl rfl) rfl rfl ?_
  exact fun w h => ⟨rfl, h.below⟩

end Go.Proofs.YtoaeklbenmlooaaDoor