/- What the statement reaches, in order. -/
import Derived.Test.YtlapmdiabhlbmaaDoorMSPLN
import Derived.Test.YtlapmdiabhlbmaaDoorMSTI
import Derived.Test.YtlapmdiabhlbmaaDoorMSPLI
import Derived.Test.YtlapmdiabhlbmaaDoorMSPLZ
import Derived.KernelRfl
import Derived.Shelf.Strings.Trim
import Derived.Shelf.Small.Strs
import Derived.Shelf.LaysM
import Derived.Shelf.Bytes.WriteByte
import Derived.Shelf.Bytes.Bytes
import Derived.Test.YtlapmdiabhlbmaaDoorProg
import Derived.Test.YtlapmdiabhlbmaaDoorMSPLL
import Derived.Lib.TrimByte
import Derived.Lib.Bytealg
import Derived.Stop.LaidErr
import Derived.WalkKit
import Derived.ProofKit
import Derived.OpenShut
import Derived.ChangeOld
import Derived.Below
import Derived.Carry
import Derived.LaidMore
import Derived.Deep.DeepHandedRow
import Derived.Deep.DeepWitnessRowRef
import Derived.Lib.LaidTab
import Derived.Stop.Joined
import Derived.Test.YtlapmdiabhlbmaaDoorMS1
set_option linter.unusedSimpArgs false
set_option linter.unusedVariables false
set_option maxRecDepth 100000
namespace Go.Proofs.YtlapmdiabhlbmaaDoor
open Go Go.PL Go.RowKit
theorem lawTexts (bv : Value) (bs : List UInt8) (xs : List UInt8) (w : World) (hbv : Seen w.cell? bv bs.length 1 (v8s bs)) (hsl : xs.length ≤ maxLen)  :
    Calls Tryd.prog 7 [bv, str xs].toArray w (Pur w (.bool true)) := by
  have sbv := hbv.sv
  have lbv := sbv.le
  simp only [maxLen] at lbv
  simp only [maxLen] at hsl
  refine enter (m := 73) (R := Mem w [] [] []) Tryd.func7 rfl rfl (Nat.le_of_ble_eq_true rfl) (Mem.start w) ?_
  refine wpc_seq <| wpc_region <| wpl_q (q_pure rfl) rfl <| wpl_nil <| ex_then <| wpc_seq <| wpc_seq <| wpc_region <| wpl_q (q_pure rfl) rfl ?_
  refine wpl_q (q_lenW Tryd.underlying22 rfl zz2) rfl ?_
  refine wpl_q (q_pure rfl) rfl <| wpl_q (q_pure rfl) rfl ?_
  refine wpl_bool2 16 15 rfl rfl (fun hb16 => ?_) (fun hb16 => ?_)
  ·
   refine wpl_off rfl rfl rfl rfl <| wpl_off rfl rfl rfl rfl <| wpl_off rfl rfl rfl rfl <| wpl_q (q_pure rfl) rfl <| wpl_nil <| ex_then ?_
   refine wpc_cond_t rfl ?_
   refine wpc_seq <| wpc_region <| wpl_q (q_pure rfl) rfl <| wpl_nil <| ex_then <| wpc_ret ?_
   refine ex_then_ret ?_
   refine ret1 (.inl rfl) rfl rfl ?_
   exact fun w h => ⟨by first | rfl | simp, h.below⟩
  ·
   have hb2 : bs.length ≤ 2000 := by first | (have q := of_decide_eq_false hb16; omega) | omega
   refine wpl_on rfl rfl <| wpl_q (q_pure rfl) rfl <| wpl_on rfl rfl <| wpl_q (q_lenS Tryd.underlying9 rfl) rfl <| wpl_on rfl rfl <| wpl_q (q_pure rfl) rfl <| wpl_q (q_pure rfl) rfl <| wpl_nil <| ex_then ?_
   refine wpc_cond rfl (fun hc20 => ?_) (fun hc20 => ?_)
   ·
    try simp only [decide_eq_true_eq, decide_eq_false_iff_not, Bool.and_eq_true, Bool.or_eq_true, beq_iff_eq, bne_iff_ne, ne_eq, Bool.not_eq_true', Bool.not_eq_false', Decidable.not_not] at hc20
    refine wpc_seq <| wpc_region <| wpl_q (q_pure rfl) rfl <| wpl_nil <| ex_then <| wpc_ret ?_
    refine ex_then_ret ?_
    refine ret1 (.inl rfl) rfl rfl ?_
    exact fun w h => ⟨by first | rfl | simp, h.below⟩
   ·
    have hs2 : xs.length ≤ 2000 := by first | (have q := of_decide_eq_false hc20; omega) | (simp only [decide_eq_false_iff_not] at hc20; omega) | omega
    refine wpc_skip <| ex_then <| wpc_seq <| wpc_region <| wpl_q (q_pure rfl) rfl ?_
    refine wpl_tp (t_callP1 Tryd.hb20 rfl fun w h => fromHex xs w zz6) rfl (fun b23 p23 => ?_)
    refine wpl_q (q_pure rfl) rfl <| wpl_q (q_pure rfl) rfl <| wpl_q (q_pure rfl) rfl <| wpl_q (q_pure rfl) rfl <| wpl_q (q_pure rfl) rfl <| wpl_nil <| ex_then <| wpc_seq <| wpc_region <| wpl_q (q_pure rfl) rfl ?_
    refine wpl_tp (t_callP1 Tryd.hb21 rfl fun w h => refFromHex xs w zz6) rfl (fun b28 p28 => ?_)
    refine wpl_q (q_pure rfl) rfl <| wpl_q (q_pure rfl) rfl <| wpl_q (q_pure rfl) rfl <| wpl_q (q_pure rfl) rfl <| wpl_q (q_pure rfl) rfl <| wpl_nil <| ex_then <| wpc_seq <| wpc_region <| wpl_q (q_pure rfl) rfl ?_
    refine wpl_tp (t_callP1 Tryd.hb22 rfl fun w h => fromBase64 xs w zz6) rfl (fun b33 p33 => ?_)
    refine wpl_q (q_pure rfl) rfl <| wpl_q (q_pure rfl) rfl <| wpl_q (q_pure rfl) rfl <| wpl_q (q_pure rfl) rfl <| wpl_q (q_pure rfl) rfl <| wpl_nil <| ex_then <| wpc_seq <| wpc_region <| wpl_q (q_pure rfl) rfl ?_
    refine wpl_tp (t_callP1 Tryd.hb23 rfl fun w h => refFromBase64 xs w zz6) rfl (fun b38 p38 => ?_)
    refine wpl_q (q_pure rfl) rfl <| wpl_q (q_pure rfl) rfl <| wpl_q (q_pure rfl) rfl <| wpl_q (q_pure rfl) rfl <| wpl_q (q_pure rfl) rfl <| wpl_nil <| ex_then <| wpc_seq <| wpc_region <| wpl_q (q_pure rfl) rfl ?_
    refine wpl_t (t_pur Tryd.hb18 rfl fun w h => hexW bv bs w (h.seen_old hbv) zz6) rfl (fun b42 => ?_)
    refine wpl_q (q_pure rfl) rfl ?_
    refine wpl_t (t_pur Tryd.hb24 rfl fun w h => refHex bv bs w (h.seen_old hbv) zz6) rfl (fun b44 => ?_)
    refine wpl_q (q_tru (q_strEq Tryd.underlying9 rfl rfl zz3) rfl) rfl ?_
    refine wpl_q (q_pure rfl) rfl <| wpl_on rfl rfl <| wpl_q (q_pure rfl) rfl <| wpl_on rfl rfl ?_
    refine wpl_t (t_pur Tryd.hb19 rfl fun w h => base64 bv bs w (h.seen_old hbv) zz6) rfl (fun b48 => ?_)
    refine wpl_on rfl rfl <| wpl_q (q_pure rfl) rfl <| wpl_on rfl rfl ?_
    refine wpl_t (t_pur Tryd.hb25 rfl fun w h => refBase64 bv bs w (h.seen_old hbv) zz6) rfl (fun b50 => ?_)
    refine wpl_on rfl rfl ?_
    refine wpl_q (q_tru (q_strEq Tryd.underlying9 rfl rfl zz3) rfl) rfl ?_
    refine wpl_q (q_pure rfl) rfl <| wpl_q (q_pure rfl) rfl <| wpl_on rfl rfl <| wpl_q (q_pure rfl) rfl <| wpl_on rfl rfl <| wpl_q (q_pure rfl) rfl <| wpl_on rfl rfl ?_
    refine wpl_t (t_pur (v := .bool true) Tryd.hb15 rfl fun w h => by
      have q := refSame b23 (fhV xs) b28 (fhV xs) w (h.seen_row zz11) (h.seen_row zz11)
      rwa [decide_eq_true (rfl)] at q) rfl (fun b56 => ?_)
    refine wpl_q (q_pure rfl) rfl <| wpl_q (q_pure rfl) rfl <| wpl_on rfl rfl <| wpl_q (q_pure rfl) rfl <| wpl_on rfl rfl <| wpl_q (q_pure rfl) rfl <| wpl_on rfl rfl <| wpl_q (q_tru (q_eqI rfl rfl) rfl) rfl <| wpl_q (q_pure rfl) rfl <| wpl_q (q_pure rfl) rfl <| wpl_on rfl rfl <| wpl_q (q_pure rfl) rfl ?_
    refine wpl_on rfl rfl <| wpl_q (q_pure rfl) rfl <| wpl_on rfl rfl ?_
    refine wpl_t (t_pur (v := .bool true) Tryd.hb15 rfl fun w h => by
      have q := refSame b33 (fbV xs) b38 (fbV xs) w (h.seen_row zz11) (h.seen_row zz11)
      rwa [decide_eq_true (rfl)] at q) rfl (fun b66 => ?_)
    refine wpl_q (q_pure rfl) rfl <| wpl_q (q_pure rfl) rfl <| wpl_on rfl rfl <| wpl_q (q_pure rfl) rfl <| wpl_on rfl rfl <| wpl_q (q_pure rfl) rfl <| wpl_on rfl rfl <| wpl_q (q_tru (q_eqI rfl rfl) rfl) rfl <| wpl_q (q_pure rfl) rfl <| wpl_q (q_pure rfl) rfl <| wpl_nil <| ex_then ?_
    refine wpc_ret ?_
    refine ret1 (.inl rfl) rfl rfl ?_
    exact fun w h => ⟨by first | rfl | simp, h.below⟩
end Go.Proofs.YtlapmdiabhlbmaaDoor
