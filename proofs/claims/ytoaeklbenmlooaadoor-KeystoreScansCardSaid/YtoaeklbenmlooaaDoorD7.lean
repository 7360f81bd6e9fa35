/- Sum and Short. -/
import Derived.Test.YtoaeklbenmlooaaDoorD6
namespace Go.Proofs.YtoaeklbenmlooaaDoor
set_option linter.unusedSimpArgs false
set_option linter.unusedVariables false
open Go Go.PL Go.RowKit
theorem joinF_length (ps : List (List UInt8)) : (joinF ps).length = 32 := outN_length _ _
theorem parts_one {w0 w : World} {M : List Ent} {S : List Fact} {g : Nat} {bv : Value} {bs : List UInt8} (h : Mem w0 [] (.row (.slice (some ⟨g, 0, none⟩) 1 1) 1 22 1 [bv] :: M) S w) (hb : Seen w0.cell? bv bs.length 1 (v8s bs)) : Parts w.cell? (.slice (some ⟨g, 0, none⟩) 1 1) [(bv, bs)] :=
  ⟨h.seen_row (List.mem_cons_self ..), fun q hq => by simp at hq; subst hq; exact h.seen_old hb⟩

set_option maxRecDepth 100000 in
theorem short (bv : Value) (bs : List UInt8) (w : World) (hb : Seen w.cell? bv bs.length 1 (v8s bs)) (hro : CellsAt w.cell? ⟨0, 0, none⟩ (v32s rootsL)) (hsz : 0 < w.heap.size) :
    Calls Tryd.prog 23 [bv].toArray w (Pur w (.agg (v8s ((joinF [bs]).take 16)).toArray)) := by
  refine enter (m := 10) (R := Mem w [] [] []) Tryd.func23 rfl rfl (Nat.le_of_ble_eq_true rfl) (Mem.start w) ?_
  refine wpc_seq ?_
  -- region 0
  refine wpc_region ?_
  refine wpl_t (t_alloc Tryd.ti31 (v8s (List.replicate 16 0)) (by rfl)) rfl ?_
  intro b2
  refine wpl_nil ?_
  refine ex_then ?_
  refine wpc_seq ?_
  -- region 1
  refine wpc_region ?_
  refine wpl_q (q_pure rfl) rfl ?_
  refine wpl_t (t_buildSlice [bv] Tryd.underlying111 Tryd.ti22 rfl (by decide) (by decide) rfl (by obtain ⟨_, _, rfl, _⟩ := hb.form; rfl) rfl) rfl ?_
  intro b5
  refine wpl_t (t_pur Tryd.hb36 rfl fun w' h => join _ [(bv, bs)] w' (parts_one h hb) (h.at_old hro) (Nat.lt_of_lt_of_le hsz h.size)) rfl ?_
  intro b6
  refine wpl_t (t_alloc Tryd.ti24 (v8s (List.replicate 32 0)) (by rfl)) rfl ?_
  intro b3
  refine wpl_t0 (t_stA Tryd.ti24 rfl rfl ((v8s_length _).trans (joinF_length _)) (v8s_one _) ((v8s_length _).trans rfl)) ?_
  intro _
  refine wpl_nil ?_
  refine ex_then ?_
  refine wpc_seq ?_
  -- region 2
  refine wpc_region ?_
  refine wpl_q (q_ar_h Tryd.underlying24 Tryd.ti5 rfl rfl (by decide) (by decide) 16 rfl) rfl ?_
  refine wpl_q (q_s2a Tryd.underlying31 rfl (by decide)) rfl ?_
  refine wpl_q (q_ldP Tryd.underlying31 rfl Tryd.ti31 rfl (v8s ((joinF [bs]).take 16)) (by rw [List.drop_zero, v8s_take]; rfl) (by rw [v8s_length, List.length_take, joinF_length]; rfl)) rfl ?_
  refine wpl_t0 (t_stA Tryd.ti31 rfl rfl (by rw [v8s_length, List.length_take, joinF_length]; rfl) (v8s_one _) ((v8s_length _).trans rfl)) ?_
  intro _
  refine wpl_nil ?_
  refine ex_then ?_
  refine wpc_ret ?_
  refine retv1 (.inl rfl) rfl (rv_agg Tryd.underlying31 rfl Tryd.ti31 rfl (fun w h => h.cells_blk (by repeat (first | exact List.mem_cons_self .. | apply List.mem_cons_of_mem))) (by rw [v8s_length, List.length_take, joinF_length]; rfl)) ?_
  exact fun w h => ⟨rfl, h.below⟩

end Go.Proofs.YtoaeklbenmlooaaDoor