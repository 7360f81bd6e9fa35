/- Walk of a block's rounds: what is added to the registers. -/
import Derived.Test.YtoaeklbenmlooaaDoorD2
import Derived.Test.YtoaeklbenmlooaaDoorPLI
namespace Go.Proofs.YtoaeklbenmlooaaDoor
set_option linter.unusedSimpArgs false
set_option linter.unusedVariables false
open Go Go.PL Go.RowKit
/-- The constants of the rounds. -/
def rootsL : List UInt32 := [1116352408, 1899447441, 3049323471, 3921009573, 961987163, 1508970993, 2453635748, 2870763221, 3624381080, 310598401, 607225278, 1426881987, 1925078388, 2162078206, 2614888103, 3248222580, 3835390401, 4022224774, 264347078, 604807628, 770255983, 1249150122, 1555081692, 1996064986, 2554220882, 2821834349, 2952996808, 3210313671, 3336571891, 3584528711, 113926993, 338241895, 666307205, 773529912, 1294757372, 1396182291, 1695183700, 1986661051, 2177026350, 2456956037, 2730485921, 2820302411, 3259730800, 3345764771, 3516065817, 3600352804, 4094571909, 275423344, 430227734, 506948616, 659060556, 883997877, 958139571, 1322822218, 1537002063, 1747873779, 1955562222, 2024104815, 2227730452, 2361852424, 2428436474, 2756734187, 3204031479, 3329325298]
theorem rootsL_length : rootsL.length = 64 := rfl
def tF (k w : UInt32) (r : List UInt32) : UInt32 :=
  r.getD 7 0 + (rotlF (r.getD 4 0) (-6) ^^^ rotlF (r.getD 4 0) (-11) ^^^ rotlF (r.getD 4 0) (-25)) + ((r.getD 4 0 &&& r.getD 5 0) ^^^ (~~~ r.getD 4 0 &&& r.getD 6 0)) + k + w
def uF (r : List UInt32) : UInt32 :=
  (rotlF (r.getD 0 0) (-2) ^^^ rotlF (r.getD 0 0) (-13) ^^^ rotlF (r.getD 0 0) (-22)) + ((r.getD 0 0 &&& r.getD 1 0) ^^^ (r.getD 0 0 &&& r.getD 2 0) ^^^ (r.getD 1 0 &&& r.getD 2 0))
def roundF (k w : UInt32) (r : List UInt32) : List UInt32 :=
  [tF k w r + uF r, r.getD 0 0, r.getD 1 0, r.getD 2 0, r.getD 3 0 + tF k w r, r.getD 4 0, r.getD 5 0, r.getD 6 0]
def roundsF (ws st : List UInt32) : Nat → List UInt32
  | 0 => st
  | i + 1 => roundF (rootsL.getD i 0) (ws.getD i 0) (roundsF ws st i)
theorem roundsF_length (ws st : List UInt32) (h : st.length = 8) : ∀ i, (roundsF ws st i).length = 8
  | 0 => h
  | i + 1 => rfl
def sumN (st r : List UInt32) : Nat → List UInt32
  | 0 => st
  | i + 1 => (sumN st r i).set i ((sumN st r i).getD i 0 + r.getD i 0)
theorem sumN_length (st r : List UInt32) : ∀ i, (sumN st r i).length = st.length
  | 0 => rfl
  | i + 1 => by simp [sumN, sumN_length st r i]
def addF (st : List UInt32) (bs : List UInt8) : List UInt32 := sumN st (roundsF (wsF bs 64) st 64) 8
theorem addF_length (st : List UInt32) (bs : List UInt8) : (addF st bs).length = st.length := sumN_length _ _ _

set_option maxRecDepth 100000 in
theorem add (sb bb : Nat) (st : List UInt32) (bs : List UInt8) (hst : st.length = 8) (hbs : bs.length = 64) (w : World) (hs : w.heap[sb]? = some (.cells (v32s st).toArray 113 (0, 0))) (hb : CellsAt w.cell? ⟨bb, 0, none⟩ (v8s bs)) (hne : bb ≠ sb) (hro : CellsAt w.cell? ⟨0, 0, none⟩ (v32s rootsL)) (h0 : 0 ≠ sb) :
    Calls Tryd.prog 54 [.pointer (some ⟨sb, 0, none⟩), .pointer (some ⟨bb, 0, none⟩)].toArray w (GivesL w [sb] (fun _ : Unit => .tuple #[]) fun _ => [.blk sb 113 (v32s (addF st bs))]) := by
  refine enter (m := 111) (R := Mem w [sb] [.blk sb 113 (v32s st)] []) Tryd.func54 rfl rfl (Nat.le_of_ble_eq_true rfl) (Mem.start1 w hs) ?_
  refine wpc_seq ?_
  -- region 0
  refine wpc_region ?_
  refine wpl_q (q_pure rfl) rfl ?_
  refine wpl_q (q_pure rfl) rfl ?_
  refine wpl_q (q_ldN Tryd.underlying113 rfl Tryd.ti113 rfl (by first | rfl | (simp only [v8s_length, v32s_length, vis_length, v64s_length, List.length_replicate]; first | done | assumption | omega))) rfl ?_
  refine wpl_t (t_alloc Tryd.ti113 _ rfl) rfl ?_
  intro b4
  refine wpl_t0 (t_stA Tryd.ti113 rfl rfl (by first | rfl | (simp only [v8s_length, v32s_length, vis_length, v64s_length, List.length_replicate]; first | done | assumption | omega)) (v32s_one _) (by first | rfl | (simp only [v8s_length, v32s_length, vis_length, v64s_length, List.length_replicate]; first | done | assumption | omega))) ?_
  intro _
  refine wpl_nil ?_
  refine ex_then ?_
  refine wpc_seq ?_
  refine wpc_seq ?_
  -- region 1
  refine wpc_region ?_
  refine wpl_q (q_pure rfl) rfl ?_
  refine wpl_t (t_pur Tryd.hb72 rfl fun w' h => schedule bs hbs bb w' (h.at_oldL hb (by simpa using hne))) rfl ?_
  intro b16
  refine wpl_q (q_pure rfl) rfl ?_
  refine wpl_nil ?_
  refine ex_then ?_
  refine wpc_block ?_
  refine wpc_loop (ι := { i : Nat // i ≤ 64 }) (fun i => [(17, .int .i64 (i.1 : Nat)), (16, .agg (v32s (wsF bs 64)).toArray), (4, .pointer (some ⟨b4, 0, none⟩)), (0, .pointer (some ⟨sb, 0, none⟩))]) (fun i => Mem w [sb] [.blk b4 113 (v32s (roundsF (wsF bs 64) st i.1)), .blk sb 113 (v32s st)] []) (fun i => 64 - i.1) ⟨0, by omega⟩ ?_ ?_ ?_
  · exact by repeat (first | exact trivial | refine ⟨rfl, ?_⟩)
  · exact fun w h => h
  · rintro ⟨i, hi⟩; dsimp only
    have hrl := roundsF_length (wsF bs 64) st hst i
    have hwl := wsF_length bs 64
    refine wpc_seq ?_
    -- region 2
    refine wpc_region ?_
    refine wpl_q (q_pure rfl) rfl ?_
    refine wpl_nil ?_
    refine ex_then ?_
    refine wpc_seq ?_
    refine wpc_cond rfl (fun hc18 => ?_) (fun hc18 => ?_)
    ·
      simp only [decide_eq_true_eq, decide_eq_false_iff_not, Bool.and_eq_true, Bool.or_eq_true, beq_iff_eq, bne_iff_ne, ne_eq] at hc18
      refine wpc_skip ?_
      refine ex_then ?_
      refine wpc_seq ?_
      refine wpc_block ?_
      refine wpc_seq ?_
      -- region 3
      refine wpc_region ?_
      refine wpl_q (q_pure rfl) rfl ?_
      refine wpl_q (q_idxV Tryd.underlying119 Tryd.ti25 Tryd.underlying25 rfl rfl rfl (by omega) (by omega) (i) (by omega) (by first | exact v32s_get (by omega) | rfl)) rfl ?_
      refine wpl_q (q_pure rfl) rfl ?_
      refine wpl_q (q_pure rfl) rfl ?_
      refine wpl_nil ?_
      refine ex_then ?_
      refine wpc_seq ?_
      -- region 4
      refine wpc_draw 6 (by kernel_rfl) (fun _ h => h.drew) ?_
      refine wpd_p 0 rfl (by kernel_rfl) trivial (q_idxA Tryd.underlying113 Tryd.ti25 rfl rfl (by omega) (by omega) 0 rfl) rfl sk0 ?_
      refine wpd_q 1 rfl (by kernel_rfl) trivial (q_ld Tryd.underlying25 rfl rfl (by first | exact v32s_get (by omega) | rfl)) rfl (fun _ h => h) ?_
      refine wpd_p 2 rfl (by kernel_rfl) trivial (q_idxA Tryd.underlying113 Tryd.ti25 rfl rfl (by omega) (by omega) 4 rfl) rfl sk0 ?_
      refine wpd_q 3 rfl (by kernel_rfl) trivial (q_ld Tryd.underlying25 rfl rfl (by first | exact v32s_get (by omega) | rfl)) rfl (fun _ h => h) ?_
      refine wpd_p 4 rfl (by kernel_rfl) trivial (q_pure rfl) rfl sk0 ?_
      refine wpd_p 5 rfl (by kernel_rfl) trivial (q_pure rfl) rfl sk0 ?_
      refine wpd_done (by kernel_rfl) ?_
      refine ex_then ?_
      refine wpc_seq ?_
      -- region 5
      refine wpc_draw 29 (by kernel_rfl) (fun _ h => h.drew) ?_
      refine wpd_p 0 rfl (by kernel_rfl) trivial (q_idxA Tryd.underlying113 Tryd.ti25 rfl rfl (by omega) (by omega) 7 rfl) rfl sk0 ?_
      refine wpd_q 1 rfl (by kernel_rfl) trivial (q_ld Tryd.underlying25 rfl rfl (by first | exact v32s_get (by omega) | rfl)) rfl (fun _ h => h) ?_
      refine wpd_p 2 rfl (by kernel_rfl) trivial (q_pure rfl) rfl sk0 ?_
      refine wpd_p 4 rfl (by kernel_rfl) trivial (q_pure rfl) rfl sk0 ?_
      refine wpd_p 7 rfl (by kernel_rfl) trivial (q_pure rfl) rfl sk0 ?_
      refine wpd_p 11 rfl (by kernel_rfl) trivial (q_pure rfl) rfl sk0 ?_
      refine wpd_p 12 rfl (by kernel_rfl) trivial (q_idxA Tryd.underlying113 Tryd.ti25 rfl rfl (by omega) (by omega) 5 rfl) rfl sk0 ?_
      refine wpd_q 13 rfl (by kernel_rfl) trivial (q_ld Tryd.underlying25 rfl rfl (by first | exact v32s_get (by omega) | rfl)) rfl (fun _ h => h) ?_
      refine wpd_p 14 rfl (by kernel_rfl) trivial (q32_and rfl rfl) rfl sk0 ?_
      refine wpd_p 15 rfl (by kernel_rfl) trivial (q_pure rfl) rfl sk0 ?_
      refine wpd_p 16 rfl (by kernel_rfl) trivial (q32_not rfl) rfl sk0 ?_
      refine wpd_p 17 rfl (by kernel_rfl) trivial (q_idxA Tryd.underlying113 Tryd.ti25 rfl rfl (by omega) (by omega) 6 rfl) rfl sk0 ?_
      refine wpd_q 18 rfl (by kernel_rfl) trivial (q_ld Tryd.underlying25 rfl rfl (by first | exact v32s_get (by omega) | rfl)) rfl (fun _ h => h) ?_
      refine wpd_p 19 rfl (by kernel_rfl) trivial (q32_and rfl rfl) rfl sk0 ?_
      refine wpd_p 20 rfl (by kernel_rfl) trivial (q32_xor rfl rfl) rfl sk0 ?_
      refine wpd_p 22 rfl (by kernel_rfl) trivial (q_pure rfl) rfl sk0 ?_
      refine wpd_p 23 rfl (by kernel_rfl) trivial (q_idxA Tryd.underlying119 Tryd.ti25 rfl rfl (by omega) (by omega) (i) (by omega)) rfl sk0 ?_
      refine wpd_q 24 rfl (by kernel_rfl) trivial (q_load1 Tryd.underlying25 rfl rfl (fun w h => h.cell_oldL (hro.at_ (v32s_get (by rw [rootsL_length]; omega))) (by simpa using h0))) rfl (fun _ h => h) ?_
      refine wpd_p 26 rfl (by kernel_rfl) trivial (q_pure rfl) rfl sk0 ?_
      refine wpd_t 3 rfl (by kernel_rfl) trivial (t_pur Tryd.hb73 rfl fun w h => turn _ _ (by decide) (by decide) _) rfl (fun _ => sk0) ?_
      intro b28
      refine wpd_t 5 rfl (by kernel_rfl) trivial (t_pur Tryd.hb73 rfl fun w h => turn _ _ (by decide) (by decide) _) rfl (fun _ => sk0) ?_
      intro b30
      refine wpd_p 6 rfl (by kernel_rfl) trivial (q32_xor rfl rfl) rfl sk0 ?_
      refine wpd_t 8 rfl (by kernel_rfl) trivial (t_pur Tryd.hb73 rfl fun w h => turn _ _ (by decide) (by decide) _) rfl (fun _ => sk0) ?_
      intro b33
      refine wpd_p 9 rfl (by kernel_rfl) trivial (q32_xor rfl rfl) rfl sk0 ?_
      refine wpd_p 10 rfl (by kernel_rfl) trivial (q32_add rfl rfl) rfl sk0 ?_
      refine wpd_p 21 rfl (by kernel_rfl) trivial (q32_add rfl rfl) rfl sk0 ?_
      refine wpd_p 25 rfl (by kernel_rfl) trivial (q32_add rfl rfl) rfl sk0 ?_
      refine wpd_p 27 rfl (by kernel_rfl) trivial (q32_add rfl rfl) rfl sk0 ?_
      refine wpd_p 28 rfl (by kernel_rfl) trivial (q_pure rfl) rfl sk0 ?_
      refine wpd_done (by kernel_rfl) ?_
      refine ex_then ?_
      refine wpc_seq ?_
      -- region 6
      refine wpc_draw 25 (by kernel_rfl) (fun _ h => h.drew) ?_
      refine wpd_p 0 rfl (by kernel_rfl) trivial (q_pure rfl) rfl sk0 ?_
      refine wpd_p 2 rfl (by kernel_rfl) trivial (q_pure rfl) rfl sk0 ?_
      refine wpd_p 5 rfl (by kernel_rfl) trivial (q_pure rfl) rfl sk0 ?_
      refine wpd_p 8 rfl (by kernel_rfl) trivial (q_pure rfl) rfl sk0 ?_
      refine wpd_p 9 rfl (by kernel_rfl) trivial (q_idxA Tryd.underlying113 Tryd.ti25 rfl rfl (by omega) (by omega) 1 rfl) rfl sk0 ?_
      refine wpd_q 10 rfl (by kernel_rfl) trivial (q_ld Tryd.underlying25 rfl rfl (by first | exact v32s_get (by omega) | rfl)) rfl (fun _ h => h) ?_
      refine wpd_p 11 rfl (by kernel_rfl) trivial (q32_and rfl rfl) rfl sk0 ?_
      refine wpd_p 12 rfl (by kernel_rfl) trivial (q_pure rfl) rfl sk0 ?_
      refine wpd_p 13 rfl (by kernel_rfl) trivial (q_idxA Tryd.underlying113 Tryd.ti25 rfl rfl (by omega) (by omega) 2 rfl) rfl sk0 ?_
      refine wpd_q 14 rfl (by kernel_rfl) trivial (q_ld Tryd.underlying25 rfl rfl (by first | exact v32s_get (by omega) | rfl)) rfl (fun _ h => h) ?_
      refine wpd_p 15 rfl (by kernel_rfl) trivial (q32_and rfl rfl) rfl sk0 ?_
      refine wpd_p 16 rfl (by kernel_rfl) trivial (q32_xor rfl rfl) rfl sk0 ?_
      refine wpd_p 17 rfl (by kernel_rfl) trivial (q_idxA Tryd.underlying113 Tryd.ti25 rfl rfl (by omega) (by omega) 1 rfl) rfl sk0 ?_
      refine wpd_q 18 rfl (by kernel_rfl) trivial (q_ld Tryd.underlying25 rfl rfl (by first | exact v32s_get (by omega) | rfl)) rfl (fun _ h => h) ?_
      refine wpd_p 19 rfl (by kernel_rfl) trivial (q_idxA Tryd.underlying113 Tryd.ti25 rfl rfl (by omega) (by omega) 2 rfl) rfl sk0 ?_
      refine wpd_q 20 rfl (by kernel_rfl) trivial (q_ld Tryd.underlying25 rfl rfl (by first | exact v32s_get (by omega) | rfl)) rfl (fun _ h => h) ?_
      refine wpd_p 21 rfl (by kernel_rfl) trivial (q32_and rfl rfl) rfl sk0 ?_
      refine wpd_p 22 rfl (by kernel_rfl) trivial (q32_xor rfl rfl) rfl sk0 ?_
      refine wpd_t 1 rfl (by kernel_rfl) trivial (t_pur Tryd.hb73 rfl fun w h => turn _ _ (by decide) (by decide) _) rfl (fun _ => sk0) ?_
      intro b54
      refine wpd_t 3 rfl (by kernel_rfl) trivial (t_pur Tryd.hb73 rfl fun w h => turn _ _ (by decide) (by decide) _) rfl (fun _ => sk0) ?_
      intro b56
      refine wpd_p 4 rfl (by kernel_rfl) trivial (q32_xor rfl rfl) rfl sk0 ?_
      refine wpd_t 6 rfl (by kernel_rfl) trivial (t_pur Tryd.hb73 rfl fun w h => turn _ _ (by decide) (by decide) _) rfl (fun _ => sk0) ?_
      intro b59
      refine wpd_p 7 rfl (by kernel_rfl) trivial (q32_xor rfl rfl) rfl sk0 ?_
      refine wpd_p 23 rfl (by kernel_rfl) trivial (q32_add rfl rfl) rfl sk0 ?_
      refine wpd_p 24 rfl (by kernel_rfl) trivial (q_pure rfl) rfl sk0 ?_
      refine wpd_done (by kernel_rfl) ?_
      refine ex_then ?_
      -- region 7
      refine wpc_region ?_
      refine wpl_q (q_pure rfl) rfl ?_
      refine wpl_q (q_pure rfl) rfl ?_
      refine wpl_q (q32_add rfl rfl) rfl ?_
      refine wpl_q (q_pure rfl) rfl ?_
      refine wpl_q (q_idxA Tryd.underlying113 Tryd.ti25 rfl rfl (by omega) (by omega) 1 rfl) rfl ?_
      refine wpl_q (q_ld Tryd.underlying25 rfl rfl (by first | exact v32s_get (by omega) | rfl)) rfl ?_
      refine wpl_q (q_idxA Tryd.underlying113 Tryd.ti25 rfl rfl (by omega) (by omega) 2 rfl) rfl ?_
      refine wpl_q (q_ld Tryd.underlying25 rfl rfl (by first | exact v32s_get (by omega) | rfl)) rfl ?_
      refine wpl_q (q_idxA Tryd.underlying113 Tryd.ti25 rfl rfl (by omega) (by omega) 3 rfl) rfl ?_
      refine wpl_q (q_ld Tryd.underlying25 rfl rfl (by first | exact v32s_get (by omega) | rfl)) rfl ?_
      refine wpl_q (q_pure rfl) rfl ?_
      refine wpl_q (q32_add rfl rfl) rfl ?_
      refine wpl_q (q_pure rfl) rfl ?_
      refine wpl_q (q_idxA Tryd.underlying113 Tryd.ti25 rfl rfl (by omega) (by omega) 5 rfl) rfl ?_
      refine wpl_q (q_ld Tryd.underlying25 rfl rfl (by first | exact v32s_get (by omega) | rfl)) rfl ?_
      refine wpl_q (q_idxA Tryd.underlying113 Tryd.ti25 rfl rfl (by omega) (by omega) 6 rfl) rfl ?_
      refine wpl_q (q_ld Tryd.underlying25 rfl rfl (by first | exact v32s_get (by omega) | rfl)) rfl ?_
      refine wpl_q (q_buildFull (v32s (roundF (rootsL.getD i 0) ((wsF bs 64).getD i 0) (roundsF (wsF bs 64) st i))) Tryd.underlying113 Tryd.ti113 Tryd.ti25 rfl rfl (v32s_one _) rfl) rfl ?_
      refine wpl_t0 (t_stA Tryd.ti113 rfl rfl (v32s_length _) (v32s_one _) ((v32s_length _).trans hrl)) ?_
      intro _
      refine wpl_nil ?_
      refine ex_block ?_
      refine ex_then ?_
      -- region 8
      refine wpc_region ?_
      first | refine wpl_q (qop_eq (q_pure rfl) (congrArg (Value.int .i64) (wk_i64 (by omega) (by omega)))) rfl ?_ | refine wpl_q (q_pure rfl) rfl ?_
      refine wpl_q (q_pure rfl) rfl ?_
      refine wpl_nil ?_
      refine ex_again ⟨i + 1, by omega⟩ ?_ ?_ ?_
      · exact (by repeat (first | exact trivial | refine ⟨rfl, ?_⟩))
      · exact fun w h => h
      · show 64 - (i + 1) < 64 - i; omega
    ·
      simp only [decide_eq_false_iff_not] at hc18
      obtain rfl : i = 64 := by omega
      have hrl := roundsF_length (wsF bs 64) st hst 64
      refine wpc_exit ?_
      refine ex_then_exit ?_
      refine ex_then_exit ?_
      refine ex_block_hit ?_
      refine ex_then ?_
      refine wpc_seq ?_
      -- region 9
      refine wpc_region ?_
      refine wpl_q (q_pure rfl) rfl ?_
      refine wpl_nil ?_
      refine ex_then ?_
      refine wpc_block ?_
      refine wpc_loop (ι := { j : Nat // j ≤ 8 }) (fun i => [(96, .int .i64 (i.1 : Nat)), (4, .pointer (some ⟨b4, 0, none⟩)), (0, .pointer (some ⟨sb, 0, none⟩))]) (fun j => Mem w [sb] [.blk b4 113 (v32s (roundsF (wsF bs 64) st 64)), .blk sb 113 (v32s (sumN st (roundsF (wsF bs 64) st 64) j.1))] []) (fun j => 8 - j.1) ⟨0, by omega⟩ ?_ ?_ ?_
      · exact by repeat (first | exact trivial | refine ⟨rfl, ?_⟩)
      · exact fun w h => h
      · rintro ⟨j, hj⟩; dsimp only
        have hsl := (sumN_length st (roundsF (wsF bs 64) st 64) j).trans hst
        refine wpc_seq ?_
        -- region 10
        refine wpc_region ?_
        refine wpl_q (q_pure rfl) rfl ?_
        refine wpl_nil ?_
        refine ex_then ?_
        refine wpc_seq ?_
        refine wpc_cond rfl (fun hc97 => ?_) (fun hc97 => ?_)
        ·
          simp only [decide_eq_true_eq, decide_eq_false_iff_not, Bool.and_eq_true, Bool.or_eq_true, beq_iff_eq, bne_iff_ne, ne_eq] at hc97
          refine wpc_skip ?_
          refine ex_then ?_
          refine wpc_seq ?_
          refine wpc_block ?_
          refine wpc_seq ?_
          -- region 11
          refine wpc_region ?_
          refine wpl_q (q_pure rfl) rfl ?_
          refine wpl_q (q_pure rfl) rfl ?_
          refine wpl_nil ?_
          refine ex_then ?_
          -- region 12
          refine wpc_draw 11 (by kernel_rfl) (fun _ h => h.drew) ?_
          refine wpd_p 0 rfl (by kernel_rfl) trivial (q_pure rfl) rfl sk0 ?_
          refine wpd_p 1 rfl (by kernel_rfl) trivial (q_pure rfl) rfl sk0 ?_
          refine wpd_p 2 rfl (by kernel_rfl) trivial (q_pure rfl) rfl sk0 ?_
          refine wpd_p 3 rfl (by kernel_rfl) trivial (q_idxA Tryd.underlying113 Tryd.ti25 rfl rfl (by omega) (by omega) (j) (by omega)) rfl sk0 ?_
          refine wpd_q 4 rfl (by kernel_rfl) trivial (q_ld Tryd.underlying25 rfl rfl (by first | exact v32s_get (by omega) | rfl)) rfl (fun _ h => h) ?_
          refine wpd_p 5 rfl (by kernel_rfl) trivial (q_pure rfl) rfl sk0 ?_
          refine wpd_p 6 rfl (by kernel_rfl) trivial (q_idxA Tryd.underlying113 Tryd.ti25 rfl rfl (by omega) (by omega) (j) (by omega)) rfl sk0 ?_
          refine wpd_q 7 rfl (by kernel_rfl) trivial (q_ld Tryd.underlying25 rfl rfl (by first | exact v32s_get (by omega) | rfl)) rfl (fun _ h => h) ?_
          refine wpd_p 8 rfl (by kernel_rfl) trivial (q32_add rfl rfl) rfl sk0 ?_
          refine wpd_p 9 rfl (by kernel_rfl) trivial (q_pure rfl) rfl sk0 ?_
          refine wpd_p 10 rfl (by kernel_rfl) trivial (q_idxA Tryd.underlying113 Tryd.ti25 rfl rfl (by omega) (by omega) (j) (by omega)) rfl sk0 ?_
          refine wpd_t0 11 rfl (by kernel_rfl) trivial (t_st1 Tryd.ti25 rfl rfl rfl (by first | decide | (simp; omega) | (simp only [v8s_length, v32s_length, vis_length, v64s_length]; omega)) _ (by first | exact v32s_set _ | rfl)) (fun _ => skk rfl) ?_
          intro _
          refine wpd_done (by kernel_rfl) ?_
          refine ex_block ?_
          refine ex_then ?_
          -- region 13
          refine wpc_region ?_
          first | refine wpl_q (qop_eq (q_pure rfl) (congrArg (Value.int .i64) (wk_i64 (by omega) (by omega)))) rfl ?_ | refine wpl_q (q_pure rfl) rfl ?_
          refine wpl_q (q_pure rfl) rfl ?_
          refine wpl_nil ?_
          refine ex_again ⟨j + 1, by omega⟩ ?_ ?_ ?_
          · exact (by repeat (first | exact trivial | refine ⟨rfl, ?_⟩))
          · exact fun w h => h
          · show 8 - (j + 1) < 8 - j; omega
        ·
          simp only [decide_eq_true_eq, decide_eq_false_iff_not, Bool.and_eq_true, Bool.or_eq_true, beq_iff_eq, bne_iff_ne, ne_eq] at hc97
          refine wpc_exit ?_
          refine ex_then_exit ?_
          refine ex_then_exit ?_
          refine ex_block_hit ?_
          refine ret0 (.inr rfl) rfl ?_
          obtain rfl : j = 8 := by omega
          exact fun w h => ⟨(), rfl, h.sub (.drop (Sub.refl _)) .nil⟩

end Go.Proofs.YtoaeklbenmlooaaDoor