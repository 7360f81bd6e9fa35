/- Join: the digest of bytes one after the other. -/
import Derived.Test.YtoaeklbenmlooaaDoorD5
namespace Go.Proofs.YtoaeklbenmlooaaDoor
set_option linter.unusedSimpArgs false
set_option linter.unusedVariables false
open Go Go.PL Go.RowKit
def initS : List UInt32 := [1779033703, 3144134277, 1013904242, 2773480762, 1359893119, 2600822924, 528734635, 1541459225]
def stF2 (bl : List (List UInt8)) : List UInt32 := bl.foldl addF initS
theorem stF2_length (bl : List (List UInt8)) : (stF2 bl).length = 8 := by
  suffices h : ∀ (bl : List (List UInt8)) (s : List UInt32), s.length = 8 → (bl.foldl addF s).length = 8 from h bl initS rfl
  intro bl
  induction bl with
  | nil => exact fun s h => h
  | cons x r ih => exact fun s h => ih _ ((addF_length s x).trans h)
def outN (st : List UInt32) : Nat → List UInt8
  | 0 => List.replicate 32 0
  | i + 1 => (outN st i).set i (of8 (sr32 (st.getD (i / 4) 0) (24 - 8 * (i % 4))).toNat)
theorem outN_length (st : List UInt32) : ∀ i, (outN st i).length = 32
  | 0 => rfl
  | i + 1 => by simp [outN, outN_length st i]
def joinF (ps : List (List UInt8)) : List UInt8 := outN (stF2 (blocksF ps)) 32
theorem blocksF_64 (ps : List (List UInt8)) : ∀ x ∈ blocksF ps, x.length = 64 := by
  intro x hx
  unfold blocksF at hx
  rcases List.mem_append.1 hx with hx | hx
  · unfold chunksF at hx
    obtain ⟨i, hi, rfl⟩ := List.mem_map.1 hx
    have hi' := List.mem_range.1 hi
    rw [List.length_take, List.length_drop]
    omega
  · simp at hx
    subst hx
    rw [setLen_length, bufF_length]
def joinM (pb b3 b2 : Nat) (pv : Value) (pre : List (List UInt8)) : List Ent := [.blk pb 111 [pv], .blk b3 113 (v32s (stF2 pre)), .blk b2 24 (v8s (List.replicate 32 0))]
theorem join_it (w : World) (pb : Nat) (pv : Value) (ps : List (Value × List UInt8)) : IterOk Tryd.prog 70 #[.pointer (some ⟨pb, 0, none⟩)] encB AtB (InvB pb pv ps) (blocksF (ps.map Prod.snd)) w := by
  intro l J hst hinv hy hJ0
  exact iter J w l _ pb pv ps hst (fun T b hb pre x w1 hJ hpre hh => hy T pre x b w1 hJ hpre ⟨hb, hh⟩) rfl hinv hJ0
theorem atB_stab (T : List Nat) (x : List UInt8) (b : Nat) (w w' : World) (h : AtB T x b w) (h2 : ∀ j, j ∈ T → w'.heap[j]? = w.heap[j]?) : AtB T x b w' := ⟨h.1, (h2 b h.1).trans h.2⟩
theorem inv_join {w0 w : World} {pb b3 b2 : Nat} {pv : Value} {ps : List (Value × List UInt8)} {pre : List (List UInt8)} (hP : Parts w0.cell? pv ps) (h : Mem w0 [] (joinM pb b3 b2 pv pre) [] w) : InvB pb pv ps w :=
  ⟨h.own (.blk pb 111 [pv]) (by simp [joinM]), h.seen_old hP.1, fun q hq => h.seen_old (hP.2 q hq)⟩

set_option maxRecDepth 100000 in
theorem blocks (pv : Value) (hc : pv.cells.toList = [pv]) (w : World) :
    Calls Tryd.prog 53 [pv].toArray w (Gives w (fun pb : Nat => .func (.func 70) #[] #[.pointer (some ⟨pb, 0, none⟩)]) (fun pb => [.blk pb 111 [pv]]) (fun _ => [])) := by
  refine enter (m := 4) (R := Mem w [] [] []) Tryd.func53 rfl rfl (Nat.le_of_ble_eq_true rfl) (Mem.start w) ?_
  refine wpc_seq ?_
  -- region 0
  refine wpc_region ?_
  refine wpl_t (t_box rfl [pv] hc) rfl ?_
  intro b1
  refine wpl_q (q_pure rfl) rfl ?_
  refine wpl_nil ?_
  refine ex_then ?_
  refine wpc_seq ?_
  -- region 1
  refine wpc_region ?_
  refine wpl_q (q_fn (us := []) (vs := [.pointer (some ⟨b1, 0, none⟩)]) rfl rfl) rfl ?_
  refine wpl_q (q_pure rfl) rfl ?_
  refine wpl_nil ?_
  refine ex_then ?_
  refine wpc_ret ?_
  refine ret1 (.inl rfl) rfl rfl ?_
  exact fun w h => ⟨b1, rfl, h.below, h.made (Sub.refl _) .nil⟩

theorem quo4 (i : Nat) (h : i ≤ 64) : wk .i64 (Int.tdiv (i : Int) 4) = ((i / 4 : Nat) : Int) := by
  have e : Int.tdiv (i : Int) 4 = ((i / 4 : Nat) : Int) := rfl
  rw [e, wk_i64 (by omega) (by omega)]
theorem rem4 (i : Nat) (h : i ≤ 64) : wk .i64 (Int.tmod (i : Int) 4) = ((i % 4 : Nat) : Int) := by
  have e : Int.tmod (i : Int) 4 = ((i % 4 : Nat) : Int) := rfl
  rw [e, wk_i64 (by omega) (by omega)]
set_option maxRecDepth 100000 in
theorem join (pv : Value) (ps : List (Value × List UInt8)) (w : World) (hP : Parts w.cell? pv ps) (hro : CellsAt w.cell? ⟨0, 0, none⟩ (v32s rootsL)) (hsz : 0 < w.heap.size) :
    Calls Tryd.prog 36 [pv].toArray w (Pur w (.agg (v8s (joinF (ps.map Prod.snd))).toArray)) := by
  have hcell : pv.cells.toList = [pv] := by obtain ⟨_, _, rfl, _⟩ := hP.1.form; rfl
  refine enterM (m := 30) (R := Mem w [] [] []) Tryd.func36 rfl rfl (Nat.le_of_ble_eq_true rfl) (Mem.start w) ?_
  refine wpc_seq ?_
  -- region 0
  refine wpc_region ?_
  refine wpl_t (t_alloc Tryd.ti24 (v8s (List.replicate 32 0)) (by rfl)) rfl ?_
  intro b2
  refine wpl_nil ?_
  refine ex_then ?_
  refine wpc_seq ?_
  -- region 1
  refine wpc_region ?_
  refine wpl_q (q_buildFull (v32s initS) Tryd.underlying113 Tryd.ti113 Tryd.ti25 rfl rfl (v32s_one _) rfl) rfl ?_
  refine wpl_t (t_alloc Tryd.ti113 (v32s (List.replicate 8 0)) (by rfl)) rfl ?_
  intro b3
  refine wpl_t0 (t_stA Tryd.ti113 rfl rfl rfl (v32s_one _) rfl) ?_
  intro _
  refine wpl_nil ?_
  refine ex_then ?_
  refine wpc_seq ?_
  refine wpc_seq ?_
  -- region 2
  refine wpc_region ?_
  refine wpl_q (q_pure rfl) rfl ?_
  refine wpl_t (t_call Tryd.hb53 rfl fun w h => blocks pv hcell w) rfl ?_
  intro b9
  refine wpl_nil ?_
  refine ex_then ?_
  refine wpc_block ?_
  refine wpc_range (xs := blocksF (ps.map Prod.snd)) (At := AtB) (Inv := InvB b9 pv ps) (encs := encB) (joinM b9 b3 b2 pv) (fun x b => [(4, .pointer (some ⟨b, 0, none⟩)), (3, .pointer (some ⟨b3, 0, none⟩)), (2, .pointer (some ⟨b2, 0, none⟩))]) rfl Tryd.hb70 (fun w h => join_it w b9 pv ps) (fun pre w h => inv_join hP h) atB_stab (fun _ _ => rfl) (by decide) ?_ ?_ ?_
  · intro l x b R K hK
    refine wpci_region ?_
    refine wpli_q (open_round l) (q_pure rfl) rfl ?_
    refine wpli_nil ?_
    exact ex_assign hK (by repeat (first | exact trivial | refine ⟨rfl, ?_⟩))
  · intro l pre x b w1 T hpre hm hat hT
    have hx : x.length = 64 := blocksF_64 _ x (hpre.subset (by simp))
    have hnew : ∀ k, k ∈ nums (joinM b9 b3 b2 pv pre) → w.heap.size ≤ k := fun k hk => by
      obtain ⟨e, he, hn⟩ := mem_nums.1 hk
      exact (hm.new e he k hn).resolve_right (by simp)
    have hbn : b ∉ nums (joinM b9 b3 b2 pv pre) := fun hk => by
      obtain ⟨e, he, hn⟩ := mem_nums.1 hk
      exact inM_not (hT b hat.1).2 e he hn
    have h0n : 0 ∉ nums (joinM b9 b3 b2 pv pre) := fun hk => by have := hnew 0 hk; omega
    have hb3 : b3 ∈ nums (joinM b9 b3 b2 pv pre) := by simp [joinM, nums, Ent.num]
    show WPCI _ _ _ _ (Mem w1 (nums (joinM b9 b3 b2 pv pre)) [.blk b9 111 [pv], .blk b3 113 (v32s (stF2 pre)), .blk b2 24 (v8s (List.replicate 32 0))] []) _ _
    refine wpci_block ?_
    refine wpci_region ?_
    refine wpli_q (open_round l) (q_pure rfl) rfl ?_
    have hst : stF2 (pre ++ [x]) = addF (stF2 pre) x := by simp [stF2]
    refine wpli_t (open_round l) (t_turn1 b3 Tryd.hb54 rfl fun w' h hs => add b3 b (stF2 pre) x (stF2_length _) hx w' hs (h.at_oldL (fun j v hj => by rw [add_lit, Nat.zero_add]; exact cell_of_heap hat.2 (by simpa using hj)) hbn) (fun e => hbn (e ▸ hb3)) (h.at_oldL (hm.at_old hro) h0n) (fun e => h0n (e ▸ hb3))) rfl fun _ => ?_
    refine wpli_nil ?_
    refine ex_block ?_
    exact ex_round fun _ h => by
      have e : joinM b9 b3 b2 pv (pre ++ [x]) = [.blk b9 111 [pv], .blk b3 113 (v32s (addF (stF2 pre) x)), .blk b2 24 (v8s (List.replicate 32 0))] := by rw [joinM, hst]
      rw [e]; exact h
  intro D
  refine ex_block ?_
  refine ex_then ?_
  refine wpc_seq ?_
  -- region 5
  refine wpc_region ?_
  refine wpl_t (t_alloc Tryd.ti24 (v8s (outN (stF2 (blocksF (ps.map Prod.snd))) 0)) (by rfl)) rfl ?_
  intro b5
  refine wpl_nil ?_
  refine ex_then ?_
  refine wpc_seq ?_
  refine wpc_seq ?_
  -- region 6
  refine wpc_region ?_
  refine wpl_q (q_pure rfl) rfl ?_
  refine wpl_nil ?_
  refine ex_then ?_
  refine wpc_block ?_
  refine wpc_loop (ι := { i : Nat // i ≤ 32 }) (fun i => [(13, .int .i64 (i.1 : Nat)), (5, .pointer (some ⟨b5, 0, none⟩)), (3, .pointer (some ⟨b3, 0, none⟩)), (2, .pointer (some ⟨b2, 0, none⟩))]) (fun i => Mem w [] (.blk b5 24 (v8s (outN (stF2 (blocksF (ps.map Prod.snd))) i.1)) :: .obj D (.deferred (some [])) :: joinM b9 b3 b2 pv (blocksF (ps.map Prod.snd))) []) (fun i => 32 - i.1) ⟨0, by omega⟩ ?_ ?_ ?_
  · exact by repeat (first | exact trivial | refine ⟨rfl, ?_⟩)
  · exact fun w h => h
  · rintro ⟨i, hi⟩; dsimp only
    have hol := outN_length (stF2 (blocksF (ps.map Prod.snd))) i
    have hsl := stF2_length (blocksF (ps.map Prod.snd))
    simp only [joinM]
    refine wpc_seq ?_
    -- region 7
    refine wpc_region ?_
    refine wpl_q (q_pure rfl) rfl ?_
    refine wpl_nil ?_
    refine ex_then ?_
    refine wpc_seq ?_
    refine wpc_cond rfl (fun hc14 => ?_) (fun hc14 => ?_)
    ·
      simp only [decide_eq_true_eq, decide_eq_false_iff_not, Bool.and_eq_true, Bool.or_eq_true, beq_iff_eq, bne_iff_ne, ne_eq] at hc14
      refine wpc_skip ?_
      refine ex_then ?_
      refine wpc_seq ?_
      refine wpc_block ?_
      refine wpc_seq ?_
      -- region 8
      refine wpc_region ?_
      refine wpl_q (q_pure rfl) rfl ?_
      refine wpl_q (q_pure rfl) rfl ?_
      refine wpl_nil ?_
      refine ex_then ?_
      -- region 9
      refine wpc_region ?_
      refine wpl_q (q_pure rfl) rfl ?_
      refine wpl_q (q_pure rfl) rfl ?_
      refine wpl_q (qop_eq (q_quo rfl rfl (by decide)) (v := .int .i64 ((i / 4 : Nat) : Int)) (congrArg (Value.int .i64) (quo4 i (by omega)))) rfl ?_
      refine wpl_q (q_idxA Tryd.underlying113 Tryd.ti25 rfl rfl (by omega) (by omega) (i / 4) (by omega)) rfl ?_
      refine wpl_q (q_ld Tryd.underlying25 rfl rfl (by first | exact v32s_get (by omega) | rfl)) rfl ?_
      refine wpl_q (q_pure rfl) rfl ?_
      refine wpl_q (qop_eq (q_rem rfl rfl (by decide)) (v := .int .i64 ((i % 4 : Nat) : Int)) rfl) rfl ?_
      first | refine wpl_q (qop_eq (q_pure rfl) (congrArg (Value.int .i64) (wk_i64 (by omega) (by omega)))) rfl ?_ | refine wpl_q (q_pure rfl) rfl ?_
      first | refine wpl_q (qop_eq (q_pure rfl) (congrArg (Value.int .i64) (wk_i64 (by omega) (by omega)))) rfl ?_ | refine wpl_q (q_pure rfl) rfl ?_
      refine wpl_q (q32_shr rfl rfl (by omega) (24 - 8 * (i % 4)) (by omega)) rfl ?_
      refine wpl_q (q8_conv Tryd.underlying25 Tryd.underlying5 rfl) rfl ?_
      refine wpl_q (q_idxA Tryd.underlying24 Tryd.ti5 rfl rfl (by omega) (by omega) (i) (by omega)) rfl ?_
      refine wpl_t0 (t_st1 Tryd.ti5 rfl rfl rfl (by first | decide | (simp; omega) | (simp only [v8s_length, v32s_length, vis_length, v64s_length]; omega)) _ (by first | exact v8s_set _ | rfl)) ?_
      intro _
      refine wpl_nil ?_
      refine ex_block ?_
      refine ex_then ?_
      -- region 10
      refine wpc_region ?_
      first | refine wpl_q (qop_eq (q_pure rfl) (congrArg (Value.int .i64) (wk_i64 (by omega) (by omega)))) rfl ?_ | refine wpl_q (q_pure rfl) rfl ?_
      refine wpl_q (q_pure rfl) rfl ?_
      refine wpl_nil ?_
      refine ex_again ⟨i + 1, by omega⟩ ?_ ?_ ?_
      · exact (by repeat (first | exact trivial | refine ⟨rfl, ?_⟩))
      · exact fun w h => h
      · show 32 - (i + 1) < 32 - i; omega
    ·
      simp only [decide_eq_false_iff_not] at hc14
      obtain rfl : i = 32 := by omega
      refine wpc_exit ?_
      refine ex_then_exit ?_
      refine ex_then_exit ?_
      refine ex_block_hit ?_
      refine ex_then ?_
      refine wpc_seq ?_
      -- region 11
      refine wpc_region ?_
      refine wpl_q (q_ldN Tryd.underlying24 rfl Tryd.ti24 rfl ((v8s_length _).trans (outN_length _ _))) rfl ?_
      refine wpl_t0 (t_stA Tryd.ti24 rfl rfl ((v8s_length _).trans (outN_length _ _)) (v8s_one _) ((v8s_length _).trans rfl)) ?_
      intro _
      refine wpl_nil ?_
      refine ex_then ?_
      refine wpc_ret ?_
      refine ex_mark (.inl rfl) (.there .here) ?_
      refine retv1 (.inl rfl) rfl (rv_agg Tryd.underlying24 rfl Tryd.ti24 rfl (fun w h => h.cells_blk (by repeat (first | exact List.mem_cons_self .. | apply List.mem_cons_of_mem))) (by rw [v8s_length]; exact outN_length _ _)) ?_
      exact fun w h => ⟨rfl, h.below⟩

end Go.Proofs.YtoaeklbenmlooaaDoor