/- Walk of the iterator over blocks. -/
import Derived.Test.YtoaeklbenmlooaaDoorD5a
namespace Go.Proofs.YtoaeklbenmlooaaDoor
set_option linter.unusedSimpArgs false
set_option linter.unusedVariables false
open Go Go.PL Go.RowKit
theorem mem_c {u w : World} {T : List Nat} {l b nb y : Nat} {c c' : List UInt8} (e : c = c') (h : Mem u T (blkM l c' b nb y) [] w) : Mem u T (blkM l c b nb y) [] w := e ▸ h
theorem zeros_flat (k : Nat) : (List.replicate k (Value.int .u8 0).cells.toList).flatten = v8s (List.replicate k 0) := by
  induction k with
  | zero => rfl
  | succ k ih => rw [List.replicate_succ, List.flatten_cons, ih, List.replicate_succ]; rfl
theorem put_row (J : Jt) (W : World) (l : Nat) (ALL : List (List UInt8)) (pb : Nat) (pv : Value) (ps : List (Value × List UInt8)) (hst : Stab J) (hyl : ∀ T b, b ∈ T → YieldOk Tryd.prog J T b l ALL)
    {c p : List UInt8} {r m cap : Nat} {b nb y : Nat} {wb w : World} (hI : ItInv J W c b nb y l wb) (h : Mem wb [nb, b, y] (.row (.slice (some ⟨r, 0, none⟩) m cap) m 5 1 (v8s p) :: blkM l c b nb y) [] w) (hpre : chunksF (c ++ p) <+: ALL) :
    Calls Tryd.prog 71 #[.slice (some ⟨r, 0, none⟩) m cap, .pointer (some ⟨b, 0, none⟩), .pointer (some ⟨nb, 0, none⟩), .pointer (some ⟨y, 0, none⟩)] w fun e w' =>
      ∃ u : { u : World // ItInv J W (c ++ p) b nb y l u }, e = .returned (.tuple #[]) ∧ Mem u.1 [nb, b, y] (blkM l (c ++ p) b nb y) [] w' := by
  have hlen : m = p.length := by have := h.row_len (List.mem_cons_self ..); simpa using this.symm
  subst hlen
  have hap := (List.pairwise_cons.1 h.apart).1
  have hrb : r ≠ b := fun e => hap (.blk b 133 (v8s (bufF c))) (by simp [blkM]) r rfl (by rw [e]; rfl)
  have hrn : r ≠ nb := fun e => hap (.blk nb 3 [.int .i64 ((c.length % 64 : Nat) : Int)]) (by simp [blkM]) r rfl (by rw [e]; rfl)
  refine put_at J W l ALL pb pv ps hst hyl (X := [.row (.slice (some ⟨r, 0, none⟩) p.length cap) p.length 5 1 (v8s p)]) hI h hpre (h.seen_row (List.mem_cons_self ..)) (fun k hk _ => by
    simp [Value.ownBlock] at hk; subst hk; exact ⟨hrb, hrn⟩) (fun pre w1 w2 h1 _ hT => ?_)
  have hrT := hT r (by simp [nums, Ent.num, Value.ownBlock])
  obtain ⟨q1, a, cp, q2, q3, q4, q5⟩ := h1
  simp at q2
  obtain ⟨rfl, rfl⟩ := q2
  refine ⟨q1, _, _, rfl, q3, q4, ?_⟩
  rcases q5 with q5 | ⟨ad, q5, q6⟩
  · cases q5.1
  · cases q5
    refine .inr ⟨_, rfl, fun j u hj => ?_⟩
    have := q6 j u hj
    rw [add_lit] at this ⊢
    exact (World.cell?_of_block hrT).trans this
theorem last_yield (J : Jt) (W : World) (l : Nat) (ALL : List (List UInt8)) (ps : List (Value × List UInt8)) (hst : Stab J) (hyl : ∀ T b, b ∈ T → YieldOk Tryd.prog J T b l ALL) (hALL : blocksF (ps.map Prod.snd) = ALL)
    {b nb y : Nat} {n' : Int} {wb w : World} (hI : ItInv J W (cF (ps.map Prod.snd).flatten) b nb y l wb)
    (h : Mem wb [nb, b, y] [.blk nb 3 [.int .i64 n'], .blk b 133 (v8s (setLen (bufF (cF (ps.map Prod.snd).flatten)) (lenN (ps.map Prod.snd) ps.length * 8) 8)), .blk y 131 [.func (.yield l) #[] #[]]] [] w) :
    YieldAt Fence.wide 0 Tryd.prog l #[.pointer (some ⟨b, 0, none⟩)] w fun e w' => ∃ u : { u : World // ∃ T, J T ALL u }, e = .returned (.bool true) ∧ w' = u.1 := by
  have hlt : ∀ k, k ∈ [nb, b, y] → k < w.heap.size := fun k hk => by
    have hk' : k ∈ nums [.blk nb 3 [.int .i64 n'], .blk b 133 (v8s (setLen (bufF (cF (ps.map Prod.snd).flatten)) (lenN (ps.map Prod.snd) ps.length * 8) 8)), .blk y 131 [.func (.yield l) #[] #[]]] := hk
    obtain ⟨e, he, hn⟩ := mem_nums.1 hk'
    exact Ent.lt (h.own e he) hn
  have hJ := hst _ [nb, b, y] _ _ _ hI.J (h.sub .nil .nil) (fun k hk => ⟨.inl hk, hlt k hk⟩)
  have hb : w.heap[b]? = some (.cells (v8s (setLen (bufF (cF (ps.map Prod.snd).flatten)) (lenN (ps.map Prod.snd) ps.length * 8) 8)).toArray 133 (0, 0)) := h.own (.blk b 133 (v8s (setLen (bufF (cF (ps.map Prod.snd).flatten)) (lenN (ps.map Prod.snd) ps.length * 8) 8))) (by simp)
  have hall : chunksF (cF (ps.map Prod.snd).flatten) ++ [setLen (bufF (cF (ps.map Prod.snd).flatten)) (lenN (ps.map Prod.snd) ps.length * 8) 8] = ALL := by rw [← hALL]; unfold blocksF; rw [List.length_map]
  obtain ⟨fn, tmps, assign, body, hrun, hround⟩ := hyl [nb, b, y] b (by simp) _ _ w hJ (by rw [hall]; exact List.prefix_refl _) hb
  refine ⟨fn, tmps, assign, body, hrun, hround.mono ?_⟩
  rintro e w' ⟨rfl, hJ', _⟩
  rw [hall] at hJ'
  exact ⟨⟨w', _, hJ'⟩, rfl, rfl⟩
def ItPost (J : Jt) (ALL : List (List UInt8)) (e : Ending) (w : World) : Prop := (∃ v, e = .returned v) ∧ ∃ T, J T ALL w
instance nop_it {P : Program} {fn : Func} {J : Jt} {ALL : List (List UInt8)} : NoP (bodyPost P fn (ItPost J ALL)) := nop_post fun c w' h => by obtain ⟨⟨v, h⟩, _⟩ := h; cases h

set_option maxRecDepth 100000 in
theorem iter (J : Jt) (W : World) (l : Nat) (ALL : List (List UInt8)) (pb : Nat) (pv : Value) (ps : List (Value × List UInt8)) (hst : Stab J) (hyl : ∀ T b, b ∈ T → YieldOk Tryd.prog J T b l ALL) (hALL : blocksF (ps.map Prod.snd) = ALL)
    (hinv : ∀ T pre w1, J T pre w1 → InvB pb pv ps w1) (hJ0 : J [] [] W) :
    Calls Tryd.prog 70 [.func (.yield l) #[] #[], .pointer (some ⟨pb, 0, none⟩)].toArray W (ItPost J ALL) := by
  obtain ⟨a, cap, rfl, hlc, hcm, hz⟩ := (hinv _ _ _ hJ0).2.1.form
  have hpbW : pb < W.heap.size := (Array.getElem?_eq_some_iff.1 (hinv _ _ _ hJ0).1).1
  have hmL : cap ≤ 9223372036854775807 := by simp only [maxLen] at hcm; omega
  refine enter (m := 53) (R := Mem W [] [] []) Tryd.func70 rfl rfl (Nat.le_of_ble_eq_true rfl) (Mem.start W) ?_
  refine wpc_seq ?_
  -- region 0
  refine wpc_region ?_
  refine wpl_t (t_box rfl _ rfl) rfl ?_
  intro b2
  refine wpl_nil ?_
  refine ex_then ?_
  refine wpc_seq ?_
  -- region 1
  refine wpc_region ?_
  refine wpl_t (t_alloc Tryd.ti133 (v8s (bufF [])) (by rfl)) rfl ?_
  intro b3
  refine wpl_nil ?_
  refine ex_then ?_
  refine wpc_seq ?_
  -- region 2
  refine wpc_region ?_
  refine wpl_t (t_alloc Tryd.ti3 _ rfl) rfl ?_
  intro b4
  refine wpl_t0 (t_st1 Tryd.ti3 rfl rfl rfl Nat.zero_lt_one _ rfl) ?_
  intro _
  refine wpl_q (q_pure rfl) rfl ?_
  refine wpl_nil ?_
  refine ex_then ?_
  refine wpc_seq ?_
  -- region 3
  refine wpc_region ?_
  refine wpl_q (q_fn (us := []) (vs := [.pointer (some ⟨b3, 0, none⟩), .pointer (some ⟨b4, 0, none⟩), .pointer (some ⟨b2, 0, none⟩)]) rfl rfl) rfl ?_
  refine wpl_q (q_pure rfl) rfl ?_
  refine wpl_nil ?_
  refine ex_then ?_
  refine wpc_seq ?_
  refine wpc_seq ?_
  -- region 4
  refine wpc_ex (p := ItInv J W [] b3 b4 b2 l) (R' := fun wb => Mem wb [b4, b3, b2] (blkM l [] b3 b4 b2) []) (fun w h => ?_) (fun wb0 hI0 => ?_)
  · have h2 : Mem W [] (blkM l [] b3 b4 b2) [] w := h
    have hlt : ∀ k, k ∈ [b4, b3, b2] → W.heap.size ≤ k ∧ k < w.heap.size := fun k hk => by
      have hk' : k ∈ nums (blkM l [] b3 b4 b2) := hk
      obtain ⟨e, he, hn⟩ := mem_nums.1 hk'
      exact ⟨(h2.new e he k hn).resolve_right (by simp), Ent.lt (h2.own e he) hn⟩
    exact ⟨w, ⟨hst [] _ _ _ _ hJ0 (h2.sub .nil .nil) (fun k hk => ⟨.inr (hlt k hk).1, (hlt k hk).2⟩), (hlt b3 (by simp)).1, (hlt b4 (by simp)).1, (hlt b2 (by simp)).1⟩, h2.base⟩
  refine wpc_region ?_
  refine wpl_q (q_load1 Tryd.underlying111 rfl rfl (fun w h => h.cell_oldL (cell_of_heap (hinv _ _ _ hI0.J).1 rfl) (by have := hI0.b; have := hI0.nb; have := hI0.y; simp; omega))) rfl ?_
  refine wpl_q (q_len Tryd.underlying111 rfl) rfl ?_
  refine wpl_q (q_pure rfl) rfl ?_
  refine wpl_nil ?_
  refine ex_then ?_
  refine wpc_block ?_
  refine wpc_loop (ι := { x : Nat × World // x.1 ≤ ps.length ∧ ItInv J W ((ps.map Prod.snd).take x.1).flatten b3 b4 b2 l x.2 }) (fun x => [(13, .int .i64 (x.1.1 : Nat)), (12, .int .i64 (ps.length : Nat)), (11, .slice a ps.length cap), (6, .func (.func 71) #[] #[.pointer (some ⟨b3, 0, none⟩), .pointer (some ⟨b4, 0, none⟩), .pointer (some ⟨b2, 0, none⟩)]), (5, .int .u64 (lenN (ps.map Prod.snd) x.1.1).toNat), (2, .pointer (some ⟨b2, 0, none⟩)), (3, .pointer (some ⟨b3, 0, none⟩)), (4, .pointer (some ⟨b4, 0, none⟩))]) (fun x => Mem x.1.2 [b4, b3, b2] (blkM l ((ps.map Prod.snd).take x.1.1).flatten b3 b4 b2) []) (fun x => ps.length - x.1.1) ⟨(0, wb0), Nat.zero_le _, hI0⟩ ?_ ?_ ?_
  · exact by repeat (first | exact trivial | refine ⟨rfl, ?_⟩)
  · exact fun w h => h
  · rintro ⟨⟨i, wb⟩, hi, hI⟩; dsimp only
    have hi : i ≤ ps.length := hi
    have hI : ItInv J W ((ps.map Prod.snd).take i).flatten b3 b4 b2 l wb := hI
    have hP := hinv _ _ _ hI.J
    refine wpc_seq ?_
    -- region 5
    refine wpc_region ?_
    refine wpl_q (q_pure rfl) rfl ?_
    refine wpl_nil ?_
    refine ex_then ?_
    refine wpc_seq ?_
    refine wpc_cond rfl (fun hc14 => ?_) (fun hc14 => ?_)
    ·
      simp only [decide_eq_true_eq] at hc14
      obtain ⟨ad, rfl⟩ : ∃ ad, a = some ad := by
        cases a with
        | none => have := hz rfl; omega
        | some ad => exact ⟨ad, rfl⟩
      obtain ⟨⟨qv, qb⟩, hq⟩ : ∃ q, ps[i]? = some q := ⟨_, List.getElem?_eq_getElem (by omega)⟩
      have hqm : (qv, qb) ∈ ps := List.mem_of_getElem? hq
      have hq1 : (ps.map Prod.fst)[i]? = some qv := by rw [List.getElem?_map, hq]; rfl
      have hq2 : (ps.map Prod.snd).getD i [] = qb := by rw [List.getD_eq_getElem?_getD, List.getElem?_map, hq]; rfl
      have hfs : ((ps.map Prod.snd).take (i + 1)).flatten = ((ps.map Prod.snd).take i).flatten ++ qb := by rw [take_succ_flat _ _ (by simp; omega), hq2]
      have hqs : Seen wb.cell? qv qb.length 1 (v8s qb) := hP.2.2 _ hqm
      obtain ⟨aq, capq, rfl, hq3, hq4, hq5⟩ := hqs.form
      have hadb : ad.block < W.heap.size := (hinv _ _ _ hJ0).2.1.block_lt (by intro e; rw [List.map_eq_nil_iff] at e; subst e; exact absurd hqm (by simp)) ad.block rfl
      have hqbl : ∀ k, (Value.slice aq qb.length capq).ownBlock = some k → v8s qb ≠ [] → k < W.heap.size := fun k hk hne => ((hinv _ _ _ hJ0).2.2 _ hqm).block_lt hne k hk
      have hbW := hI.b; have hnW := hI.nb; have hyW := hI.y
      refine wpc_skip ?_
      refine ex_then ?_
      refine wpc_seq ?_
      refine wpc_block ?_
      refine wpc_seq ?_
      -- region 6
      refine wpc_region ?_
      refine wpl_q (q_idxS Tryd.underlying111 Tryd.ti22 rfl rfl (by omega) (by omega) (i) (by omega)) rfl ?_
      refine wpl_q (q_load1 Tryd.underlying22 rfl rfl (fun w h => h.cell_oldL (hP.2.1.cell hq1) (by rw [addr_block]; simp; omega))) rfl ?_
      refine wpl_q (q_pure rfl) rfl ?_
      refine wpl_nil ?_
      refine ex_then ?_
      refine wpc_seq ?_
      -- region 7
      refine wpc_region ?_
      refine wpl_q (q_pure rfl) rfl ?_
      refine wpl_q (q_pure rfl) rfl ?_
      refine wpl_q (q_len Tryd.underlying22 rfl) rfl ?_
      refine wpl_q (q64_conv Tryd.underlying3 Tryd.underlying134 rfl) rfl ?_
      refine wpl_q (qop_eq (q64_add rfl rfl) (v := .int .u64 (lenN (ps.map Prod.snd) (i + 1)).toNat) (by rw [lenN, hq2])) rfl ?_
      refine wpl_q (q_pure rfl) rfl ?_
      refine wpl_nil ?_
      refine ex_then ?_
      -- region 8
      refine wpc_region ?_
      refine wpl_q (q_pure rfl) rfl ?_
      refine wpl_q (q_pure rfl) rfl ?_
      refine wpl_t (t_callG (ι := { u : World // ItInv J W (((ps.map Prod.snd).take i).flatten ++ qb) b3 b4 b2 l u }) (V := fun _ => .tuple #[]) (R' := fun u => Mem u.1 [b4, b3, b2] (blkM l (((ps.map Prod.snd).take i).flatten ++ qb) b3 b4 b2) []) (cap := #[.pointer (some ⟨b3, 0, none⟩), .pointer (some ⟨b4, 0, none⟩), .pointer (some ⟨b2, 0, none⟩)]) rfl Tryd.hb71 rfl fun w h => put_at J W l ALL pb (.slice none 0 0) ps hst hyl (X := []) hI h (hALL ▸ pre_all _ _ (hfs ▸ pre_take _ (i + 1))) (h.seen_oldL (hP.2.2 _ hqm) (fun k hk hne => by have := hqbl k hk hne; simp; omega)) (fun k hk hne => by have := hqbl k hk hne; omega) (fun pre w1 w2 _ hJ2 _ => (hinv _ _ _ hJ2).2.2 _ hqm)) rfl ?_
      intro b24
      refine wpl_nil ?_
      refine ex_block ?_
      refine ex_then ?_
      -- region 9
      refine wpc_region ?_
      first | refine wpl_q (qop_eq (q_pure rfl) (congrArg (Value.int .i64) (wk_i64 (by omega) (by omega)))) rfl ?_ | refine wpl_q (q_pure rfl) rfl ?_
      refine wpl_q (q_pure rfl) rfl ?_
      refine wpl_nil ?_
      refine ex_again ⟨(i + 1, b24.1), by show i + 1 ≤ ps.length; omega, by show ItInv J W ((ps.map Prod.snd).take (i + 1)).flatten b3 b4 b2 l b24.1; rw [hfs]; exact b24.2⟩ ?_ ?_ ?_
      · exact (by repeat (first | exact trivial | refine ⟨rfl, ?_⟩))
      · exact fun w h => by
          show Mem b24.1 [b4, b3, b2] (blkM l ((ps.map Prod.snd).take (i + 1)).flatten b3 b4 b2) [] w
          rw [hfs]; exact h
      · show ps.length - (i + 1) < ps.length - i; omega
    ·
      simp only [decide_eq_false_iff_not] at hc14
      obtain rfl : i = ps.length := by omega
      have eall : ((ps.map Prod.snd).take ps.length).flatten = (ps.map Prod.snd).flatten := by rw [List.take_of_length_le (by simp)]
      rw [eall] at hI
      refine wpc_mono (R' := Mem wb [b4, b3, b2] (blkM l (ps.map Prod.snd).flatten b3 b4 b2) []) (fun w h => by rw [← eall]; exact h) ?_
      refine wpc_exit ?_
      refine ex_then_exit ?_
      refine ex_then_exit ?_
      refine ex_block_hit ?_
      refine ex_then ?_
      refine wpc_seq ?_
      -- region 10
      refine wpc_region ?_
      refine wpl_q (q_pure rfl) rfl ?_
      refine wpl_t (t_buildSlice (v8s [128]) Tryd.underlying22 Tryd.ti5 rfl (by decide) (by decide) rfl rfl rfl) rfl ?_
      intro b27
      refine wpl_t (t_callG (ι := { u : World // ItInv J W ((ps.map Prod.snd).flatten ++ [128]) b3 b4 b2 l u }) (V := fun _ => .tuple #[]) (R' := fun u => Mem u.1 [b4, b3, b2] (blkM l ((ps.map Prod.snd).flatten ++ [128]) b3 b4 b2) []) (cap := #[.pointer (some ⟨b3, 0, none⟩), .pointer (some ⟨b4, 0, none⟩), .pointer (some ⟨b2, 0, none⟩)]) rfl Tryd.hb71 rfl fun w h => put_row J W l ALL pb (.slice none 0 0) ps hst hyl hI h (hALL ▸ pre_all _ _ (cF_pre _))) rfl ?_
      intro b28
      refine wpl_nil ?_
      refine ex_then ?_
      refine wpc_cut { u : World // ItInv J W (cF (ps.map Prod.snd).flatten) b3 b4 b2 l u } (fun _ => [(5, .int .u64 (lenN (ps.map Prod.snd) ps.length).toNat), (2, .pointer (some ⟨b2, 0, none⟩)), (3, .pointer (some ⟨b3, 0, none⟩)), (4, .pointer (some ⟨b4, 0, none⟩))]) (fun u => Mem u.1 [b4, b3, b2] (blkM l (cF (ps.map Prod.snd).flatten) b3 b4 b2) []) ?_ ?_
      · -- first part
        refine wpc_seq ?_
        -- region 11
        obtain ⟨wb1, hI1⟩ := b28
        refine wpc_mono (R' := Mem wb1 [b4, b3, b2] [.blk b4 3 [.int .i64 ((((ps.map Prod.snd).flatten ++ [(128 : UInt8)]).length % 64 : Nat) : Int)], .blk b3 133 (v8s (bufF ((ps.map Prod.snd).flatten ++ [(128 : UInt8)]))), .blk b2 131 [.func (.yield l) #[] #[]]] []) (fun w h => h) ?_
        refine wpc_region ?_
        refine wpl_q (q_ld Tryd.underlying3 rfl rfl rfl) rfl ?_
        refine wpl_q (q_pure rfl) rfl ?_
        refine wpl_nil ?_
        refine ex_then ?_
        refine wpc_cond rfl (fun hc30 => ?_) (fun hc30 => ?_)
        ·
          simp only [decide_eq_true_eq] at hc30
          have hm64 : ((ps.map Prod.snd).flatten ++ [(128 : UInt8)]).length % 64 < 64 := Nat.mod_lt _ (by decide)
          have ecf := cF_full (ps.map Prod.snd).flatten (by omega)
          -- region 12
          refine wpc_region ?_
          refine wpl_q (q_pure rfl) rfl ?_
          refine wpl_q (q_ld Tryd.underlying3 rfl rfl rfl) rfl ?_
          first | refine wpl_q (qop_eq (q_pure rfl) (congrArg (Value.int .i64) (wk_i64 (by omega) (by omega)))) rfl ?_ | refine wpl_q (q_pure rfl) rfl ?_
          refine wpl_t (t_makeSlice Tryd.underlying22 Tryd.ti5 rfl rfl (by omega) (Int.le_refl _) (by omega) (by omega) (64 - ((ps.map Prod.snd).flatten ++ [(128 : UInt8)]).length % 64) (64 - ((ps.map Prod.snd).flatten ++ [(128 : UInt8)]).length % 64) (by omega) (by omega) (v8s (List.replicate (64 - ((ps.map Prod.snd).flatten ++ [(128 : UInt8)]).length % 64) (0 : UInt8))) rfl (zeros_flat _)) rfl ?_
          intro b34
          refine wpl_t (t_callG (ι := { u : World // ItInv J W (((ps.map Prod.snd).flatten ++ [(128 : UInt8)]) ++ List.replicate (64 - ((ps.map Prod.snd).flatten ++ [(128 : UInt8)]).length % 64) (0 : UInt8)) b3 b4 b2 l u }) (V := fun _ => .tuple #[]) (R' := fun u => Mem u.1 [b4, b3, b2] (blkM l (((ps.map Prod.snd).flatten ++ [(128 : UInt8)]) ++ List.replicate (64 - ((ps.map Prod.snd).flatten ++ [(128 : UInt8)]).length % 64) (0 : UInt8)) b3 b4 b2) []) (cap := #[.pointer (some ⟨b3, 0, none⟩), .pointer (some ⟨b4, 0, none⟩), .pointer (some ⟨b2, 0, none⟩)]) rfl Tryd.hb71 rfl fun w h => put_row J W l ALL pb (.slice none 0 0) ps hst hyl hI1 h (hALL ▸ pre_all _ _ ⟨[], by rw [List.append_nil]; exact ecf.symm⟩)) rfl ?_
          intro b35
          have HI : ItInv J W (cF (ps.map Prod.snd).flatten) b3 b4 b2 l b35.1 := by rw [ecf]; exact b35.2
          refine wpl_nil ?_
          refine ex_mid ⟨_, HI⟩ ?_ ?_
          · exact (by repeat (first | exact trivial | refine ⟨rfl, ?_⟩))
          · exact fun w h => mem_c ecf h
        ·
          simp only [decide_eq_false_iff_not] at hc30
          have ecf := cF_room (ps.map Prod.snd).flatten (by omega)
          have HI : ItInv J W (cF (ps.map Prod.snd).flatten) b3 b4 b2 l wb1 := by rw [ecf]; exact hI1
          refine wpc_skip ?_
          refine ex_mid ⟨_, HI⟩ ?_ ?_
          · exact (by repeat (first | exact trivial | refine ⟨rfl, ?_⟩))
          · exact fun w h => mem_c ecf h
      · -- rest
        rintro ⟨wb2, hI2⟩
        dsimp only
        refine wpc_seq ?_
        -- region 13
        refine wpc_region ?_
        refine wpl_q (q_pure rfl) rfl ?_
        refine wpl_q (q64_mul (b := 8) rfl rfl) rfl ?_
        refine wpl_q (q_pure rfl) rfl ?_
        refine wpl_nil ?_
        refine ex_then ?_
        refine wpc_seq ?_
        refine wpc_seq ?_
        -- region 14
        refine wpc_region ?_
        refine wpl_q (q_pure rfl) rfl ?_
        refine wpl_nil ?_
        refine ex_then ?_
        refine wpc_block ?_
        refine wpc_loop (ι := { j : Nat // j ≤ 8 }) (fun j => [(38, .int .i64 (j.1 : Nat)), (5, .int .u64 (lenN (ps.map Prod.snd) ps.length * 8).toNat), (2, .pointer (some ⟨b2, 0, none⟩)), (3, .pointer (some ⟨b3, 0, none⟩)), (4, .pointer (some ⟨b4, 0, none⟩))]) (fun j => Mem wb2 [b4, b3, b2] [.blk b4 3 [.int .i64 (((cF (ps.map Prod.snd).flatten).length % 64 : Nat) : Int)], .blk b3 133 (v8s (setLen (bufF (cF (ps.map Prod.snd).flatten)) (lenN (ps.map Prod.snd) ps.length * 8) j.1)), .blk b2 131 [.func (.yield l) #[] #[]]] []) (fun j => 8 - j.1) ⟨0, by omega⟩ ?_ ?_ ?_
        · exact by repeat (first | exact trivial | refine ⟨rfl, ?_⟩)
        · exact fun w h => h
        · rintro ⟨j, hj⟩; dsimp only
          have hsl := (setLen_length (bufF (cF (ps.map Prod.snd).flatten)) (lenN (ps.map Prod.snd) ps.length * 8) j).trans (bufF_length _)
          refine wpc_seq ?_
          -- region 15
          refine wpc_region ?_
          refine wpl_q (q_pure rfl) rfl ?_
          refine wpl_nil ?_
          refine ex_then ?_
          refine wpc_seq ?_
          refine wpc_cond rfl (fun hc39 => ?_) (fun hc39 => ?_)
          ·
            simp only [decide_eq_true_eq, decide_eq_false_iff_not, Bool.and_eq_true, Bool.or_eq_true, beq_iff_eq, bne_iff_ne, ne_eq] at hc39
            refine wpc_skip ?_
            refine ex_then ?_
            refine wpc_seq ?_
            refine wpc_block ?_
            refine wpc_seq ?_
            -- region 16
            refine wpc_region ?_
            refine wpl_q (q_pure rfl) rfl ?_
            refine wpl_q (q_pure rfl) rfl ?_
            refine wpl_nil ?_
            refine ex_then ?_
            -- region 17
            refine wpc_region ?_
            refine wpl_q (q_pure rfl) rfl ?_
            first | refine wpl_q (qop_eq (q_pure rfl) (congrArg (Value.int .i64) (wk_i64 (by omega) (by omega)))) rfl ?_ | refine wpl_q (q_pure rfl) rfl ?_
            refine wpl_q (q_pure rfl) rfl ?_
            refine wpl_q (q_pure rfl) rfl ?_
            first | refine wpl_q (qop_eq (q_pure rfl) (congrArg (Value.int .i64) (wk_i64 (by omega) (by omega)))) rfl ?_ | refine wpl_q (q_pure rfl) rfl ?_
            first | refine wpl_q (qop_eq (q_pure rfl) (congrArg (Value.int .i64) (wk_i64 (by omega) (by omega)))) rfl ?_ | refine wpl_q (q_pure rfl) rfl ?_
            refine wpl_q (q64_shr rfl rfl (by omega) (56 - 8 * j) (by omega)) rfl ?_
            refine wpl_q (q8_conv Tryd.underlying134 Tryd.underlying5 rfl) rfl ?_
            refine wpl_q (q_idxA Tryd.underlying133 Tryd.ti5 rfl rfl (by omega) (by omega) (56 + j) (by omega)) rfl ?_
            refine wpl_t0 (t_st1 Tryd.ti5 rfl rfl rfl (by first | decide | (simp; omega) | (simp only [v8s_length, v32s_length, vis_length, v64s_length]; omega)) _ (by first | exact v8s_set _ | rfl)) ?_
            intro _
            refine wpl_nil ?_
            refine ex_block ?_
            refine ex_then ?_
            -- region 18
            refine wpc_region ?_
            first | refine wpl_q (qop_eq (q_pure rfl) (congrArg (Value.int .i64) (wk_i64 (by omega) (by omega)))) rfl ?_ | refine wpl_q (q_pure rfl) rfl ?_
            refine wpl_q (q_pure rfl) rfl ?_
            refine wpl_nil ?_
            refine ex_again ⟨j + 1, by omega⟩ ?_ ?_ ?_
            · exact (by repeat (first | exact trivial | refine ⟨rfl, ?_⟩))
            · exact fun w h => h
            · show 8 - (j + 1) < 8 - j; omega
          ·
            simp only [decide_eq_false_iff_not] at hc39
            obtain rfl : j = 8 := by omega
            refine wpc_exit ?_
            refine ex_then_exit ?_
            refine ex_then_exit ?_
            refine ex_block_hit ?_
            refine ex_then ?_
            -- region 19
            refine wpc_region_y ?_
            refine wpli_q open_wide (q_ld Tryd.underlying131 rfl rfl rfl) rfl ?_
            refine wpli_yield (l := l) (ι := { u : World // ∃ T, J T ALL u }) (V := fun _ => .bool true) (R' := fun u w => w = u.1) rfl rfl ?_ rfl fun u => ?_
            · exact fun w h => last_yield J W l ALL ps hst hyl hALL hI2 h
            refine wpli_nil ?_
            refine ret0 (.inr rfl) rfl ?_
            exact fun w h => ⟨⟨_, rfl⟩, h ▸ u.2⟩

end Go.Proofs.YtoaeklbenmlooaaDoor