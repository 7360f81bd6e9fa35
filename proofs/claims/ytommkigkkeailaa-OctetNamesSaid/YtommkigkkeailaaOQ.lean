/- The values within a value, in turn. -/
import Derived.Test.YtommkigkkeailaaOP
namespace Go.Proofs.Ytommkigkkeailaa
set_option linter.unusedSimpArgs false
set_option linter.unusedVariables false
open Go Go.PL Go.RowKit
set_option maxRecDepth 100000 in
theorem all_ (t : HT) (d : Nat) (w : World) (ht : t.sv)  :
    Calls Try.prog 46 [.agg t.c.toArray, .int .i64 ((d : Nat) : Int)].toArray w (Gives w (fun pp : Nat × Nat => .func (.func 61) #[] #[.pointer (some ⟨pp.1, 0, none⟩), .pointer (some ⟨pp.2, 0, none⟩)]) (fun pp => [.blk pp.1 25 t.c, .blk pp.2 3 [.int .i64 ((d : Nat) : Int)]]) (fun _ => [])) := by
  haveI := ht.one
  refine enter (m := 6) (R := Mem w [] [] []) Try.func46 rfl rfl (Nat.le_of_ble_eq_true rfl) (Mem.start w) ?_
  refine wpc_seq ?_
  refine wpc_region ?_
  refine wpl_t (t_box rfl t.c rfl) rfl (fun b2 => ?_)
  refine wpl_t (t_box rfl [.int .i64 ((d : Nat) : Int)] rfl) rfl (fun b3 => ?_)
  refine wpl_q (q_pure rfl) rfl ?_
  refine wpl_nil ?_
  refine ex_then ?_
  refine wpc_seq ?_
  refine wpc_region ?_
  refine wpl_q (q_fn (us := []) (vs := [.pointer (some ⟨b2, 0, none⟩), .pointer (some ⟨b3, 0, none⟩)]) rfl rfl) rfl ?_
  refine wpl_q (q_pure rfl) rfl ?_
  refine wpl_nil ?_
  refine ex_then ?_
  refine wpc_ret ?_
  refine ret1 (.inl rfl) rfl rfl ?_
  exact fun w1 h => ⟨(b2, b3), rfl, h.below, (show Mem w [] [.blk b2 25 t.c, .blk b3 3 [.int .i64 ((d : Nat) : Int)]] [] w1 from h.sel).made (Sub.refl _) .nil⟩

set_option maxRecDepth 100000 in
theorem all1_step (yl : Nat) (pa : Nat) (pd : Nat) (t : HT) (d : Nat) (J : List Nat → List (HT × Nat) → World → Prop) (K : List Nat → World → Prop) (w : World)  (hst : StabJ J) (hinv : ∀ T pre w1, J T pre w1 → HSeen w1.cell? t) (hsk : StabT K) (hy : YieldN Try.prog yl encO (ord t d) J K) (hJ0 : J [pa, pd] [] w) (hpa : w.heap[pa]? = some (.cells t.c.toArray 25 (0, 0))) (hpd : w.heap[pd]? = some (.cells #[.int .i64 ((d : Nat) : Int)] 3 (0, 0))) (hne : pa ≠ pd) (hd : d + t.tr.dep ≤ 1000000) (ih : ∀ x ∈ t.kids, ∀ (d pa pd : Nat) (w : World), w.heap[pa]? = some (.cells x.c.toArray 25 (0, 0)) → w.heap[pd]? = some (.cells #[.int .i64 ((d : Nat) : Int)] 3 (0, 0)) → pa ≠ pd → d + x.tr.dep ≤ 1000000 → HSeen w.cell? x → IterN Try.prog 61 #[.pointer (some ⟨pa, 0, none⟩), .pointer (some ⟨pd, 0, none⟩)] encO (fun w => HSeen w.cell? x) (ord x d) [pa, pd] w) :
    Calls Try.prog 61 [.func (.yield yl) #[] #[], .pointer (some ⟨pa, 0, none⟩), .pointer (some ⟨pd, 0, none⟩)].toArray w (IterPostN J K (ord t d)) := by
  obtain ⟨tg, bv, bs, lv, l⟩ := t
  have ht := hinv _ _ _ hJ0
  have svb := ht.1.sv
  have svl := ht.2.1.sv
  have lb := svb.le
  have ll := svl.le
  simp only [maxLen] at lb ll
  haveI := ht.sv.one
  refine enterN (m := 32) (R := Mem w [pa, pd] [.blk pa 25 [.int .u8 (tg.toNat : Int), bv, lv], .blk pd 3 [.int .i64 ((d : Nat) : Int)]] []) Try.func61 rfl rfl (Nat.le_of_ble_eq_true rfl) (Mem.start2 (c1 := [.int .u8 (tg.toNat : Int), bv, lv]) (c2 := [.int .i64 ((d : Nat) : Int)]) w hpa hpd hne) ?_
  refine wpc_seq ?_
  refine wpc_region ?_
  refine wpl_t (t_box rfl [.func (.yield yl) #[] #[]] rfl) rfl (fun b3 => ?_)
  refine wpl_nil ?_
  refine ex_then ?_
  refine wpc_seq ?_
  refine wpc_seq ?_
  refine wpc_region_y ?_
  refine wil_q (q_ld Try.underlying90 rfl rfl rfl) rfl ?_
  refine wil_q (q_ldN Try.underlying25 rfl Try.ti25 rfl LenC.h) rfl ?_
  refine wil_q (q_ld Try.underlying3 rfl rfl (by first | exact vns_get (by first | decide | omega | exact Nat.zero_lt_one | (simp; omega) | (simp; done) | (simp only [v8s_length, v32s_length, vis_length, vns_length, v64s_length]; omega)) | rfl)) rfl ?_
  refine wil_yieldN (((HT.nd tg bv bs lv l), d)) (()) rfl rfl hst hy hJ0 ⟨ordL l (d + 1), rfl⟩ rfl rfl ?_ ?_
  ·
   intro u11 hu11
   refine wil_q (q_pure rfl) rfl ?_
   refine wil_nil ?_
   refine ex_then ?_
   refine wpc_cond_f rfl ?_
   refine wpc_skip ?_
   refine ex_then ?_
   refine wpc_seq ?_
   refine wpc_region ?_
   refine wpl_q (q_field Try.underlying25 rfl Try.ti23 rfl rfl _ rfl) rfl ?_
   refine wpl_q (q_ld Try.underlying23 rfl rfl rfl) rfl ?_
   refine wpl_q (q_lenW Try.underlying23 rfl (by first | assumption | exact SV.nil | exact SV.slv (by assumption) (by omega) (by omega) | exact arv_sv (by first | decide | (simp only [maxLen]; omega)))) rfl ?_
   refine wpl_q (q_pure rfl) rfl ?_
   refine wpl_nil ?_
   refine ex_then ?_
   refine wpc_block ?_
   refine wpc_loopd (ι := { x : Nat × World × List Nat × List Nat // (x.1 ≤ l.length) ∧ (J x.2.2.1 (((HT.nd tg bv bs lv l), d) :: ordL (l.take x.1) (d + 1)) x.2.1) }) (fun x => (x.1.2.2.2).map Go.PL.mark) (fun x => [(16, .int .i64 ((x.1.1 : Nat) : Int)), (2, .pointer (some ⟨pd, 0, none⟩)), (3, .pointer (some ⟨b3, 0, none⟩)), (14, lv), (15, .int .i64 ((l.length : Nat) : Int))]) (fun x => Mem x.1.2.1 x.1.2.2.1 (.blk b3 90 [.func (.yield yl) #[] #[]] :: .blk pa 25 [.int .u8 (tg.toNat : Int), bv, lv] :: .blk pd 3 [.int .i64 ((d : Nat) : Int)] :: x.1.2.2.2.map obD) []) (fun x => l.length - x.1.1) ⟨(0, u11, nums [.blk b3 90 [.func (.yield yl) #[] #[]], .blk pa 25 [.int .u8 (tg.toNat : Int), bv, lv], .blk pd 3 [.int .i64 ((d : Nat) : Int)]], []), ⟨Nat.zero_le _, hu11⟩⟩ (by repeat (first | exact trivial | refine ⟨rfl, ?_⟩)) ?_ ?_
   ·
    exact fun w h => h
   ·
    rintro ⟨⟨i, wb, T, Ds⟩, ⟨hi0, hi1⟩⟩; try dsimp only
    have hi0 : i ≤ l.length := hi0; have hi1 : J T (((HT.nd tg bv bs lv l), d) :: ordL (l.take i) (d + 1)) wb := hi1
    have hsee : ∀ {M : List Ent} {S : List Fact} {w : World}, Mem wb T M S w → HSeen w.cell? (HT.nd tg bv bs lv l) := fun h => hinv _ _ _ (hst _ _ _ _ _ hi1 (h.sub .nil .nil) (nums_lt h))
    refine wpc_seq ?_
    refine wpc_region ?_
    refine wpl_q (q_pure rfl) rfl ?_
    refine wpl_nil ?_
    refine ex_then ?_
    refine wpc_seq ?_
    refine wpc_cond rfl (fun hc17 => ?_) (fun hc17 => ?_)
    ·
     simp only [decide_eq_true_eq] at hc17
     have hil : i < l.length := by omega
     have hdl := depL_kid hil
     have hd1 : d + (depL (trs l) + 1) ≤ 1000000 := hd
     have hx : (l.getD i HT.z).sv := (HSeenL_iff.1 (hinv _ _ _ hi1).2.2 _ (getD_memH hil)).sv
     haveI := hx.one
     refine wpc_skip ?_
     refine ex_then ?_
     refine wpc_seq ?_
     refine wpc_block ?_
     refine wpc_seq ?_
     refine wpc_region ?_
     refine wpl_q (q_idxW Try.underlying23 Try.ti25 rfl rfl (by first | assumption | exact SV.nil | exact SV.slv (by assumption) (by omega) (by omega) | exact arv_sv (by first | decide | (simp only [maxLen]; omega))) (by first | omega | (simp only [maxLen]; omega) | (simp only [List.length_append, List.length_cons, List.length_nil, List.length_take, maxLen]; omega) | (simp only [List.length_append, List.length_cons, List.length_nil, List.length_take]; omega))) rfl ?_
     refine wpl_q (q_ldWN Try.underlying25 rfl Try.ti25 rfl (fun w h => (hsee h).2.1) (l.getD i HT.z).c (cat_part HT.c_length HT.z hil) (HT.c_length _)) rfl ?_
     refine wpl_t (t_alloc Try.ti25 HT.z.c rfl) rfl (fun b5 => ?_)
     refine wpl_t0 (t_stA Try.ti25 rfl rfl LenC.h OneC.h LenC.h) (fun _ => ?_)
     refine wpl_nil ?_
     refine ex_then ?_
     refine wpc_seq ?_
     refine wpc_region ?_
     refine wpl_q (q_ldN Try.underlying25 rfl Try.ti25 rfl LenC.h) rfl ?_
     refine wpl_q (q_ld Try.underlying3 rfl rfl (by first | exact vns_get (by first | decide | omega | exact Nat.zero_lt_one | (simp; omega) | (simp; done) | (simp only [v8s_length, v32s_length, vis_length, vns_length, v64s_length]; omega)) | rfl)) rfl ?_
     first | refine wpl_q (qop_eq (q_pure rfl) (congrArg (Value.int .i64) (wk_i64 (by omega) (by omega)))) rfl ?_ | refine wpl_q (q_pure rfl) rfl ?_
     refine wpl_t (t_call (N := fun pp : Nat × Nat => [.blk pp.1 25 (l.getD i HT.z).c, .blk pp.2 3 [.int .i64 ((d + 1 : Nat) : Int)]]) (T := fun _ => []) Try.hb46 rfl fun w h => all_ (l.getD i HT.z) (d + 1) w hx) rfl (fun b23 => ?_)
     refine wpl_nil ?_
     refine ex_then ?_
     refine wpc_block ?_
     refine wpc_rangeN (encs := encO) (Inv := (fun w => HSeen w.cell? (l.getD i HT.z))) (xs := (ord (l.getD i HT.z) (d + 1))) (β := Nat) [.blk b23.1 25 (l.getD i HT.z).c, .blk b23.2 3 [.int .i64 ((d + 1 : Nat) : Int)]] (.blk b5 25 (l.getD i HT.z).c :: .blk b3 90 [.func (.yield yl) #[] #[]] :: .blk pa 25 [.int .u8 (tg.toNat : Int), bv, lv] :: .blk pd 3 [.int .i64 ((d : Nat) : Int)] :: Ds.map obD) (((HT.nd tg bv bs lv l), d) :: ordL (l.take i) (d + 1)) (fun x _ b => [.blk b 25 x.1.c]) (fun x i b => [(3, .pointer (some ⟨b3, 0, none⟩)), (6, .pointer (some ⟨b, 0, none⟩)), (7, .int .i64 ((x.2 : Nat) : Int))]) hst hsk (fun T pre w h => HSeenL_iff.1 (hinv _ _ _ h).2.2 _ (getD_memH hil)) hi1 rfl Try.hb61 (fun w h hI => ih (l.getD i HT.z) (getD_memH hil) (d + 1) b23.1 b23.2 w (h.own _ (List.mem_cons_self ..)) (h.own _ (List.mem_cons_of_mem _ (List.mem_cons_self ..))) (fun e => (List.pairwise_cons.1 h.apart).1 _ (List.mem_cons_self ..) _ rfl (by rw [← e]; rfl)) (by omega) hI) (fun _ _ => rfl) (by decide) ?_ ?_ ?_ ?_
     ·
      intro l2 x i2 w1 K hxm hK
      have hxs := ord_seen (HSeenL_iff.1 (hinv _ _ _ hi1).2.2 _ (getD_memH hil)) hxm
      haveI := hxs.sv.one
      refine wic_seq ?_
      refine wic_region ?_
      refine wil_t (t_alloc Try.ti25 HT.z.c rfl) rfl (fun b6 => ?_)
      refine wil_t0 (t_stA Try.ti25 rfl rfl LenC.h OneC.h LenC.h) (fun _ => ?_)
      refine wil_nil ?_
      refine eix_then ?_
      refine wic_region ?_
      refine wil_q (q_pure rfl) rfl ?_
      refine wil_nil ?_
      exact fun a w hs h => hK b6 a w (hs.weaken (subs_get (by repeat (first | exact trivial | refine ⟨rfl, ?_⟩)))) h
     ·
      intro l2 pre x i2 b w1 LO hJ2 hpre
      show WPCI _ _ _ _ (Mem w1 (nums (.blk b 25 x.1.c :: .blk b5 25 (l.getD i HT.z).c :: .blk b3 90 [.func (.yield yl) #[] #[]] :: .blk pa 25 [.int .u8 (tg.toNat : Int), bv, lv] :: .blk pd 3 [.int .i64 ((d : Nat) : Int)] :: (Ds.map obD ++ LO))) (.blk b 25 x.1.c :: .blk b5 25 (l.getD i HT.z).c :: .blk b3 90 [.func (.yield yl) #[] #[]] :: .blk pa 25 [.int .u8 (tg.toNat : Int), bv, lv] :: .blk pd 3 [.int .i64 ((d : Nat) : Int)] :: (Ds.map obD ++ LO)) []) _ _
      refine wic_block ?_
      refine wic_seq ?_
      refine wic_region ?_
      refine wil_q (q_ld Try.underlying90 rfl rfl rfl) rfl ?_
      refine wil_q (q_ldN Try.underlying25 rfl Try.ti25 rfl LenC.h) rfl ?_
      refine wil_q (q_pure rfl) rfl ?_
      refine wil_yieldN (x) (()) rfl rfl hst hy hJ2 (by rw [List.append_assoc]; exact ord_pre hil hpre) rfl rfl ?_ ?_
      ·
       intro u29 hu29
       refine wil_q (q_pure rfl) rfl ?_
       refine wil_nil ?_
       refine eix_then ?_
       refine wic_cond_f rfl ?_
       refine wic_skip ?_
       refine ex_block ?_
       refine ex_roundN ?_
       exact fun w h => ⟨u29, _, by rw [← List.append_assoc]; exact hu29, h.sub (.drop (Sub.refl _)) .nil⟩
      ·
       intro u29 hu29
       refine wil_q (q_pure rfl) rfl ?_
       refine wil_nil ?_
       refine eix_then ?_
       refine wic_cond_t rfl ?_
       refine wic_ret ?_
       refine ex_block_ret ?_
       refine ex_roundR ?_
       exact fun w h => ⟨rfl, u29, _, hu29, h.sub (.drop (Sub.refl _)) .nil⟩
     ·
      intro D u3 T3 hJd
      refine ex_block ?_
      refine ex_block ?_
      refine ex_then ?_
      refine wpc_region ?_
      refine wpl_q (q_addN (b := 1) rfl rfl (by first | omega | (simp only [maxLen]; omega) | (simp only [List.length_append, List.length_cons, List.length_nil, List.length_take, maxLen]; omega) | (simp only [List.length_append, List.length_cons, List.length_nil, List.length_take]; omega))) rfl ?_
      refine wpl_q (q_pure rfl) rfl ?_
      refine wpl_nil ?_
      refine ex_againD ⟨(i + 1, u3, T3, D :: Ds), ⟨by show i + 1 ≤ l.length; omega, by show J T3 _ u3; rw [ordL_take hil]; exact hJd⟩⟩ ?_ ?_ ?_
      ·
       exact (by repeat (first | exact trivial | refine ⟨rfl, ?_⟩))
      ·
       exact fun w h => by
         have h2 := h.sub (M' := .obj D (.deferred (some [])) :: .blk b3 90 [.func (.yield yl) #[] #[]] :: .blk pa 25 [.int .u8 (tg.toNat : Int), bv, lv] :: .blk pd 3 [.int .i64 ((d : Nat) : Int)] :: Ds.map obD) (S' := []) SubC.h .nil
         exact h2.perm (List.perm_append_comm_assoc [obD D] [.blk b3 90 [.func (.yield yl) #[] #[]], .blk pa 25 [.int .u8 (tg.toNat : Int), bv, lv], .blk pd 3 [.int .i64 ((d : Nat) : Int)]] (Ds.map obD))
      ·
       (show l.length - (i + 1) < l.length - i); omega
     ·
      intro D u3 T3 hKd
      refine wpc_ret ?_
      refine ex_block_ret ?_
      refine ex_block_ret ?_
      refine ex_then_ret ?_
      refine ex_then_ret ?_
      refine ex_block_ret ?_
      refine ex_weaken (R1 := Mem _ _ (obD D :: List.map obD Ds) []) (L1 := []) (by repeat (first | exact trivial | refine ⟨rfl, ?_⟩)) (fun w h => h.sub SubC.h .nil) ?_
      refine ex_marks (Ds := (D :: Ds)) (.inl rfl) ?_
      refine ret0 (.inl rfl) rfl ?_
      exact fun w h => iter_stopN hsk hKd h
    ·
     simp only [decide_eq_false_iff_not] at hc17
     obtain rfl : i = l.length := by omega
     rw [List.take_length] at hi1
     refine wpc_exit ?_
     refine ex_then_exit ?_
     refine ex_then_exit ?_
     refine ex_block_hit ?_
     refine ex_weaken (R1 := Mem _ _ (List.map obD Ds) []) (L1 := []) (by repeat (first | exact trivial | refine ⟨rfl, ?_⟩)) (fun w h => h.sub SubC.h .nil) ?_
     refine ex_marks (Ds := Ds) (.inr rfl) ?_
     refine ret0 (.inr rfl) rfl ?_
     exact fun w h => iter_doneN hst hi1 h
  ·
   intro u11 hu11
   refine wil_q (q_pure rfl) rfl ?_
   refine wil_nil ?_
   refine ex_then ?_
   refine wpc_cond_t rfl ?_
   refine wpc_ret ?_
   refine ex_then_ret ?_
   refine ex_weaken (R1 := Mem _ _ (List.map obD []) []) (L1 := []) (by repeat (first | exact trivial | refine ⟨rfl, ?_⟩)) (fun w h => h.sub .nil .nil) ?_
   refine ex_marks (Ds := []) (.inl rfl) ?_
   refine ret0 (.inl rfl) rfl ?_
   exact fun w h => iter_stopN hsk hu11 h

end Go.Proofs.Ytommkigkkeailaa
