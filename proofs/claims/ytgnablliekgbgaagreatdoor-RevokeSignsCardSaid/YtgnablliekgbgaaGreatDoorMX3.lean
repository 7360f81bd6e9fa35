/- What the statement reaches, in order. -/
import Derived.Test.YtgnablliekgbgaaGreatDoorMXPLN
import Derived.Test.YtgnablliekgbgaaGreatDoorMXPLL
import Derived.Test.YtgnablliekgbgaaGreatDoorMXTI
import Derived.Lib.BufferRead
import Derived.Lib.ConvBytes
import Derived.Laws.IdiomStrings
import Derived.Test.YtgnablliekgbgaaGreatDoorMXPLH
import Derived.Test.YtgnablliekgbgaaGreatDoorMXPLI
import Derived.Test.YtgnablliekgbgaaGreatDoorMXPLZ
import Derived.WalkKit
import Derived.ProofKit
import Derived.OpenShut
import Derived.ChangeOld
import Derived.Below
import Derived.Carry
import Derived.LaidMore
import Derived.Deep.DeepHandedRow
import Derived.Deep.DeepWitnessRowRef
import Derived.Lib.LaidTab
import Derived.Stop.Joined
import Derived.Test.YtgnablliekgbgaaGreatDoorMX2
set_option linter.unusedSimpArgs false
set_option linter.unusedVariables false
set_option maxRecDepth 100000
namespace Go.Proofs.YtgnablliekgbgaaGreatDoor
open Go Go.PL Go.RowKit
theorem all_ (t : HT) (d : Nat) (w : World) (ht : t.sv)  :
    Calls Tryz.prog 80 [.agg t.c.toArray, .int .i64 ((d : Nat) : Int)].toArray w (Gives w (fun pp : Nat × Nat => .func (.func 96) #[] #[.pointer (some ⟨pp.1, 0, none⟩), .pointer (some ⟨pp.2, 0, none⟩)]) (fun pp => [.blk pp.1 60 t.c, .blk pp.2 3 [.int .i64 ((d : Nat) : Int)]]) (fun _ => [])) := by
  haveI := ht.one
  refine enter (m := 6) (R := Mem w [] [] []) Tryz.func80 rfl rfl (Nat.le_of_ble_eq_true rfl) (Mem.start w) ?_
  refine wpc_seq <| wpc_region ?_
  refine wpl_t (t_box rfl t.c rfl) rfl (fun b2 => ?_)
  refine wpl_t (t_box rfl [.int .i64 ((d : Nat) : Int)] rfl) rfl (fun b3 => ?_)
  refine wpl_q (q_pure rfl) rfl <| wpl_nil <| ex_then <| wpc_seq <| wpc_region ?_
  refine wpl_q (q_fn (us := []) (vs := [.pointer (some ⟨b2, 0, none⟩), .pointer (some ⟨b3, 0, none⟩)]) rfl rfl) rfl ?_
  refine wpl_q (q_pure rfl) rfl <| wpl_nil <| ex_then <| wpc_ret ?_
  refine ret1 (.inl rfl) rfl rfl ?_
  exact fun w1 h => ⟨(b2, b3), rfl, h.below, (show Mem w [] [.blk b2 60 t.c, .blk b3 3 [.int .i64 ((d : Nat) : Int)]] [] w1 from h.sel).made (Sub.refl _) .nil⟩
theorem all1_step (yl : Nat) (pa : Nat) (pd : Nat) (t : HT) (d : Nat) (J : List Nat → List (HT × Nat) → World → Prop) (K : List Nat → World → Prop) (w : World)  (hst : StabJ J) (hinv : ∀ T pre w1, J T pre w1 → HSeen w1.cell? t) (hsk : StabT K) (hy : YieldN Tryz.prog yl encO (ord t d) J K) (hJ0 : J [pa, pd] [] w) (hpa : w.heap[pa]? = some (.cells t.c.toArray 60 (0, 0))) (hpd : w.heap[pd]? = some (.cells #[.int .i64 ((d : Nat) : Int)] 3 (0, 0))) (hne : pa ≠ pd) (hd : d + t.tr.dep ≤ 1000000) (ih : ∀ x ∈ t.kids, ∀ (d pa pd : Nat) (w : World), w.heap[pa]? = some (.cells x.c.toArray 60 (0, 0)) → w.heap[pd]? = some (.cells #[.int .i64 ((d : Nat) : Int)] 3 (0, 0)) → pa ≠ pd → d + x.tr.dep ≤ 1000000 → HSeen w.cell? x → IterN Tryz.prog 96 #[.pointer (some ⟨pa, 0, none⟩), .pointer (some ⟨pd, 0, none⟩)] encO (fun w => HSeen w.cell? x) (ord x d) [pa, pd] w) :
    Calls Tryz.prog 96 [.func (.yield yl) #[] #[], .pointer (some ⟨pa, 0, none⟩), .pointer (some ⟨pd, 0, none⟩)].toArray w (IterPostN J K (ord t d)) := by
  obtain ⟨tg, bv, bs, lv, l⟩ := t
  have ht := hinv _ _ _ hJ0
  have svb := ht.1.sv
  have svl := ht.2.1.sv
  have lb := svb.le
  have ll := svl.le
  simp only [maxLen] at lb ll
  haveI := ht.sv.one
  refine enterN (m := 32) (R := Mem w [pa, pd] [.blk pa 60 [.int .u8 (tg.toNat : Int), bv, lv], .blk pd 3 [.int .i64 ((d : Nat) : Int)]] []) Tryz.func96 rfl rfl (Nat.le_of_ble_eq_true rfl) (Mem.start2 (c1 := [.int .u8 (tg.toNat : Int), bv, lv]) (c2 := [.int .i64 ((d : Nat) : Int)]) w hpa hpd hne) ?_
  refine wpc_seq <| wpc_region ?_
  refine wpl_t (t_box rfl [.func (.yield yl) #[] #[]] rfl) rfl (fun b3 => ?_)
  refine wpl_nil <| ex_then <| wpc_seq <| wpc_seq ?_
  refine wpc_region_y ?_
  refine wil_q (q_ld Tryz.underlying126 rfl rfl rfl) rfl ?_
  refine wil_q (q_ldN Tryz.underlying60 rfl Tryz.ti60 rfl LenC.h) rfl ?_
  refine wil_q (q_ld Tryz.underlying3 rfl rfl zz27) rfl ?_
  refine wil_yieldN (((HT.nd tg bv bs lv l), d)) (()) rfl rfl hst hy hJ0 ⟨ordL l (d + 1), rfl⟩ rfl rfl ?_ ?_
  ·
   intro u11 hu11
   refine wil_q (q_pure rfl) rfl ?_
   refine wil_nil ?_
   refine ex_then ?_
   refine wpc_cond_f rfl ?_
   refine wpc_skip <| ex_then <| wpc_seq <| wpc_region <| wpl_q (q_field Tryz.underlying60 rfl Tryz.ti58 rfl rfl _ rfl) rfl <| wpl_q (q_ld Tryz.underlying58 rfl rfl rfl) rfl ?_
   refine wpl_q (q_lenW Tryz.underlying58 rfl zz5) rfl ?_
   refine wpl_q (q_pure rfl) rfl <| wpl_nil <| ex_then <| wpc_block ?_
   refine wpc_loopd (ι := { x : Nat × World × List Nat × List Nat // (x.1 ≤ l.length) ∧ (J x.2.2.1 (((HT.nd tg bv bs lv l), d) :: ordL (l.take x.1) (d + 1)) x.2.1) }) (fun x => (x.1.2.2.2).map Go.PL.mark) (fun x => [(16, .int .i64 ((x.1.1 : Nat) : Int)), (2, .pointer (some ⟨pd, 0, none⟩)), (3, .pointer (some ⟨b3, 0, none⟩)), (14, lv), (15, .int .i64 ((l.length : Nat) : Int))]) (fun x => Mem x.1.2.1 x.1.2.2.1 (.blk b3 126 [.func (.yield yl) #[] #[]] :: .blk pa 60 [.int .u8 (tg.toNat : Int), bv, lv] :: .blk pd 3 [.int .i64 ((d : Nat) : Int)] :: x.1.2.2.2.map obD) []) (fun x => l.length - x.1.1) ⟨(0, u11, nums [.blk b3 126 [.func (.yield yl) #[] #[]], .blk pa 60 [.int .u8 (tg.toNat : Int), bv, lv], .blk pd 3 [.int .i64 ((d : Nat) : Int)]], []), ⟨Nat.zero_le _, hu11⟩⟩ zz10 ?_ ?_
   ·
    exact fun w h => h
   ·
    rintro ⟨⟨i, wb, T, Ds⟩, ⟨hi0, hi1⟩⟩; try dsimp only
    have hi0 : i ≤ l.length := hi0; have hi1 : J T (((HT.nd tg bv bs lv l), d) :: ordL (l.take i) (d + 1)) wb := hi1
    have hsee : ∀ {M : List Ent} {S : List Fact} {w : World}, Mem wb T M S w → HSeen w.cell? (HT.nd tg bv bs lv l) := fun h => hinv _ _ _ (hst _ _ _ _ _ hi1 (h.sub .nil .nil) (nums_lt h))
    refine wpc_seq <| wpc_region <| wpl_q (q_pure rfl) rfl <| wpl_nil <| ex_then <| wpc_seq ?_
    refine wpc_cond rfl (fun hc17 => ?_) (fun hc17 => ?_)
    ·
     simp only [decide_eq_true_eq] at hc17
     have hil : i < l.length := by omega
     have hdl := depL_kid hil
     have hd1 : d + (depL (trs l) + 1) ≤ 1000000 := hd
     have hx : (l.getD i HT.z).sv := (HSeenL_iff.1 (hinv _ _ _ hi1).2.2 _ (getD_memH hil)).sv
     haveI := hx.one
     refine wpc_skip <| ex_then <| wpc_seq <| wpc_block <| wpc_seq <| wpc_region ?_
     refine wpl_q (q_idxW Tryz.underlying58 Tryz.ti60 rfl rfl zz5 zz1) rfl ?_
     refine wpl_q (q_ldWN Tryz.underlying60 rfl Tryz.ti60 rfl (fun w h => (hsee h).2.1) (l.getD i HT.z).c (cat_part HT.c_length HT.z hil) (HT.c_length _)) rfl ?_
     refine wpl_t (t_alloc Tryz.ti60 HT.z.c rfl) rfl (fun b5 => ?_)
     refine wpl_t0 (t_stA Tryz.ti60 rfl rfl LenC.h OneC.h LenC.h) (fun _ => ?_)
     refine wpl_nil <| ex_then <| wpc_seq <| wpc_region <| wpl_q (q_ldN Tryz.underlying60 rfl Tryz.ti60 rfl LenC.h) rfl ?_
     refine wpl_q (q_ld Tryz.underlying3 rfl rfl zz27) rfl ?_
     first | refine wpl_q (qop_eq (q_pure rfl) (congrArg (Value.int .i64) (wk_i64 zz16 zz16))) rfl ?_ | refine wpl_q (q_pure rfl) rfl ?_
     refine wpl_t (t_call (N := fun pp : Nat × Nat => [.blk pp.1 60 (l.getD i HT.z).c, .blk pp.2 3 [.int .i64 ((d + 1 : Nat) : Int)]]) (T := fun _ => []) Tryz.hb80 rfl fun w h => all_ (l.getD i HT.z) (d + 1) w hx) rfl (fun b23 => ?_)
     refine wpl_nil <| ex_then <| wpc_block ?_
     refine wpc_rangeN (encs := encO) (Inv := (fun w => HSeen w.cell? (l.getD i HT.z))) (xs := (ord (l.getD i HT.z) (d + 1))) (β := Nat) [.blk b23.1 60 (l.getD i HT.z).c, .blk b23.2 3 [.int .i64 ((d + 1 : Nat) : Int)]] (.blk b5 60 (l.getD i HT.z).c :: .blk b3 126 [.func (.yield yl) #[] #[]] :: .blk pa 60 [.int .u8 (tg.toNat : Int), bv, lv] :: .blk pd 3 [.int .i64 ((d : Nat) : Int)] :: Ds.map obD) (((HT.nd tg bv bs lv l), d) :: ordL (l.take i) (d + 1)) (fun x _ b => [.blk b 60 x.1.c]) (fun x i b => [(3, .pointer (some ⟨b3, 0, none⟩)), (6, .pointer (some ⟨b, 0, none⟩)), (7, .int .i64 ((x.2 : Nat) : Int))]) hst hsk (fun T pre w h => HSeenL_iff.1 (hinv _ _ _ h).2.2 _ (getD_memH hil)) hi1 rfl Tryz.hb96 (fun w h hI => ih (l.getD i HT.z) (getD_memH hil) (d + 1) b23.1 b23.2 w (h.own _ (List.mem_cons_self ..)) (h.own _ (List.mem_cons_of_mem _ (List.mem_cons_self ..))) (fun e => (List.pairwise_cons.1 h.apart).1 _ (List.mem_cons_self ..) _ rfl (by rw [← e]; rfl)) zz16 hI) (fun _ _ => rfl) zz22 ?_ ?_ ?_ ?_
     ·
      intro l2 x i2 w1 K hxm hK
      have hxs := ord_seen (HSeenL_iff.1 (hinv _ _ _ hi1).2.2 _ (getD_memH hil)) hxm
      haveI := hxs.sv.one
      refine wic_seq ?_
      refine wic_region ?_
      refine wil_t (t_alloc Tryz.ti60 HT.z.c rfl) rfl (fun b6 => ?_)
      refine wil_t0 (t_stA Tryz.ti60 rfl rfl LenC.h OneC.h LenC.h) (fun _ => ?_)
      refine wil_nil ?_
      refine eix_then ?_
      refine wic_region ?_
      refine wil_q (q_pure rfl) rfl ?_
      refine wil_nil ?_
      exact fun a w hs h => hK b6 a w (hs.weaken (subs_get zz10)) h
     ·
      intro l2 pre x i2 b w1 LO hJ2 hpre
      show WPCI _ _ _ _ (Mem w1 (nums (.blk b 60 x.1.c :: .blk b5 60 (l.getD i HT.z).c :: .blk b3 126 [.func (.yield yl) #[] #[]] :: .blk pa 60 [.int .u8 (tg.toNat : Int), bv, lv] :: .blk pd 3 [.int .i64 ((d : Nat) : Int)] :: (Ds.map obD ++ LO))) (.blk b 60 x.1.c :: .blk b5 60 (l.getD i HT.z).c :: .blk b3 126 [.func (.yield yl) #[] #[]] :: .blk pa 60 [.int .u8 (tg.toNat : Int), bv, lv] :: .blk pd 3 [.int .i64 ((d : Nat) : Int)] :: (Ds.map obD ++ LO)) []) _ _
      refine wic_block ?_
      refine wic_seq ?_
      refine wic_region ?_
      refine wil_q (q_ld Tryz.underlying126 rfl rfl rfl) rfl ?_
      refine wil_q (q_ldN Tryz.underlying60 rfl Tryz.ti60 rfl LenC.h) rfl ?_
      refine wil_q (q_pure rfl) rfl ?_
      refine wil_yieldN (x) (()) rfl rfl hst hy hJ2 (by rw [List.append_assoc]; exact ord_pre hil hpre) rfl rfl ?_ ?_
      ·
       intro u29 hu29
       refine wil_q (q_pure rfl) rfl ?_
       refine wil_nil ?_
       refine eix_then ?_
       refine wic_cond_f rfl ?_
       refine wic_skip ?_
       refine ex_block ?_
       refine ex_roundN ?_
       exact fun w h => ⟨u29, _, by rw [← List.append_assoc]; exact hu29, h.sub (.drop (Sub.refl _)) .nil⟩
      ·
       intro u29 hu29
       refine wil_q (q_pure rfl) rfl ?_
       refine wil_nil ?_
       refine eix_then ?_
       refine wic_cond_t rfl ?_
       refine wic_ret ?_
       refine ex_block_ret ?_
       refine ex_roundR ?_
       exact fun w h => ⟨rfl, u29, _, hu29, h.sub (.drop (Sub.refl _)) .nil⟩
     ·
      intro D u3 T3 hJd
      refine ex_block <| ex_block <| ex_then <| wpc_region ?_
      refine wpl_q (q_addN (b := 1) rfl rfl zz1) rfl ?_
      refine wpl_q (q_pure rfl) rfl <| wpl_nil ?_
      refine ex_againD ⟨(i + 1, u3, T3, D :: Ds), ⟨by show i + 1 ≤ l.length; omega, by show J T3 _ u3; rw [ordL_take hil]; exact hJd⟩⟩ ?_ ?_ ?_
      ·
       exact zz10
      ·
       exact fun w h => by
         have h2 := h.sub (M' := .obj D (.deferred (some [])) :: .blk b3 126 [.func (.yield yl) #[] #[]] :: .blk pa 60 [.int .u8 (tg.toNat : Int), bv, lv] :: .blk pd 3 [.int .i64 ((d : Nat) : Int)] :: Ds.map obD) (S' := []) SubC.h .nil
         exact h2.perm (List.perm_append_comm_assoc [obD D] [.blk b3 126 [.func (.yield yl) #[] #[]], .blk pa 60 [.int .u8 (tg.toNat : Int), bv, lv], .blk pd 3 [.int .i64 ((d : Nat) : Int)]] (Ds.map obD))
      ·
       (show l.length - (i + 1) < l.length - i); omega
     ·
      intro D u3 T3 hKd
      refine wpc_ret ?_
      refine ex_block_ret ?_
      refine ex_block_ret ?_
      refine ex_then_ret ?_
      refine ex_then_ret ?_
      refine ex_block_ret ?_
      refine ex_weaken (R1 := Mem _ _ (obD D :: List.map obD Ds) []) (L1 := []) zz10 (fun w h => h.sub SubC.h .nil) ?_
      refine ex_marks (Ds := (D :: Ds)) (.inl rfl) ?_
      refine ret0 (.inl rfl) rfl ?_
      exact fun w h => iter_stopN hsk hKd h
    ·
     simp only [decide_eq_false_iff_not] at hc17
     obtain rfl : i = l.length := by omega
     rw [List.take_length] at hi1
     refine wpc_exit ?_
     refine ex_then_exit ?_
     refine ex_then_exit ?_
     refine ex_block_hit ?_
     refine ex_weaken (R1 := Mem _ _ (List.map obD Ds) []) (L1 := []) zz10 (fun w h => h.sub SubC.h .nil) ?_
     refine ex_marks (Ds := Ds) (.inr rfl) ?_
     refine ret0 (.inr rfl) rfl ?_
     exact fun w h => iter_doneN hst hi1 h
  ·
   intro u11 hu11
   refine wil_q (q_pure rfl) rfl ?_
   refine wil_nil ?_
   refine ex_then ?_
   refine wpc_cond_t rfl ?_
   refine wpc_ret ?_
   refine ex_then_ret ?_
   refine ex_weaken (R1 := Mem _ _ (List.map obD []) []) (L1 := []) zz10 (fun w h => h.sub .nil .nil) ?_
   refine ex_marks (Ds := []) (.inl rfl) ?_
   refine ret0 (.inl rfl) rfl ?_
   exact fun w h => iter_stopN hsk hu11 h
end Go.Proofs.YtgnablliekgbgaaGreatDoor
namespace Go.Proofs.YtgnablliekgbgaaGreatDoor
open Go Go.PL Go.RowKit
theorem allIter : ∀ (t : HT) (d pa pd : Nat) (w : World), w.heap[pa]? = some (.cells t.c.toArray 60 (0, 0)) → w.heap[pd]? = some (.cells #[.int .i64 ((d : Nat) : Int)] 3 (0, 0)) → pa ≠ pd → d + t.tr.dep ≤ 1000000 → HSeen w.cell? t →
    IterN Tryz.prog 96 #[.pointer (some ⟨pa, 0, none⟩), .pointer (some ⟨pd, 0, none⟩)] encO (fun w => HSeen w.cell? t) (ord t d) [pa, pd] w := by
  intro t
  induction t using HT.ind with
  | _ tg bv bs lv l ih =>
    intro d pa pd w h1 h2 hne hd _ yl J K hst hinv hsk hy hJ0
    exact all1_step yl pa pd (.nd tg bv bs lv l) d J K w hst hinv hsk hy hJ0 h1 h2 hne hd (fun x hx d pa pd w a b c e f => ih x hx d pa pd w a b c e f)
theorem Mem.join {w0 u w : World} {Ln T : List Nat} {Ms N : List Ent} (h : Mem w0 Ln Ms [] u) (hT : ∀ j, j ∈ T → w0.heap.size ≤ j ∧ inM Ms j = false) (h2 : Mem u T N [] w) : Mem w0 Ln (N ++ Ms) [] w := by
  have hc := h.chg (h2.sub .nil .nil) hT
  refine ⟨hc.os, hc.tape, hc.output, hc.size, hc.old, fun e he => ?_, fun e he k hk => ?_, List.pairwise_append.2 ⟨h2.apart, hc.apart, fun e he f hf k hk hfk => ?_⟩, fun _ hs => (by cases hs)⟩
  · rcases List.mem_append.1 he with he | he
    · exact h2.own e he
    · exact hc.own e he
  · rcases List.mem_append.1 he with he | he
    · rcases h2.new e he k hk with h1 | h1
      · exact .inl (Nat.le_trans h.size h1)
      · exact .inl (hT k h1).1
    · exact hc.new e he k hk
  · have hlt := Ent.lt (h.own f hf) hfk
    rcases h2.new e he k hk with h1 | h1
    · omega
    · exact inM_not (hT k h1).2 f hf hfk
def TopJ {α σ : Type} (w0 : World) (Ln : List Nat) (M : σ → List Ent) (g : List α → σ → Prop) (T : List Nat) (pre : List α) (w : World) : Prop := ∃ s, g pre s ∧ Mem w0 Ln (M s) [] w ∧ ∀ j, j ∈ T → w0.heap.size ≤ j ∧ inM (M s) j = false ∧ j < w.heap.size
theorem top_stab {α σ : Type} {w0 : World} {Ln : List Nat} {M : σ → List Ent} {g : List α → σ → Prop} : StabJ (TopJ w0 Ln M g) := by
  rintro T T' pre w1 w2 ⟨s, hg, h, hT⟩ hc hT'
  refine ⟨s, hg, h.chg hc fun k hk => ⟨(hT k hk).1, (hT k hk).2.1⟩, fun j hj => ?_⟩
  obtain ⟨h1, h2⟩ := hT' j hj
  rcases h1 with h1 | h1
  · exact ⟨(hT j h1).1, (hT j h1).2.1, h2⟩
  · refine ⟨Nat.le_trans h.size h1, ?_, h2⟩
    cases hm : inM (M s) j
    · rfl
    · obtain ⟨e, he, hn⟩ := inM_iff.1 hm
      have := Ent.lt (h.own e he) hn
      omega
theorem inM_apart {A B : List Ent} {j : Nat} (h : (A ++ B).Pairwise fun e f => ∀ k, e.num = some k → f.num ≠ some k) (hj : j ∈ nums A) : inM B j = false := by
  obtain ⟨e, he, hn⟩ := mem_nums.1 hj
  cases hm : inM B j
  · rfl
  · obtain ⟨f, hf, hfn⟩ := inM_iff.1 hm
    exact absurd hfn ((List.pairwise_append.1 h).2.2 e he f hf j hn)
theorem wpc_rangeT {P : Program} {Q : Exit → Act → World → Prop} {gx : Operand} {ps : Array Tmp} {assign body : Code} {k : Nat} {ds : List Deferred} {L : Slots} {w0 : World} {Ln : List Nat} {S : List Fact} {α ι ρ σ β : Type} {gf : FuncId} {lb : Array Value}
    {encs : α → ι → Array Value} {Inv : World → Prop} {xs : List α} (E0 : List Ent) (M : σ → List Ent) (g : List α → σ → Prop) (s0 : σ) (pr : ρ → Prop) (Mr : ρ → List Ent) (Ma : α → ι → β → List Ent) (L1 : α → ι → β → Slots)
    (hg : ev L gx = some (.func (.func gf) #[] lb)) (hbd : HasBody P gf) (h0 : g [] s0)
    (hE0 : ∀ w, Mem w0 Ln (E0 ++ M s0) S w → ∀ k, k ∈ nums E0 → w0.heap.size ≤ k)
    (hit : ∀ wb w, Mem wb (nums E0) E0 [] w → Inv w → IterN P gf lb encs Inv xs (nums E0) w) (hInv : ∀ pre s w, g pre s → Mem w0 Ln (M s) [] w → Inv w)
    (hps : ∀ x i, (encs x i).size = ps.size) (hpk : ∀ p ∈ ps.toList, p < k)
    (hassign : ∀ (l : Nat) (x : α) (i : ι) (w1 : World) (K : Act → World → Prop), x ∈ xs → (∀ b a w, Sl ⟨k, []⟩ a (L1 x i b) → Mem w1 [] (Ma x i b) [] w → K a w) →
      WPCI (Fence.wide.inRound l) P (Exit.then K (fun _ _ _ => False)) ⟨k, []⟩ (Mem w1 [] [] []) (addSlots ps.toList (encs x i).toList L) assign)
    (hbody : ∀ (l : Nat) (pre : List α) (x : α) (i : ι) (s : σ) (b : β) (w1 : World), g pre s → (pre ++ [x]) <+: xs → Mem w0 Ln (Ma x i b ++ M s) [] w1 →
      WPCI (Fence.wide.inRound l) P (RoundPostS (fun w' => ∃ s', g (pre ++ [x]) s' ∧ Mem w1 (nums (Ma x i b ++ M s)) (M s') [] w') (fun c w' => c = .ret ∧ ∃ r, pr r ∧ Mem w1 (nums (Ma x i b ++ M s)) (Mr r) [] w')) ⟨k, []⟩ (Mem w1 (nums (Ma x i b ++ M s)) (Ma x i b ++ M s) []) (L1 x i b) body)
    (hdone : ∀ D s, g xs s → EX Q .normal ⟨k, Go.PL.mark D :: ds⟩ (Mem w0 Ln (Ent.obj D (.deferred (some [])) :: M s) []) L)
    (hstop : ∀ D r, pr r → WPC P Q ⟨k, Go.PL.mark D :: ds⟩ (Mem w0 Ln (Ent.obj D (.deferred (some [])) :: Mr r) []) L .ret) :
    WPC P Q ⟨k, ds⟩ (Mem w0 Ln (E0 ++ M s0) S) L (.rangeFunc gx ps assign body) := by
  intro a w hs hr
  have hr0 := List.pairwise_append.1 hr.apart
  refine wpc_rangeN (encs := encs) (Inv := Inv) (xs := xs) (β := β) (J := TopJ w0 Ln M g) (K := fun T w => TopJ w0 Ln Mr (fun (_ : List α) r => pr r) T [] w) (wb := w) (Ln := nums E0) (S := []) E0 [] [] Ma L1 top_stab (stabJ_T top_stab []) ?_ ?_ hg hbd ?_ hps hpk hassign ?_ ?_ ?_ a w hs ?_
  · rintro T pre w1 ⟨s, h1, h2, _⟩
    exact hInv pre s w1 h1 h2
  · exact ⟨s0, h0, hr.sub (sub_app _ _) .nil, fun j hj => ⟨hE0 w hr j hj, inM_apart hr.apart hj, (by
      obtain ⟨e, he, hn⟩ := mem_nums.1 hj
      exact Ent.lt (hr.own e (List.mem_append_left _ he)) hn)⟩⟩
  · intro w1 h1 hI
    rw [List.append_nil] at h1
    exact hit w w1 h1 hI
  · rintro l pre x i b w1 LO ⟨s, h1, h2, h3⟩ hpre a1 w2 hs1 hm
    rw [List.nil_append] at h3 hm
    have hAll := Mem.join h2 (fun j hj => ⟨(h3 j hj).1, (h3 j hj).2.1⟩) hm
    have hU : Mem w0 Ln (LO ++ (Ma x i b ++ M s)) [] w2 := hAll.perm (by
      rw [List.append_assoc]; exact List.perm_append_comm_assoc _ _ _)
    have hUs : Mem w0 Ln (Ma x i b ++ M s) [] w2 := hU.sub (sub_app _ _) .nil
    refine wpIn_mono (hbody l pre x i s b w2 h1 hpre hUs a1 w2 hs1 (Mem.startL w2 hUs.own hUs.apart)) ?_
    have fin : ∀ {M' : List Ent} {w3 : World}, Mem w2 (nums (Ma x i b ++ M s)) M' [] w3 → Mem w0 Ln M' [] w3 ∧ (∀ j, j ∈ nums LO → w0.heap.size ≤ j ∧ inM M' j = false ∧ j < w3.heap.size) ∧ Mem w3 (nums LO) ([] ++ LO) [] w3 := fun {M'} {w3} h => by
      have hF := hU.framed h
      refine ⟨hF.sub (sub_app _ _) .nil, fun j hj => ⟨?_, inM_apart hF.apart hj, ?_⟩, Mem.startL w3 (fun e he => hF.own e (List.mem_append_left _ he)) (List.pairwise_append.1 hF.apart).1⟩
      · obtain ⟨e, he, hn⟩ := mem_nums.1 hj
        exact (h3 j (mem_nums.2 ⟨e, List.mem_append_right _ (by simpa using he), hn⟩)).1
      · obtain ⟨e, he, hn⟩ := mem_nums.1 hj
        exact Ent.lt (hF.own e (List.mem_append_left _ he)) hn
    rintro e a3 w3 hp
    cases e with
    | normal =>
      obtain ⟨s', hg', hm'⟩ : ∃ s', g (pre ++ [x]) s' ∧ Mem w2 (nums (Ma x i b ++ M s)) (M s') [] w3 := hp
      obtain ⟨f1, f2, f3⟩ := fin hm'
      exact ⟨w3, nums LO, ⟨s', hg', f1, f2⟩, f3⟩
    | ret =>
      obtain ⟨_, r, hg', hm'⟩ : Code.ret = .ret ∧ ∃ r, pr r ∧ Mem w2 (nums (Ma x i b ++ M s)) (Mr r) [] w3 := hp
      obtain ⟨f1, f2, f3⟩ := fin hm'
      exact ⟨rfl, w3, nums LO, ⟨r, hg', f1, f2⟩, f3⟩
    | exit id => exact (Code.noConfusion (hp : Code.exit id = .ret ∧ _).1)
    | goto t => exact (hp : False).elim
    | panic ch => exact (hp : False).elim
    | outgrown => exact (hp : False).elim
  · rintro D u T ⟨s, h1, h2, h3⟩ a1 w1 hs1 hm
    exact hdone D s h1 a1 w1 hs1 (Mem.join h2 (fun j hj => ⟨(h3 j hj).1, (h3 j hj).2.1⟩) hm)
  · rintro D u T ⟨r, h1, h2, h3⟩ a1 w1 hs1 hm
    exact hstop D r h1 a1 w1 hs1 (Mem.join h2 (fun j hj => ⟨(h3 j hj).1, (h3 j hj).2.1⟩) hm)
  · rw [List.append_nil]; exact Mem.startL w (fun e he => hr.own e (List.mem_append_left _ he)) hr0.1
end Go.Proofs.YtgnablliekgbgaaGreatDoor
namespace Go.Proofs.YtgnablliekgbgaaGreatDoor
open Go Go.PL Go.RowKit
def okN : HT → Bool | .nd g _ bs _ l => !badT g bs.length l.length
def okY (y : HT × Nat) : Bool := okN y.1
mutual
theorem ord_len : ∀ (t : HT) (d : Nat), (ord t d).length = t.tr.cnt
  | .nd g v bs u l, d => by rw [ord, List.length_cons, ordL_len l (d + 1)]; show _ = 1 + cntL (trs l); omega
theorem ordL_len : ∀ (l : List HT) (d : Nat), (ordL l d).length = cntL (trs l)
  | [], _ => rfl
  | x :: l, d => by rw [ordL, List.length_append, ord_len x d, ordL_len l d]; rfl
end
mutual
theorem ord_all : ∀ (t : HT) (d : Nat), (ord t d).all okY = t.tr.shp
  | .nd g v bs u l, d => by
    rw [ord, List.all_cons, ordL_all l (d + 1)]
    show (!badT g bs.length l.length && _) = (!badT g bs.length (trs l).length && _)
    rw [trs_length]
theorem ordL_all : ∀ (l : List HT) (d : Nat), (ordL l d).all okY = shpL (trs l)
  | [], _ => rfl
  | x :: l, d => by rw [ordL, List.all_append, ord_all x d, ordL_all l d]; rfl
end
mutual
theorem ord_le : ∀ (t : HT) (d : Nat), ∀ y ∈ ord t d, y.2 + 1 ≤ d + t.tr.dep
  | .nd g v bs u l, d => by
    intro y hy
    rw [ord] at hy
    show y.2 + 1 ≤ d + (depL (trs l) + 1)
    rcases List.mem_cons.1 hy with rfl | hy
    · show d + 1 ≤ _; omega
    · have := ordL_le l (d + 1) y hy; omega
theorem ordL_le : ∀ (l : List HT) (d : Nat), ∀ y ∈ ordL l d, y.2 + 1 ≤ d + depL (trs l)
  | [], _ => by intro y hy; cases hy
  | x :: l, d => by
    intro y hy
    rw [ordL, List.mem_append] at hy
    show y.2 + 1 ≤ d + max x.tr.dep (depL (trs l))
    rcases hy with hy | hy
    · have := ord_le x d y hy; omega
    · have := ordL_le l d y hy; omega
end
mutual
theorem ord_max : ∀ (t : HT) (d N : Nat), (∀ y ∈ ord t d, y.2 ≤ N) → d + t.tr.dep ≤ N + 1
  | .nd g v bs u l, d, N => by
    intro h
    rw [ord] at h
    have h1 : d ≤ N := h _ (List.mem_cons_self ..)
    have h2 := ordL_max l (d + 1) N zz16 fun y hy => h y (List.mem_cons_of_mem _ hy)
    show d + (depL (trs l) + 1) ≤ _
    omega
theorem ordL_max : ∀ (l : List HT) (d N : Nat), d ≤ N + 1 → (∀ y ∈ ordL l d, y.2 ≤ N) → d + depL (trs l) ≤ N + 1
  | [], d, N => by intro h _; show d + 0 ≤ _; omega
  | x :: l, d, N => by
    intro h0 h
    rw [ordL] at h
    have h1 := ord_max x d N fun y hy => h y (List.mem_append_left _ hy)
    have h2 := ordL_max l d N h0 fun y hy => h y (List.mem_append_right _ hy)
    show d + max x.tr.dep (depL (trs l)) ≤ _
    omega
end
theorem okv (g : UInt8) (v : Value) (cs : List UInt8) (u : Value) (l : List HT) : okN (.nd g v cs u l) = (decide (g.toNat ≠ 0) && (decide (128 ≤ g.toNat) || decide (l.length = 0)) && (decide (g.toNat < 128) || decide (cs.length = 0))) := by
  have e0 : decide (g = 0) = decide (g.toNat = 0) := by rw [decide_eq_decide]; exact ⟨fun h => by rw [h]; rfl, fun h => UInt8.toNat_inj.1 h⟩
  have e1 : decide (g < 128) = decide (g.toNat < 128) := decide_eq_decide.2 Iff.rfl
  have e2 : decide (128 ≤ g) = decide (128 ≤ g.toNat) := decide_eq_decide.2 Iff.rfl
  show (!(decide (g = 0) || decide (g < 128) && decide (0 < l.length) || decide (128 ≤ g) && decide (0 < cs.length))) = _
  rw [e0, e1, e2]
  rw [Bool.eq_iff_iff]
  simp only [Bool.not_eq_true', Bool.or_eq_false_iff, Bool.and_eq_false_iff, decide_eq_false_iff_not, Bool.and_eq_true, Bool.or_eq_true, decide_eq_true_eq, ne_eq]
  omega
def gC (pre : List (HT × Nat)) (s : Nat × Bool) : Prop := s.1 = pre.length ∧ pre.length ≤ 4000 ∧ (∀ y ∈ pre, y.2 ≤ 12) ∧ s.2 = pre.all okY
theorem gC_stop {t : HT} {pre : List (HT × Nat)} {x : HT × Nat} (hp : (pre ++ [x]) <+: ord t 1) (h : 4000 < pre.length + 1 ∨ 12 < x.2) : checkF t.tr = 4 := by
  have h1 := hp.length_le
  rw [ord_len, List.length_append, List.length_singleton] at h1
  have h2 := ord_le t 1 x (hp.subset (List.mem_append_right _ (List.mem_singleton.2 rfl)))
  rw [checkF, if_pos zz16]
theorem gC_next {pre : List (HT × Nat)} {n : Nat} {ok : Bool} {x : HT × Nat} (h : gC pre (n, ok)) (h1 : ¬ 4000 < pre.length + 1) (h2 : ¬ 12 < x.2) : gC (pre ++ [x]) (n + 1, ok && okY x) := by
  obtain ⟨a, b, c, e⟩ := h
  refine ⟨by rw [List.length_append]; exact congrArg (· + 1) a, by rw [List.length_append, List.length_singleton]; omega, fun y hy => ?_, ?_⟩
  · rcases List.mem_append.1 hy with hy | hy
    · exact c y hy
    · rw [List.mem_singleton.1 hy]; omega
  · show (ok && okY x) = _
    rw [List.all_append, show ok = pre.all okY from e]; simp
theorem gC_done {t : HT} {n : Nat} {ok : Bool} (h : gC (ord t 1) (n, ok)) : ¬ (4000 < t.tr.cnt ∨ 12 < t.tr.dep) ∧ ok = t.tr.shp := by
  obtain ⟨a, b, c, e⟩ := h
  rw [ord_len] at b
  have h1 := ord_max t 1 12 c
  exact ⟨zz16, by rw [← ord_all t 1]; exact e⟩
theorem check (t : HT) (w : World) (ht : HSeen w.cell? t) (hsm : Sm t.tr) (hdp : t.tr.dep ≤ 900000) :
    Calls Tryz.prog 51 [.agg t.c.toArray].toArray w (Pur w (.int .i64 (checkF t.tr))) := by
  haveI := ht.sv.one
  refine enterN (m := 52) (R := Mem w [] [] []) Tryz.func51 rfl rfl (Nat.le_of_ble_eq_true rfl) (Mem.start w) ?_
  refine wpc_seq <| wpc_region ?_
  refine wpl_t (t_box rfl t.c rfl) rfl (fun b1 => ?_)
  refine wpl_t (t_alloc Tryz.ti37 [.int .i64 0] rfl) rfl (fun b2 => ?_)
  refine wpl_nil <| ex_then <| wpc_seq <| wpc_region ?_
  refine wpl_t (t_alloc Tryz.ti3 [.int .i64 0] rfl) rfl (fun b3 => ?_)
  refine wpl_t (t_alloc Tryz.ti4 [.bool false] rfl) rfl (fun b4 => ?_)
  refine wpl_t0 (t_st1 Tryz.ti3 rfl rfl rfl zz4 _ (by first | exact vns_set _ | rfl)) (fun _ => ?_)
  refine wpl_t0 (t_st1 Tryz.ti4 rfl rfl rfl zz4 _ zz52) (fun _ => ?_)
  refine wpl_nil <| ex_then <| wpc_seq <| wpc_seq <| wpc_region <| wpl_q (q_ldN Tryz.underlying60 rfl Tryz.ti60 rfl LenC.h) rfl ?_
  refine wpl_t (t_call (N := fun pp : Nat × Nat => [.blk pp.1 60 t.c, .blk pp.2 3 [.int .i64 ((1 : Nat) : Int)]]) (T := fun _ => []) Tryz.hb80 rfl fun w h => all_ t 1 w ht.sv) rfl (fun b8 => ?_)
  refine wpl_nil <| ex_then <| wpc_block ?_
  refine wpc_rangeT (encs := encO) (Inv := (fun w => HSeen w.cell? t)) (xs := (ord t 1)) (ρ := Unit) (β := Nat) [.blk b8.1 60 t.c, .blk b8.2 3 [.int .i64 ((1 : Nat) : Int)]] (fun s : Nat × Bool => [.blk b4 4 [.bool s.2], .blk b3 3 [.int .i64 ((s.1 : Nat) : Int)], .blk b2 37 [.int .i64 0], .blk b1 60 t.c]) gC (0, true) (fun _ => checkF t.tr = 4) (fun _ => [.blk b2 37 [.int .i64 4]]) (fun x _ b => [.blk b 60 x.1.c]) (fun x i b => [(1, .pointer (some ⟨b1, 0, none⟩)), (2, .pointer (some ⟨b2, 0, none⟩)), (3, .pointer (some ⟨b3, 0, none⟩)), (4, .pointer (some ⟨b4, 0, none⟩)), (5, .pointer (some ⟨b, 0, none⟩)), (6, .int .i64 ((x.2 : Nat) : Int))]) rfl Tryz.hb96 ⟨rfl, Nat.zero_le _, fun y hy => (by cases hy), rfl⟩ (fun w h k hk => by obtain ⟨e, he, hn⟩ := mem_nums.1 hk; exact (h.new e (List.mem_append_left _ he) k hn).resolve_right zz47) (fun wb w h hI => allIter t 1 b8.1 b8.2 w (h.own _ (List.mem_cons_self ..)) (h.own _ (List.mem_cons_of_mem _ (List.mem_cons_self ..))) (fun e => (List.pairwise_cons.1 h.apart).1 _ (List.mem_cons_self ..) _ rfl (by rw [← e]; rfl)) zz16 hI) (fun pre s w _ h => ht.old h) (fun _ _ => rfl) zz22 ?_ ?_ ?_ ?_
  ·
   intro l2 x i2 w1 K hxm hK
   have hxs := ord_seen ht hxm
   haveI := hxs.sv.one
   refine wic_seq ?_
   refine wic_region ?_
   refine wil_t (t_alloc Tryz.ti60 HT.z.c rfl) rfl (fun b5 => ?_)
   refine wil_t0 (t_stA Tryz.ti60 rfl rfl LenC.h OneC.h LenC.h) (fun _ => ?_)
   refine wil_nil ?_
   refine eix_then ?_
   refine wic_region ?_
   refine wil_q (q_pure rfl) rfl ?_
   refine wil_nil ?_
   exact fun a w hs h => hK b5 a w (hs.weaken (subs_get zz10)) h
  ·
   intro l2 pre x i2 s b w1 hgs hpre hm
   obtain ⟨n, ok⟩ := s
   have hseen := ord_seen ht (hpre.subset (List.mem_append_right _ (List.mem_singleton.2 rfl)))
   obtain ⟨⟨g2, v2, cs, u2, l2⟩, dd⟩ := x
   have sv2 := hseen.1.sv
   have su2 := hseen.2.1.sv
   have lb2 := sv2.le
   have ll2 := su2.le
   simp only [maxLen] at lb2 ll2
   have hn : n = pre.length := hgs.1
   have hn4 := hgs.2.1
   show WPCI _ _ _ _ (Mem w1 (nums (.blk b 60 [.int .u8 (g2.toNat : Int), v2, u2] :: [.blk b4 4 [.bool ok], .blk b3 3 [.int .i64 ((n : Nat) : Int)], .blk b2 37 [.int .i64 0], .blk b1 60 t.c])) (.blk b 60 [.int .u8 (g2.toNat : Int), v2, u2] :: [.blk b4 4 [.bool ok], .blk b3 3 [.int .i64 ((n : Nat) : Int)], .blk b2 37 [.int .i64 0], .blk b1 60 t.c]) []) _ _
   refine wic_block ?_
   refine wic_seq ?_
   refine wic_seq ?_
   refine wic_region ?_
   refine wil_q (q_ld Tryz.underlying3 rfl rfl zz27) rfl ?_
   refine wil_q (q_addN (b := 1) rfl rfl zz1) rfl ?_
   refine wil_t0 (t_st1 Tryz.ti3 rfl rfl rfl zz4 [.int .i64 ((n + 1 : Nat) : Int)] rfl) (fun _ => ?_)
   refine wil_nil ?_
   refine eix_then ?_
   refine wic_seq ?_
   refine wic_region ?_
   refine wil_q (q_ld Tryz.underlying3 rfl rfl zz27) rfl ?_
   refine wil_q (q_pure rfl) rfl ?_
   refine wil_q (q_pure rfl) rfl ?_
   refine wil_bool2 15 14 rfl rfl (fun hb15 => ?_) (fun hb15 => ?_)
   ·
    try simp only [decide_eq_true_eq] at hb15
    refine wil_off rfl rfl rfl rfl ?_
    refine wil_off rfl rfl rfl rfl ?_
    refine wil_q (q_pure rfl) rfl ?_
    refine wil_nil ?_
    refine eix_then ?_
    refine wic_cond_t rfl ?_
    refine wic_seq ?_
    refine wic_region ?_
    refine wil_t0 (t_st1 Tryz.ti37 rfl rfl rfl zz4 [.int .i64 4] rfl) (fun _ => ?_)
    refine wil_nil ?_
    refine eix_then ?_
    refine wic_ret ?_
    refine ex_then_ret ?_
    refine ex_block_ret ?_
    refine ex_roundR ?_
    exact fun w h => ⟨rfl, (), gC_stop hpre (by show _ ∨ 12 < dd; omega), h.sub SubC.h .nil⟩
   ·
    try simp only [decide_eq_false_iff_not] at hb15
    refine wil_on rfl rfl ?_
    refine wil_q (q_pure rfl) rfl ?_
    refine wil_on rfl rfl ?_
    refine wil_q (q_pure rfl) rfl ?_
    refine wil_q (q_pure rfl) rfl ?_
    refine wil_nil ?_
    refine eix_then ?_
    refine wic_cond rfl (fun hc18 => ?_) (fun hc18 => ?_)
    ·
     try simp only [decide_eq_true_eq] at hc18
     refine wic_seq ?_
     refine wic_region ?_
     refine wil_t0 (t_st1 Tryz.ti37 rfl rfl rfl zz4 [.int .i64 4] rfl) (fun _ => ?_)
     refine wil_nil ?_
     refine eix_then ?_
     refine wic_ret ?_
     refine ex_then_ret ?_
     refine ex_block_ret ?_
     refine ex_roundR ?_
     exact fun w h => ⟨rfl, (), gC_stop hpre (by show _ ∨ 12 < dd; omega), h.sub SubC.h .nil⟩
    ·
     simp only [decide_eq_false_iff_not] at hc18
     refine wic_skip ?_
     refine eix_then ?_
     refine wic_region ?_
     refine wil_q (q_ld Tryz.underlying4 rfl rfl (by first | exact vbs_get zz4 | rfl)) rfl ?_
     refine wil_q (q_pure rfl) rfl ?_
     refine wil_bool2 20 19 rfl rfl (fun hb20 => ?_) (fun hb20 => ?_)
     ·
      have q1 : ok = true := hb20
      refine wil_on rfl rfl ?_
      refine wil_q (q_field Tryz.underlying60 rfl Tryz.ti5 rfl rfl _ rfl) rfl ?_
      refine wil_on rfl rfl ?_
      refine wil_q (q_ld Tryz.underlying5 rfl rfl zz38) rfl ?_
      refine wil_on rfl rfl ?_
      refine wil_q (q_pure rfl) rfl ?_
      refine wil_q (q_pure rfl) rfl ?_
      refine wil_q (q_pure rfl) rfl ?_
      refine wil_bool2 25 23 rfl rfl (fun hb25 => ?_) (fun hb25 => ?_)
      ·
       try simp only [decide_eq_true_eq, decide_eq_false_iff_not, beq_iff_eq, beq_eq_false_iff_ne, ne_eq] at hb25
       have d0 : decide (g2.toNat ≠ 0) = true := decide_eq_true zz16
       refine wil_on rfl rfl ?_
       refine wil_q (q_field Tryz.underlying60 rfl Tryz.ti5 rfl rfl _ rfl) rfl ?_
       refine wil_on rfl rfl ?_
       refine wil_q (q_ld Tryz.underlying5 rfl rfl zz38) rfl ?_
       refine wil_on rfl rfl ?_
       refine wil_q (q_pure rfl) rfl ?_
       refine wil_on rfl rfl ?_
       refine wil_q (q_pure rfl) rfl ?_
       refine wil_bool2 29 28 rfl rfl (fun hb29 => ?_) (fun hb29 => ?_)
       ·
        try simp only [decide_eq_true_eq, decide_eq_false_iff_not, beq_iff_eq, beq_eq_false_iff_ne, ne_eq] at hb29
        have d1 : decide (128 ≤ g2.toNat) = true := decide_eq_true zz16
        refine wil_off rfl rfl rfl rfl ?_
        refine wil_off rfl rfl rfl rfl ?_
        refine wil_off rfl rfl rfl rfl ?_
        refine wil_off rfl rfl rfl rfl ?_
        refine wil_on rfl rfl ?_
        refine wil_q (q_pure rfl) rfl ?_
        refine wil_q (q_pure rfl) rfl ?_
        refine wil_q (q_pure rfl) rfl ?_
        refine wil_on rfl rfl ?_
        refine wil_q (q_field Tryz.underlying60 rfl Tryz.ti5 rfl rfl _ rfl) rfl ?_
        refine wil_on rfl rfl ?_
        refine wil_q (q_ld Tryz.underlying5 rfl rfl zz38) rfl ?_
        refine wil_on rfl rfl ?_
        refine wil_q (q_pure rfl) rfl ?_
        refine wil_on rfl rfl ?_
        refine wil_q (q_pure rfl) rfl ?_
        refine wil_bool2 40 39 rfl rfl (fun hb40 => ?_) (fun hb40 => ?_)
        ·
         try simp only [decide_eq_true_eq, decide_eq_false_iff_not, beq_iff_eq, beq_eq_false_iff_ne, ne_eq] at hb40
         have d3 : decide (g2.toNat < 128) = true := decide_eq_true zz16
         refine wil_off rfl rfl rfl rfl ?_
         refine wil_off rfl rfl rfl rfl ?_
         refine wil_off rfl rfl rfl rfl ?_
         refine wil_off rfl rfl rfl rfl ?_
         refine wil_on rfl rfl ?_
         refine wil_q (q_pure rfl) rfl ?_
         refine wil_q (q_pure rfl) rfl ?_
         refine wil_t0 (t_st1 Tryz.ti4 rfl rfl rfl zz4 _ zz52) (fun _ => ?_)
         refine wil_nil ?_
         refine ex_block ?_
         refine ex_roundN ?_
         have hq : true = (ok && okY (HT.nd g2 v2 cs u2 l2, dd)) := by
           have ec : (((cs.length : Nat) : Int) == 0) = decide (cs.length = 0) := by rw [Bool.eq_iff_iff]; simp only [beq_iff_eq, decide_eq_true_eq]; omega
           rw [show okY (HT.nd g2 v2 cs u2 l2, dd) = _ from okv g2 v2 cs u2 l2]
           simp only [ec, q1, d0, d1, d3, Bool.true_and, Bool.and_true, Bool.false_and, Bool.and_false, Bool.true_or, Bool.or_true, Bool.false_or, Bool.or_false]
         exact fun w h => ⟨(n + 1, true), zz39, (show Mem w1 (nums (.blk b 60 [.int .u8 (g2.toNat : Int), v2, u2] :: [.blk b4 4 [.bool ok], .blk b3 3 [.int .i64 ((n : Nat) : Int)], .blk b2 37 [.int .i64 0], .blk b1 60 t.c])) (.blk b 60 [.int .u8 (g2.toNat : Int), v2, u2] :: [.blk b4 4 [.bool true], .blk b3 3 [.int .i64 (((n + 1) : Nat) : Int)], .blk b2 37 [.int .i64 0], .blk b1 60 t.c]) [] w from h).sub SubC.h .nil⟩
        ·
         try simp only [decide_eq_true_eq, decide_eq_false_iff_not, beq_iff_eq, beq_eq_false_iff_ne, ne_eq] at hb40
         have d3 : decide (g2.toNat < 128) = false := decide_eq_false zz16
         refine wil_on rfl rfl ?_
         refine wil_q (q_field Tryz.underlying60 rfl Tryz.ti49 rfl rfl _ rfl) rfl ?_
         refine wil_on rfl rfl ?_
         refine wil_q (q_ld Tryz.underlying49 rfl rfl rfl) rfl ?_
         refine wil_on rfl rfl ?_
         refine wil_q (q_lenW Tryz.underlying49 rfl zz5) rfl ?_
         refine wil_on rfl rfl ?_
         refine wil_q (q_pure rfl) rfl ?_
         refine wil_on rfl rfl ?_
         refine wil_q (q_pure rfl) rfl ?_
         refine wil_q (q_pure rfl) rfl ?_
         refine wil_t0 (t_st1 Tryz.ti4 rfl rfl rfl zz4 _ zz52) (fun _ => ?_)
         refine wil_nil ?_
         refine ex_block ?_
         refine ex_roundN ?_
         have hq : (((cs.length : Nat) : Int) == 0) = (ok && okY (HT.nd g2 v2 cs u2 l2, dd)) := by
           have ec : (((cs.length : Nat) : Int) == 0) = decide (cs.length = 0) := by rw [Bool.eq_iff_iff]; simp only [beq_iff_eq, decide_eq_true_eq]; omega
           rw [show okY (HT.nd g2 v2 cs u2 l2, dd) = _ from okv g2 v2 cs u2 l2]
           simp only [ec, q1, d0, d1, d3, Bool.true_and, Bool.and_true, Bool.false_and, Bool.and_false, Bool.true_or, Bool.or_true, Bool.false_or, Bool.or_false]
         exact fun w h => ⟨(n + 1, (((cs.length : Nat) : Int) == 0)), zz39, (show Mem w1 (nums (.blk b 60 [.int .u8 (g2.toNat : Int), v2, u2] :: [.blk b4 4 [.bool ok], .blk b3 3 [.int .i64 ((n : Nat) : Int)], .blk b2 37 [.int .i64 0], .blk b1 60 t.c])) (.blk b 60 [.int .u8 (g2.toNat : Int), v2, u2] :: [.blk b4 4 [.bool (((cs.length : Nat) : Int) == 0)], .blk b3 3 [.int .i64 (((n + 1) : Nat) : Int)], .blk b2 37 [.int .i64 0], .blk b1 60 t.c]) [] w from h).sub SubC.h .nil⟩
       ·
        try simp only [decide_eq_true_eq, decide_eq_false_iff_not, beq_iff_eq, beq_eq_false_iff_ne, ne_eq] at hb29
        have d1 : decide (128 ≤ g2.toNat) = false := decide_eq_false zz16
        refine wil_on rfl rfl ?_
        refine wil_q (q_field Tryz.underlying60 rfl Tryz.ti58 rfl rfl _ rfl) rfl ?_
        refine wil_on rfl rfl ?_
        refine wil_q (q_ld Tryz.underlying58 rfl rfl rfl) rfl ?_
        refine wil_on rfl rfl ?_
        refine wil_q (q_lenW Tryz.underlying58 rfl zz5) rfl ?_
        refine wil_on rfl rfl ?_
        refine wil_q (q_pure rfl) rfl ?_
        refine wil_on rfl rfl ?_
        refine wil_q (q_pure rfl) rfl ?_
        refine wil_q (q_pure rfl) rfl ?_
        refine wil_q (q_pure rfl) rfl ?_
        refine wil_bool2 36 33 rfl rfl (fun hb36 => ?_) (fun hb36 => ?_)
        ·
         try simp only [decide_eq_true_eq, decide_eq_false_iff_not, beq_iff_eq, beq_eq_false_iff_ne, ne_eq] at hb36
         have d2 : decide (l2.length = 0) = true := decide_eq_true zz16
         refine wil_on rfl rfl ?_
         refine wil_q (q_field Tryz.underlying60 rfl Tryz.ti5 rfl rfl _ rfl) rfl ?_
         refine wil_on rfl rfl ?_
         refine wil_q (q_ld Tryz.underlying5 rfl rfl zz38) rfl ?_
         refine wil_on rfl rfl ?_
         refine wil_q (q_pure rfl) rfl ?_
         refine wil_on rfl rfl ?_
         refine wil_q (q_pure rfl) rfl ?_
         refine wil_bool2 40 39 rfl rfl (fun hb40 => ?_) (fun hb40 => ?_)
         ·
          try simp only [decide_eq_true_eq, decide_eq_false_iff_not, beq_iff_eq, beq_eq_false_iff_ne, ne_eq] at hb40
          have d3 : decide (g2.toNat < 128) = true := decide_eq_true zz16
          refine wil_off rfl rfl rfl rfl ?_
          refine wil_off rfl rfl rfl rfl ?_
          refine wil_off rfl rfl rfl rfl ?_
          refine wil_off rfl rfl rfl rfl ?_
          refine wil_on rfl rfl ?_
          refine wil_q (q_pure rfl) rfl ?_
          refine wil_q (q_pure rfl) rfl ?_
          refine wil_t0 (t_st1 Tryz.ti4 rfl rfl rfl zz4 _ zz52) (fun _ => ?_)
          refine wil_nil ?_
          refine ex_block ?_
          refine ex_roundN ?_
          have hq : true = (ok && okY (HT.nd g2 v2 cs u2 l2, dd)) := by
            have ec : (((cs.length : Nat) : Int) == 0) = decide (cs.length = 0) := by rw [Bool.eq_iff_iff]; simp only [beq_iff_eq, decide_eq_true_eq]; omega
            rw [show okY (HT.nd g2 v2 cs u2 l2, dd) = _ from okv g2 v2 cs u2 l2]
            simp only [ec, q1, d0, d1, d2, d3, Bool.true_and, Bool.and_true, Bool.false_and, Bool.and_false, Bool.true_or, Bool.or_true, Bool.false_or, Bool.or_false]
          exact fun w h => ⟨(n + 1, true), zz39, (show Mem w1 (nums (.blk b 60 [.int .u8 (g2.toNat : Int), v2, u2] :: [.blk b4 4 [.bool ok], .blk b3 3 [.int .i64 ((n : Nat) : Int)], .blk b2 37 [.int .i64 0], .blk b1 60 t.c])) (.blk b 60 [.int .u8 (g2.toNat : Int), v2, u2] :: [.blk b4 4 [.bool true], .blk b3 3 [.int .i64 (((n + 1) : Nat) : Int)], .blk b2 37 [.int .i64 0], .blk b1 60 t.c]) [] w from h).sub SubC.h .nil⟩
         ·
          try simp only [decide_eq_true_eq, decide_eq_false_iff_not, beq_iff_eq, beq_eq_false_iff_ne, ne_eq] at hb40
          have d3 : decide (g2.toNat < 128) = false := decide_eq_false zz16
          refine wil_on rfl rfl ?_
          refine wil_q (q_field Tryz.underlying60 rfl Tryz.ti49 rfl rfl _ rfl) rfl ?_
          refine wil_on rfl rfl ?_
          refine wil_q (q_ld Tryz.underlying49 rfl rfl rfl) rfl ?_
          refine wil_on rfl rfl ?_
          refine wil_q (q_lenW Tryz.underlying49 rfl zz5) rfl ?_
          refine wil_on rfl rfl ?_
          refine wil_q (q_pure rfl) rfl ?_
          refine wil_on rfl rfl ?_
          refine wil_q (q_pure rfl) rfl ?_
          refine wil_q (q_pure rfl) rfl ?_
          refine wil_t0 (t_st1 Tryz.ti4 rfl rfl rfl zz4 _ zz52) (fun _ => ?_)
          refine wil_nil ?_
          refine ex_block ?_
          refine ex_roundN ?_
          have hq : (((cs.length : Nat) : Int) == 0) = (ok && okY (HT.nd g2 v2 cs u2 l2, dd)) := by
            have ec : (((cs.length : Nat) : Int) == 0) = decide (cs.length = 0) := by rw [Bool.eq_iff_iff]; simp only [beq_iff_eq, decide_eq_true_eq]; omega
            rw [show okY (HT.nd g2 v2 cs u2 l2, dd) = _ from okv g2 v2 cs u2 l2]
            simp only [ec, q1, d0, d1, d2, d3, Bool.true_and, Bool.and_true, Bool.false_and, Bool.and_false, Bool.true_or, Bool.or_true, Bool.false_or, Bool.or_false]
          exact fun w h => ⟨(n + 1, (((cs.length : Nat) : Int) == 0)), zz39, (show Mem w1 (nums (.blk b 60 [.int .u8 (g2.toNat : Int), v2, u2] :: [.blk b4 4 [.bool ok], .blk b3 3 [.int .i64 ((n : Nat) : Int)], .blk b2 37 [.int .i64 0], .blk b1 60 t.c])) (.blk b 60 [.int .u8 (g2.toNat : Int), v2, u2] :: [.blk b4 4 [.bool (((cs.length : Nat) : Int) == 0)], .blk b3 3 [.int .i64 (((n + 1) : Nat) : Int)], .blk b2 37 [.int .i64 0], .blk b1 60 t.c]) [] w from h).sub SubC.h .nil⟩
        ·
         try simp only [decide_eq_true_eq, decide_eq_false_iff_not, beq_iff_eq, beq_eq_false_iff_ne, ne_eq] at hb36
         have d2 : decide (l2.length = 0) = false := decide_eq_false zz16
         refine wil_off rfl rfl rfl rfl ?_
         refine wil_off rfl rfl rfl rfl ?_
         refine wil_off rfl rfl rfl rfl ?_
         refine wil_off rfl rfl rfl rfl ?_
         refine wil_off rfl rfl rfl rfl ?_
         refine wil_off rfl rfl rfl rfl ?_
         refine wil_off rfl rfl rfl rfl ?_
         refine wil_off rfl rfl rfl rfl ?_
         refine wil_off rfl rfl rfl rfl ?_
         refine wil_q (q_pure rfl) rfl ?_
         refine wil_t0 (t_st1 Tryz.ti4 rfl rfl rfl zz4 _ zz52) (fun _ => ?_)
         refine wil_nil ?_
         refine ex_block ?_
         refine ex_roundN ?_
         have hq : false = (ok && okY (HT.nd g2 v2 cs u2 l2, dd)) := by
           have ec : (((cs.length : Nat) : Int) == 0) = decide (cs.length = 0) := by rw [Bool.eq_iff_iff]; simp only [beq_iff_eq, decide_eq_true_eq]; omega
           rw [show okY (HT.nd g2 v2 cs u2 l2, dd) = _ from okv g2 v2 cs u2 l2]
           simp only [ec, q1, d0, d1, d2, Bool.true_and, Bool.and_true, Bool.false_and, Bool.and_false, Bool.true_or, Bool.or_true, Bool.false_or, Bool.or_false]
         exact fun w h => ⟨(n + 1, false), zz39, (show Mem w1 (nums (.blk b 60 [.int .u8 (g2.toNat : Int), v2, u2] :: [.blk b4 4 [.bool ok], .blk b3 3 [.int .i64 ((n : Nat) : Int)], .blk b2 37 [.int .i64 0], .blk b1 60 t.c])) (.blk b 60 [.int .u8 (g2.toNat : Int), v2, u2] :: [.blk b4 4 [.bool false], .blk b3 3 [.int .i64 (((n + 1) : Nat) : Int)], .blk b2 37 [.int .i64 0], .blk b1 60 t.c]) [] w from h).sub SubC.h .nil⟩
      ·
       try simp only [decide_eq_true_eq, decide_eq_false_iff_not, beq_iff_eq, beq_eq_false_iff_ne, ne_eq] at hb25
       have d0 : decide (g2.toNat ≠ 0) = false := decide_eq_false zz16
       refine wil_off rfl rfl rfl rfl ?_
       refine wil_off rfl rfl rfl rfl ?_
       refine wil_off rfl rfl rfl rfl ?_
       refine wil_off rfl rfl rfl rfl ?_
       refine wil_off rfl rfl rfl rfl ?_
       refine wil_off rfl rfl rfl rfl ?_
       refine wil_off rfl rfl rfl rfl ?_
       refine wil_off rfl rfl rfl rfl ?_
       refine wil_off rfl rfl rfl rfl ?_
       refine wil_q (q_pure rfl) rfl ?_
       refine wil_q (q_pure rfl) rfl ?_
       refine wil_off rfl rfl rfl rfl ?_
       refine wil_off rfl rfl rfl rfl ?_
       refine wil_off rfl rfl rfl rfl ?_
       refine wil_off rfl rfl rfl rfl ?_
       refine wil_off rfl rfl rfl rfl ?_
       refine wil_off rfl rfl rfl rfl ?_
       refine wil_off rfl rfl rfl rfl ?_
       refine wil_off rfl rfl rfl rfl ?_
       refine wil_off rfl rfl rfl rfl ?_
       refine wil_q (q_pure rfl) rfl ?_
       refine wil_t0 (t_st1 Tryz.ti4 rfl rfl rfl zz4 _ zz52) (fun _ => ?_)
       refine wil_nil ?_
       refine ex_block ?_
       refine ex_roundN ?_
       have hq : false = (ok && okY (HT.nd g2 v2 cs u2 l2, dd)) := by
         have ec : (((cs.length : Nat) : Int) == 0) = decide (cs.length = 0) := by rw [Bool.eq_iff_iff]; simp only [beq_iff_eq, decide_eq_true_eq]; omega
         rw [show okY (HT.nd g2 v2 cs u2 l2, dd) = _ from okv g2 v2 cs u2 l2]
         simp only [ec, q1, d0, Bool.true_and, Bool.and_true, Bool.false_and, Bool.and_false, Bool.true_or, Bool.or_true, Bool.false_or, Bool.or_false]
       exact fun w h => ⟨(n + 1, false), zz39, (show Mem w1 (nums (.blk b 60 [.int .u8 (g2.toNat : Int), v2, u2] :: [.blk b4 4 [.bool ok], .blk b3 3 [.int .i64 ((n : Nat) : Int)], .blk b2 37 [.int .i64 0], .blk b1 60 t.c])) (.blk b 60 [.int .u8 (g2.toNat : Int), v2, u2] :: [.blk b4 4 [.bool false], .blk b3 3 [.int .i64 (((n + 1) : Nat) : Int)], .blk b2 37 [.int .i64 0], .blk b1 60 t.c]) [] w from h).sub SubC.h .nil⟩
     ·
      have q1 : ok = false := hb20
      refine wil_off rfl rfl rfl rfl ?_
      refine wil_off rfl rfl rfl rfl ?_
      refine wil_off rfl rfl rfl rfl ?_
      refine wil_q (q_pure rfl) rfl ?_
      refine wil_q (q_pure rfl) rfl ?_
      refine wil_off rfl rfl rfl rfl ?_
      refine wil_off rfl rfl rfl rfl ?_
      refine wil_off rfl rfl rfl rfl ?_
      refine wil_off rfl rfl rfl rfl ?_
      refine wil_off rfl rfl rfl rfl ?_
      refine wil_off rfl rfl rfl rfl ?_
      refine wil_off rfl rfl rfl rfl ?_
      refine wil_off rfl rfl rfl rfl ?_
      refine wil_off rfl rfl rfl rfl ?_
      refine wil_q (q_pure rfl) rfl ?_
      refine wil_q (q_pure rfl) rfl ?_
      refine wil_off rfl rfl rfl rfl ?_
      refine wil_off rfl rfl rfl rfl ?_
      refine wil_off rfl rfl rfl rfl ?_
      refine wil_off rfl rfl rfl rfl ?_
      refine wil_off rfl rfl rfl rfl ?_
      refine wil_off rfl rfl rfl rfl ?_
      refine wil_off rfl rfl rfl rfl ?_
      refine wil_off rfl rfl rfl rfl ?_
      refine wil_off rfl rfl rfl rfl ?_
      refine wil_q (q_pure rfl) rfl ?_
      refine wil_t0 (t_st1 Tryz.ti4 rfl rfl rfl zz4 _ zz52) (fun _ => ?_)
      refine wil_nil ?_
      refine ex_block ?_
      refine ex_roundN ?_
      have hq : false = (ok && okY (HT.nd g2 v2 cs u2 l2, dd)) := by
        have ec : (((cs.length : Nat) : Int) == 0) = decide (cs.length = 0) := by rw [Bool.eq_iff_iff]; simp only [beq_iff_eq, decide_eq_true_eq]; omega
        rw [show okY (HT.nd g2 v2 cs u2 l2, dd) = _ from okv g2 v2 cs u2 l2]
        simp only [ec, q1, Bool.true_and, Bool.and_true, Bool.false_and, Bool.and_false, Bool.true_or, Bool.or_true, Bool.false_or, Bool.or_false]
      exact fun w h => ⟨(n + 1, false), zz39, (show Mem w1 (nums (.blk b 60 [.int .u8 (g2.toNat : Int), v2, u2] :: [.blk b4 4 [.bool ok], .blk b3 3 [.int .i64 ((n : Nat) : Int)], .blk b2 37 [.int .i64 0], .blk b1 60 t.c])) (.blk b 60 [.int .u8 (g2.toNat : Int), v2, u2] :: [.blk b4 4 [.bool false], .blk b3 3 [.int .i64 (((n + 1) : Nat) : Int)], .blk b2 37 [.int .i64 0], .blk b1 60 t.c]) [] w from h).sub SubC.h .nil⟩
  ·
   intro D s hgs
   obtain ⟨n, ok⟩ := s
   obtain ⟨hdc, rfl⟩ := gC_done hgs
   refine ex_block <| ex_then <| wpc_seq <| wpc_seq <| wpc_region ?_
   refine wpl_q (q_ld Tryz.underlying4 rfl rfl (by first | exact vbs_get zz4 | rfl)) rfl ?_
   refine wpl_q (q_pure rfl) rfl <| wpl_nil <| ex_then ?_
   refine wpc_cond rfl (fun hc48 => ?_) (fun hc48 => ?_)
   ·
    have h8 : t.tr.shp = false := by simpa using hc48
    refine wpc_seq <| wpc_region ?_
    refine wpl_t0 (t_st1 Tryz.ti37 rfl rfl rfl zz4 [.int .i64 8] rfl) (fun _ => ?_)
    refine wpl_nil <| ex_then <| wpc_ret ?_
    refine ex_then_ret ?_
    refine ex_markN (.inl rfl) .here ?_
    refine retv1 (.inl rfl) rfl (rv_one Tryz.underlying37 rfl rfl (fun w h => h.cell_blk zz7 rfl)) ?_
    exact fun w h => ⟨zz34, h.below⟩
   ·
    have h8 : ¬ t.tr.shp = false := by rw [Bool.not_eq_false]; simpa using hc48
    refine wpc_skip <| ex_then <| wpc_seq <| wpc_seq <| wpc_region <| wpl_q (q_ldN Tryz.underlying60 rfl Tryz.ti60 rfl LenC.h) rfl ?_
    refine wpl_t (t_pur (v := .int .i64 ((t.tr.siz : Nat) : Int)) Tryz.hb81 rfl fun w h => size t w (ht.old h) hsm) rfl (fun b50 => ?_)
    refine wpl_q (q_pure rfl) rfl <| wpl_nil <| ex_then ?_
    refine wpc_cond rfl (fun hc51 => ?_) (fun hc51 => ?_)
    ·
     simp only [decide_eq_true_eq] at hc51
     refine wpc_seq <| wpc_region ?_
     refine wpl_t0 (t_st1 Tryz.ti37 rfl rfl rfl zz4 [.int .i64 4] rfl) (fun _ => ?_)
     refine wpl_nil <| ex_then <| wpc_ret ?_
     refine ex_then_ret ?_
     refine ex_markN (.inl rfl) .here ?_
     refine retv1 (.inl rfl) rfl (rv_one Tryz.underlying37 rfl rfl (fun w h => h.cell_blk zz7 rfl)) ?_
     exact fun w h => ⟨zz34, h.below⟩
    ·
     simp only [decide_eq_false_iff_not] at hc51
     refine wpc_skip <| ex_then <| wpc_seq <| wpc_region ?_
     refine wpl_t0 (t_st1 Tryz.ti37 rfl rfl rfl zz4 [.int .i64 0] rfl) (fun _ => ?_)
     refine wpl_nil <| ex_then <| wpc_ret ?_
     refine ex_markN (.inl rfl) .here ?_
     refine retv1 (.inl rfl) rfl (rv_one Tryz.underlying37 rfl rfl (fun w h => h.cell_blk zz7 rfl)) ?_
     exact fun w h => ⟨zz34, h.below⟩
  ·
   intro D r hr
   refine wpc_ret ?_
   refine ex_block_ret ?_
   refine ex_then_ret ?_
   refine ex_markN (.inl rfl) .here ?_
   refine retv1 (.inl rfl) rfl (rv_one Tryz.underlying37 rfl rfl (fun w h => h.cell_blk zz7 rfl)) ?_
   exact fun w h => ⟨zz34, h.below⟩
end Go.Proofs.YtgnablliekgbgaaGreatDoor
namespace Go.Proofs.YtgnablliekgbgaaGreatDoor
open Go Go.PL Go.RowKit
mutual
def enc : Tr → List UInt8
  | .nd g bs l => g :: (lenB (bs.length + sizL l) ++ (bs ++ encL l))
def encL : List Tr → List UInt8
  | [] => []
  | x :: l => enc x ++ encL l
end
theorem encL_app : ∀ (a b : List Tr), encL (a ++ b) = encL a ++ encL b
  | [], b => rfl
  | x :: a, b => by rw [List.cons_append, encL, encL, encL_app a b, List.append_assoc]
theorem encL_take {l : List HT} {i : Nat} (h : i < l.length) : encL (trs (l.take (i + 1))) = encL (trs (l.take i)) ++ enc (l.getD i HT.z).tr := by rw [trs_takeS h, encL_app, encL, encL, List.append_nil]
theorem Sm.kidT {g : UInt8} {bs : List UInt8} {l : List Tr} (h : Sm (.nd g bs l)) {x : Tr} (hx : x ∈ l) : Sm x := by
  have h : bs.length + bytL l + 5 * (1 + cntL l) ≤ 1000000 := h
  have key : ∀ m : List Tr, x ∈ m → x.byt ≤ bytL m ∧ x.cnt ≤ cntL m := by
    intro m
    induction m with
    | nil => intro h; cases h
    | cons y m ih =>
      intro hm
      rw [bytL, cntL]
      rcases List.mem_cons.1 hm with rfl | hm
      · omega
      · have := ih hm; omega
  have := key l hx
  unfold Sm; omega
theorem enc_len : ∀ t : Tr, Sm t → (enc t).length = t.siz := by
  intro t
  induction t using Tr.ind with
  | _ g bs l ih =>
    intro h
    have hc := content_le h
    have key : ∀ m : List Tr, (∀ x ∈ m, x ∈ l) → (encL m).length = sizL m := by
      intro m
      induction m with
      | nil => intro _; rfl
      | cons x m ihm =>
        intro hm
        rw [encL, List.length_append, ih x (hm x (List.mem_cons_self ..)) (h.kidT (hm x (List.mem_cons_self ..))), ihm fun y hy => hm y (List.mem_cons_of_mem _ hy), sizL]
    rw [enc, List.length_cons, List.length_append, List.length_append, key l (fun _ hx => hx), lenB_length zz16, Tr.siz]; omega
theorem refPut_step (t : HT) (w : World) (ht : HSeen w.cell? t) (hsm : Sm t.tr) (ih : ∀ x ∈ t.kids, ∀ (w : World), HSeen w.cell? x → Sm x.tr → Calls Tryz.prog 19 [.agg x.c.toArray].toArray w (GivesP w (fun v : Value => SV v (enc x.tr).length) (fun v => v) (fun v => [.row v (enc x.tr).length 5 1 (v8s (enc x.tr))]) (fun _ => []))) :
    Calls Tryz.prog 19 [.agg t.c.toArray].toArray w (GivesP w (fun v : Value => SV v (enc t.tr).length) (fun v => v) (fun v => [.row v (enc t.tr).length 5 1 (v8s (enc t.tr))]) (fun _ => [])) := by
  obtain ⟨tg, bv, bs, lv, l⟩ := t
  have hb := ht.1
  have hk := ht.2.1
  have svb := hb.sv
  have svl := hk.sv
  have lb := svb.le
  have ll := svl.le
  simp only [maxLen] at lb ll
  have hs0 := content_le hsm
  have hbl : bs.length ≤ 1000000 := by omega
  refine enter (m := 35) (R := Mem w [] [] []) Tryz.func19 rfl rfl (Nat.le_of_ble_eq_true rfl) (Mem.start w) ?_
  refine wpc_seq <| wpc_region ?_
  refine wpl_t (t_box rfl [.int .u8 (tg.toNat : Int), bv, lv] rfl) rfl (fun b1 => ?_)
  refine wpl_q (q_pure rfl) rfl <| wpl_nil <| ex_then <| wpc_seq <| wpc_region ?_
  refine wpl_tp (t_bs0W Tryz.underlying49 Tryz.ti5) rfl (fun b6 p6 => ?_)
  refine wpl_q (q_field Tryz.underlying60 rfl Tryz.ti49 rfl rfl _ rfl) rfl <| wpl_q (q_ld Tryz.underlying49 rfl rfl rfl) rfl ?_
  refine wpl_tp (t_ap0 Tryz.underlying49 Tryz.ti5 rfl zz22 rfl rfl (fun w h => h.seen_old hb) (v8s_one _) zz1 zz1) rfl (fun b9 p9 => ?_)
  refine wpl_q (q_pure rfl) rfl <| wpl_nil <| ex_then <| wpc_seq <| wpc_seq <| wpc_region <| wpl_q (q_pure rfl) rfl <| wpl_nil <| ex_then <| wpc_block ?_
  refine wpc_loopc (ι := { x : Nat × Value × List UInt8 // (x.1 ≤ l.length) ∧ (x.2.2.length = bs.length + sizL (trs (l.take x.1))) ∧ (x.2.2 = bs ++ encL (trs (l.take x.1))) ∧ (SV x.2.1 x.2.2.length) }) [(1, _)] (fun x Lc => (4, .int .i64 ((x.1.1 : Nat) : Int)) :: (3, x.1.2.1) :: Lc) (fun x => Mem w [] [.blk b1 60 [.int .u8 (tg.toNat : Int), bv, lv], .row x.1.2.1 x.1.2.2.length 5 1 (v8s x.1.2.2)] []) (fun x => l.length - x.1.1) ⟨(0, b9, bs), ⟨Nat.zero_le _, rfl, (List.append_nil _).symm, by simpa using p9⟩⟩ zz10 ?_ ?_
  ·
   exact fun w h => h.sel
  ·
   rintro ⟨⟨i, v, xs⟩, ⟨hi0, hi1, hi2, hi3⟩⟩; try dsimp only
   have hi0 : i ≤ l.length := hi0; have hi1 : xs.length = bs.length + sizL (trs (l.take i)) := hi1; have hi2 : xs = bs ++ encL (trs (l.take i)) := hi2; have hi3 : SV v xs.length := hi3
   refine wpc_seq <| wpc_seq <| wpc_region <| wpl_q (q_pure rfl) rfl <| wpl_q (q_field Tryz.underlying60 rfl Tryz.ti58 rfl rfl _ rfl) rfl <| wpl_q (q_ld Tryz.underlying58 rfl rfl rfl) rfl ?_
   refine wpl_q (q_lenW Tryz.underlying58 rfl zz5) rfl ?_
   refine wpl_q (q_pure rfl) rfl <| wpl_nil <| ex_then ?_
   refine wpc_cond rfl (fun hc14 => ?_) (fun hc14 => ?_)
   ·
    simp only [decide_eq_true_eq] at hc14
    have hil : i < l.length := by omega
    haveI := (ht.kid hil).sv.one
    have hs1 := sizL_take hil
    have hs2 := sizL_kid hil
    have hs3 := content_le hsm
    have hex := enc_len _ (hsm.kid hil)
    refine wpc_skip <| ex_then <| wpc_seq <| wpc_block <| wpc_region <| wpl_q (q_pure rfl) rfl <| wpl_q (q_field Tryz.underlying60 rfl Tryz.ti58 rfl rfl _ rfl) rfl <| wpl_q (q_ld Tryz.underlying58 rfl rfl rfl) rfl <| wpl_q (q_pure rfl) rfl ?_
    refine wpl_q (q_idxW Tryz.underlying58 Tryz.ti60 rfl rfl zz5 zz1) rfl ?_
    refine wpl_q (q_ldWN Tryz.underlying60 rfl Tryz.ti60 rfl (fun w h => h.seen_old hk) (l.getD i HT.z).c (cat_part HT.c_length HT.z hil) (HT.c_length _)) rfl ?_
    refine wpl_tp (t_callP1 Tryz.hb19 rfl fun w h => ih (l.getD i HT.z) (getD_memH hil) w ((ht.kid hil).old h) (hsm.kid hil)) rfl (fun b23 p23 => ?_)
    refine wpl_tp (t_apW Tryz.underlying49 Tryz.ti5 rfl zz22 rfl rfl (fun w h => zz12) OneC.h zz1 zz1 (v8s (xs ++ enc (l.getD i HT.z).tr)) (v8s_append _ _).symm) rfl (fun b24 p24 => ?_)
    refine wpl_q (q_pure rfl) rfl <| wpl_nil <| ex_block <| ex_then <| wpc_region <| wpl_q (q_pure rfl) rfl ?_
    refine wpl_q (q_addN (b := 1) rfl rfl zz1) rfl ?_
    refine wpl_q (q_pure rfl) rfl <| wpl_nil ?_
    refine ex_again ⟨(i + 1, b24, xs ++ enc (l.getD i HT.z).tr), ⟨zz16, by rw [List.length_append, hex, hi1, sizL_take hil]; omega, by rw [hi2, encL_take hil, List.append_assoc], by rw [List.length_append]; exact p24⟩⟩ ?_ ?_ ?_
    ·
     exact zz10
    ·
     exact fun w h => by
       dsimp only
       rw [List.length_append]
       exact h.sel
    ·
     (show l.length - (i + 1) < l.length - i); omega
   ·
    simp only [decide_eq_false_iff_not] at hc14
    obtain rfl : i = l.length := by omega
    rw [List.take_length] at hi1 hi2
    have hs3 := content_le hsm
    have hlb := lenB_length (n := xs.length) zz16
    have hwl := wideF_le xs.length zz16
    have hn : (enc (HT.nd tg bv bs lv l).tr) = tg :: (lenB xs.length ++ xs) := by rw [hi1, hi2]; rfl
    refine wpc_exit ?_
    refine ex_then_exit ?_
    refine ex_then_exit ?_
    refine ex_block_hit ?_
    refine ex_then <| wpc_seq ?_
    refine wpc_draw 6 zz8 (fun _ h => h.drew) ?_
    refine wpd_p 0 rfl zz8 trivial (q_field Tryz.underlying60 rfl Tryz.ti5 rfl rfl _ rfl) rfl sk0 ?_
    refine wpd_qB 1 [2, 6] rfl zz8 trivial (q_ld Tryz.underlying5 rfl rfl zz38) rfl (fun _ h => h) ?_
    refine wpd_p 3 rfl zz8 trivial (q_pure rfl) rfl sk0 ?_
    refine wpd_p 4 rfl zz8 trivial (q_lenW Tryz.underlying49 rfl zz5) rfl sk0 ?_
    refine wpd_two 2 5 zz8 ?_ ?_
    ·
     refine wpa_tp 2 rfl trivial (t_bsV (v8s [_]) Tryz.underlying49 Tryz.ti5 rfl rfl zz22 zz22 rfl (v8s_one _)) rfl (fun _ => (fun w h => .inr (h.sub SubC.h SubC.h))) (fun b27 p27 => ?_)
     refine wpd_tp 5 rfl zz8 trivial (t_callP1 Tryz.hb41 rfl fun w h => refLength xs.length w zz16) rfl (fun _ => (fun w h => .inr (h.sub SubC.h SubC.h))) (fun b30 p30 => ?_)
     refine wpd_tp 6 rfl zz8 trivial (t_apW Tryz.underlying49 Tryz.ti5 rfl zz22 rfl rfl (fun w h => zz12) OneC.h zz1 zz1 (v8s ([tg] ++ lenB xs.length)) (v8s_append _ _).symm) rfl (fun _ => skk rfl) (fun b31 p31 => ?_)
     refine wpd_p 7 rfl zz8 trivial (q_pure rfl) rfl (skk rfl) ?_
     refine wpd_done zz8 ?_
     refine ex_then <| wpc_seq <| wpc_region <| wpl_q (q_pure rfl) rfl <| wpl_q (q_pure rfl) rfl ?_
     refine wpl_tp (t_apW Tryz.underlying49 Tryz.ti5 rfl zz22 rfl rfl (fun w h => zz12) OneC.h zz1 zz1 (v8s (([tg] ++ lenB xs.length) ++ xs)) (v8s_append _ _).symm) rfl (fun b34 p34 => ?_)
     refine wpl_q (q_pure rfl) rfl <| wpl_nil <| ex_then <| wpc_ret ?_
     refine ret1 (.inl rfl) rfl rfl ?_
     exact fun w1 h => by
       have hl : (enc (HT.nd tg bv bs lv l).tr).length = 1 + (lenB xs.length).length + xs.length := by rw [hn, List.length_cons, List.length_append]; omega
       have hn2 : ([tg] ++ lenB xs.length) ++ xs = enc (HT.nd tg bv bs lv l).tr := by rw [hn]; simp
       rw [hn2] at h
       exact ⟨b34, by rw [hl]; exact p34, rfl, h.below, by rw [hl]; exact h.made SubC.h .nil⟩
    ·
     refine wpa_tp 5 rfl trivial (t_callP1 Tryz.hb41 rfl fun w h => refLength xs.length w zz16) rfl (fun _ => (fun w h => .inr (h.sub SubC.h SubC.h))) (fun b30 p30 => ?_)
     refine wpd_tp 2 rfl zz8 trivial (t_bsV (v8s [_]) Tryz.underlying49 Tryz.ti5 rfl rfl zz22 zz22 rfl (v8s_one _)) rfl (fun _ => (fun w h => .inr (h.sub SubC.h SubC.h))) (fun b27 p27 => ?_)
     refine wpd_tp 6 rfl zz8 trivial (t_apW Tryz.underlying49 Tryz.ti5 rfl zz22 rfl rfl (fun w h => zz12) OneC.h zz1 zz1 (v8s ([tg] ++ lenB xs.length)) (v8s_append _ _).symm) rfl (fun _ => skk rfl) (fun b31 p31 => ?_)
     refine wpd_p 7 rfl zz8 trivial (q_pure rfl) rfl (skk rfl) ?_
     refine wpd_done zz8 ?_
     refine ex_then <| wpc_seq <| wpc_region <| wpl_q (q_pure rfl) rfl <| wpl_q (q_pure rfl) rfl ?_
     refine wpl_tp (t_apW Tryz.underlying49 Tryz.ti5 rfl zz22 rfl rfl (fun w h => zz12) OneC.h zz1 zz1 (v8s (([tg] ++ lenB xs.length) ++ xs)) (v8s_append _ _).symm) rfl (fun b34 p34 => ?_)
     refine wpl_q (q_pure rfl) rfl <| wpl_nil <| ex_then <| wpc_ret ?_
     refine ret1 (.inl rfl) rfl rfl ?_
     exact fun w1 h => by
       have hl : (enc (HT.nd tg bv bs lv l).tr).length = 1 + (lenB xs.length).length + xs.length := by rw [hn, List.length_cons, List.length_append]; omega
       have hn2 : ([tg] ++ lenB xs.length) ++ xs = enc (HT.nd tg bv bs lv l).tr := by rw [hn]; simp
       rw [hn2] at h
       exact ⟨b34, by rw [hl]; exact p34, rfl, h.below, by rw [hl]; exact h.made SubC.h .nil⟩
theorem refPut : ∀ (t : HT) (w : World), HSeen w.cell? t → Sm t.tr → Calls Tryz.prog 19 [.agg t.c.toArray].toArray w (GivesP w (fun v : Value => SV v (enc t.tr).length) (fun v => v) (fun v => [.row v (enc t.tr).length 5 1 (v8s (enc t.tr))]) (fun _ => [])) := by
  intro t
  induction t using HT.ind with
  | _ tg bv bs lv l ih => intro w h hs; exact refPut_step _ w h hs (fun x hx w hx' hs' => ih x hx w hx' hs')
def encF (t : Tr) : List UInt8 × Int := if checkF t = 0 then (enc t, 0) else ([], checkF t)
end Go.Proofs.YtgnablliekgbgaaGreatDoor
namespace Go.Proofs.YtgnablliekgbgaaGreatDoor
open Go Go.PL Go.RowKit
def rdO (Ln : List Nat) (w : World) : Rd := fun a => if a.block ∈ Ln then none else w.cell? a
theorem rdO_some {Ln : List Nat} {w : World} {a : Addr} {v : Value} (h : rdO Ln w a = some v) : a.block ∉ Ln ∧ w.cell? a = some v := by
  unfold rdO at h
  split at h
  · cases h
  · exact ⟨‹_›, h⟩
theorem rdo_old {w0 w : World} {Ln : List Nat} {M : List Ent} {S : List Fact} (h : Mem w0 Ln M S w) : ∀ a v, rdO Ln w0 a = some v → w.cell? a = some v := fun a v hv => by
  obtain ⟨h1, h2⟩ := rdO_some hv
  exact h.cell_oldL h2 h1
theorem rdo_nums {w0 w : World} {Ln : List Nat} {M : List Ent} {S : List Fact} (h : Mem w0 Ln M S w) {e : Ent} (he : e ∈ M) : ∀ a v, rdO Ln w0 a = some v → rdO (nums [e]) w a = some v := fun a v hv => by
  obtain ⟨h1, h2⟩ := rdO_some hv
  have h3 := h.cell_oldL h2 h1
  have hlt := World.block_lt_of_cell? w0 a h2
  unfold rdO
  rw [if_neg]
  · exact h3
  · intro hm
    obtain ⟨f, hf, hn⟩ := mem_nums.1 hm
    rw [List.mem_singleton] at hf
    subst hf
    rcases h.new f he _ hn with h4 | h4
    · omega
    · exact h1 h4
theorem lenB_num {n : Nat} (h : n < 16777216) : lenB n = if n < 128 then [of8 (n : Int)] else of8 ((128 + kB n : Nat) : Int) :: numK (kB n) n := by
  have hw := wideF_eq h
  unfold lenB
  by_cases h1 : n < 128
  · rw [if_pos h1, if_pos h1]
  · have hk : kB n = wideF n - 1 := by unfold wideF kB; rw [if_neg h1]; omega
    rw [if_neg h1] at hw
    rw [if_neg h1, if_neg h1, hk, hw]
    split
    · show _ = _ :: (numK 0 _ ++ [_])
      rw [of8_mod]; rfl
    · split
      · show _ = _ :: ((numK 0 _ ++ [_]) ++ [_])
        rw [of8_mod (n / 256)]; rfl
      · show _ = _ :: (((numK 0 _ ++ [_]) ++ [_]) ++ [_])
        rw [of8_mod (n / 256 / 256), show n / 256 / 256 = n / 65536 from zz16]; rfl
theorem wide_k {n : Nat} (h : ¬ n < 128) : wideF n - 1 = kB n := by unfold wideF kB; rw [if_neg h]; omega
theorem wide_1 {n : Nat} (h : n < 128) : wideF n - 1 = 0 := by unfold wideF; rw [if_pos h]
theorem wide_ge {n : Nat} (h : ¬ n < 128) : 1 ≤ kB n := by
  unfold kB
  have : ¬ lenF n ≤ 0 := fun hh => by have := lenF_lt hh; omega
  omega
end Go.Proofs.YtgnablliekgbgaaGreatDoor
namespace Go.Proofs.YtgnablliekgbgaaGreatDoor
open Go Go.PL Go.RowKit
theorem put_step (v : Value) (xs : List UInt8) (t : HT) (w : World) (hrow : (Ent.row v xs.length 5 1 (v8s xs)).at w) (sv : SV v xs.length) (ht : HSeen (rdO (nums [.row v xs.length 5 1 (v8s xs)]) w) t) (hsm : Sm t.tr) (hxl : xs.length + t.tr.siz ≤ 3000000) (ih : ∀ x ∈ t.kids, ∀ (v : Value) (xs : List UInt8) (w : World), (Ent.row v xs.length 5 1 (v8s xs)).at w → SV v xs.length → HSeen (rdO (nums [.row v xs.length 5 1 (v8s xs)]) w) x → Sm x.tr → xs.length + x.tr.siz ≤ 3000000 → Calls Tryz.prog 52 [v, .agg x.c.toArray].toArray w (GivesR w (.row v xs.length 5 1 (v8s xs)) (xs.length + x.tr.siz) 5 1 (v8s (xs ++ enc x.tr)))) :
    Calls Tryz.prog 52 [v, .agg t.c.toArray].toArray w (GivesR w (.row v xs.length 5 1 (v8s xs)) (xs.length + t.tr.siz) 5 1 (v8s (xs ++ enc t.tr))) := by
  obtain ⟨tg, bv, bs, lv, l⟩ := t
  have hb := ht.1
  have hk := ht.2.1
  have svb := hb.sv
  have svl := hk.sv
  have lb := svb.le
  have ll := svl.le
  simp only [maxLen] at lb ll
  have hs3 := content_le hsm
  have hxl : xs.length + (1 + wideF (bs.length + sizL (trs l)) + (bs.length + sizL (trs l))) ≤ 3000000 := hxl
  refine enter (m := 78) (R := Mem w (nums [(.row v xs.length 5 1 (v8s xs))]) [(.row v xs.length 5 1 (v8s xs))] []) Tryz.func52 rfl rfl (Nat.le_of_ble_eq_true rfl) (Mem.startR w hrow) ?_
  refine wpc_seq <| wpc_region ?_
  refine wpl_t (t_box rfl [.int .u8 (tg.toNat : Int), bv, lv] rfl) rfl (fun b3 => ?_)
  refine wpl_q (q_pure rfl) rfl <| wpl_nil <| ex_then <| wpc_seq <| wpc_region <| wpl_q (q_field Tryz.underlying60 rfl Tryz.ti49 rfl rfl _ rfl) rfl <| wpl_q (q_ld Tryz.underlying49 rfl rfl rfl) rfl ?_
  refine wpl_q (q_lenW Tryz.underlying49 rfl zz5) rfl ?_
  refine wpl_q (q_pure rfl) rfl <| wpl_nil <| ex_then <| wpc_seq <| wpc_seq <| wpc_region <| wpl_q (q_field Tryz.underlying60 rfl Tryz.ti58 rfl rfl _ rfl) rfl <| wpl_q (q_ld Tryz.underlying58 rfl rfl rfl) rfl ?_
  refine wpl_q (q_lenW Tryz.underlying58 rfl zz5) rfl ?_
  refine wpl_q (q_pure rfl) rfl <| wpl_nil <| ex_then <| wpc_block ?_
  refine wpc_loopc (ι := { x : Nat // (x ≤ l.length) }) [(0, _), (3, _), (16, _), (17, _)] (fun x Lc => (18, .int .i64 ((x.1 : Nat) : Int)) :: (5, .int .i64 ((bs.length + sizL (trs (l.take x.1)) : Nat) : Int)) :: Lc) (fun x => Mem w (nums [.row v xs.length 5 1 (v8s xs)]) [.blk b3 60 [.int .u8 (tg.toNat : Int), bv, lv], (.row v xs.length 5 1 (v8s xs))] []) (fun x => l.length - x.1) ⟨0, (Nat.zero_le _)⟩ zz10 ?_ ?_
  ·
   exact fun w h => h.sub SubC.h .nil
  ·
   rintro ⟨i, hi0⟩; try dsimp only
   have hi0 : i ≤ l.length := hi0
   refine wpc_seq <| wpc_region <| wpl_q (q_pure rfl) rfl <| wpl_nil <| ex_then <| wpc_seq ?_
   refine wpc_cond rfl (fun hc19 => ?_) (fun hc19 => ?_)
   ·
    simp only [decide_eq_true_eq] at hc19
    have hil : i < l.length := by omega
    haveI := (ht.kid hil).sv.one
    have hs1 := sizL_take hil
    have hs2 := sizL_kid hil
    refine wpc_skip <| ex_then <| wpc_seq <| wpc_block <| wpc_seq <| wpc_region ?_
    refine wpl_q (q_idxW Tryz.underlying58 Tryz.ti60 rfl rfl zz5 zz1) rfl ?_
    refine wpl_q (q_ldWN Tryz.underlying60 rfl Tryz.ti60 rfl (fun w h => hk.mono (rdo_old h)) (l.getD i HT.z).c (cat_part HT.c_length HT.z hil) (HT.c_length _)) rfl ?_
    refine wpl_t (t_alloc Tryz.ti60 HT.z.c rfl) rfl (fun b7 => ?_)
    refine wpl_t0 (t_stA Tryz.ti60 rfl rfl LenC.h OneC.h LenC.h) (fun _ => ?_)
    refine wpl_nil <| ex_then <| wpc_region <| wpl_q (q_pure rfl) rfl <| wpl_q (q_ldN Tryz.underlying60 rfl Tryz.ti60 rfl LenC.h) rfl ?_
    refine wpl_t (t_pur (v := .int .i64 (((l.getD i HT.z).tr.siz : Nat) : Int)) Tryz.hb81 rfl fun w h => size (l.getD i HT.z) w ((ht.kid hil).mono (rdo_old h)) (hsm.kid hil)) rfl (fun b24 => ?_)
    refine wpl_q (q_addN rfl rfl zz1) rfl ?_
    refine wpl_re 25 rfl (congrArg (fun n : Nat => Value.int .i64 (n : Int)) (show bs.length + sizL (trs (l.take i)) + (l.getD i HT.z).tr.siz = bs.length + sizL (trs (l.take (i + 1))) from zz16)) ?_
    refine wpl_q (q_pure rfl) rfl <| wpl_nil <| ex_block <| ex_then <| wpc_region ?_
    refine wpl_q (q_addN (b := 1) rfl rfl zz1) rfl ?_
    refine wpl_q (q_pure rfl) rfl <| wpl_nil ?_
    refine ex_again ⟨i + 1, zz16⟩ ?_ ?_ ?_
    ·
     exact zz10
    ·
     exact fun w h => h.sub SubC.h .nil
    ·
     (show l.length - (i + 1) < l.length - i); omega
   ·
    simp only [decide_eq_false_iff_not] at hc19
    obtain rfl : i = l.length := by omega
    rw [List.take_length]
    have hw := wideF_le (bs.length + sizL (trs l)) zz16
    refine wpc_exit ?_
    refine ex_then_exit ?_
    refine ex_then_exit ?_
    refine ex_block_hit ?_
    refine ex_then <| wpc_seq <| wpc_region <| wpl_q (q_pure rfl) rfl <| wpl_q (q_field Tryz.underlying60 rfl Tryz.ti5 rfl rfl _ rfl) rfl ?_
    refine wpl_q (q_ld Tryz.underlying5 rfl rfl zz38) rfl ?_
    refine wpl_tp (t_bsV (v8s [_]) Tryz.underlying49 Tryz.ti5 rfl rfl zz22 zz22 rfl (v8s_one _)) rfl (fun b30 p30 => ?_)
    refine wpl_tp (t_apW Tryz.underlying49 Tryz.ti5 rfl zz22 rfl rfl (fun w h => zz12) OneC.h zz1 zz1 (v8s (xs ++ [tg])) (v8s_append _ _).symm) rfl (fun b31 p31 => ?_)
    refine wpl_q (q_pure rfl) rfl <| wpl_nil <| ex_then ?_
    refine wpc_cutc ({ x : Value × List UInt8 // (x.2 = xs ++ (tg :: lenB (bs.length + sizL (trs l)))) ∧ (x.2.length = xs.length + 1 + wideF (bs.length + sizL (trs l))) ∧ (SV x.1 x.2.length) }) [(3, .pointer (some ⟨b3, 0, none⟩))] (fun x Lc => (0, x.1.1) :: Lc) (fun x => Mem w (nums [.row v xs.length 5 1 (v8s xs)]) [.blk b3 60 [.int .u8 (tg.toNat : Int), bv, lv], .row x.1.1 (x.1.2.length) 5 1 (v8s (x.1.2))] []) ?_ ?_
    ·
     refine wpc_seq <| wpc_region <| wpl_q (q_pure rfl) rfl ?_
     refine wpl_t (t_pur (v := .int .i64 ((wideF (bs.length + sizL (trs l)) : Nat) : Int)) Tryz.hb82 rfl fun w h => wide (bs.length + sizL (trs l)) w zz16) rfl (fun b33 => ?_)
     have hwp : 1 ≤ wideF (bs.length + sizL (trs l)) := by unfold wideF; split <;> omega
     refine wpl_q (q_subN (b := 1) rfl rfl zz16 zz1) rfl ?_
     refine wpl_q (q_pure rfl) rfl <| wpl_nil <| ex_then <| wpc_seq <| wpc_region <| wpl_q (q_pure rfl) rfl <| wpl_q (q_pure rfl) rfl <| wpl_nil <| ex_then ?_
     refine wpc_cond rfl (fun hc36 => ?_) (fun hc36 => ?_)
     ·
      try simp only [beq_iff_eq] at hc36
      try simp only [decide_eq_true_eq] at hc36
      have hn : (bs.length + sizL (trs l)) < 128 := by
        rcases Nat.lt_or_ge (bs.length + sizL (trs l)) 128 with h | h
        · exact h
        · have h1 := wide_k (n := (bs.length + sizL (trs l))) zz16
          have h2 := wide_ge (n := (bs.length + sizL (trs l))) zz16
          omega
      have hlb : lenB (bs.length + sizL (trs l)) = [of8 (((bs.length + sizL (trs l)) : Nat) : Int)] := by rw [lenB_num zz16, if_pos hn]
      have hy1 : ((xs ++ [tg]) ++ [of8 (((bs.length + sizL (trs l)) : Nat) : Int)]).length = xs.length + 1 + 1 := by simp
      refine wpc_region <| wpl_q (q_pure rfl) rfl <| wpl_q (q_pure rfl) rfl <| wpl_q (q8_conv Tryz.underlying3 Tryz.underlying5 rfl) rfl ?_
      refine wpl_tp (t_bsV (v8s [_]) Tryz.underlying49 Tryz.ti5 rfl rfl zz22 zz22 rfl (v8s_one _)) rfl (fun b40 p40 => ?_)
      refine wpl_tp (t_apW Tryz.underlying49 Tryz.ti5 rfl zz22 rfl rfl (fun w h => zz12) OneC.h zz1 zz1 (v8s ((xs ++ [tg]) ++ [of8 (((bs.length + sizL (trs l)) : Nat) : Int)])) (v8s_append _ _).symm) rfl (fun b41 p41 => ?_)
      refine wpl_q (q_pure rfl) rfl <| wpl_nil ?_
      refine ex_mid ⟨(b41, (xs ++ [tg]) ++ [of8 (((bs.length + sizL (trs l)) : Nat) : Int)]), ⟨by rw [hlb]; simp, by rw [hy1]; omega, by rw [hy1]; exact p41⟩⟩ ?_ ?_
      ·
       exact zz10
      ·
       exact fun w h => by
         dsimp only
         rw [hy1]
         exact h.sel
     ·
      try simp only [beq_eq_false_iff_ne, ne_eq] at hc36
      try simp only [decide_eq_false_iff_not] at hc36
      have hn : ¬ (bs.length + sizL (trs l)) < 128 := fun h => hc36 (by have := wide_1 h; omega)
      have hk : wideF (bs.length + sizL (trs l)) - 1 = kB (bs.length + sizL (trs l)) := wide_k hn
      have hkg := wide_ge hn
      have hlb : lenB (bs.length + sizL (trs l)) = of8 ((128 + kB (bs.length + sizL (trs l)) : Nat) : Int) :: numK (kB (bs.length + sizL (trs l))) (bs.length + sizL (trs l)) := by rw [lenB_num zz16, if_neg hn]
      have hy2 : ((xs ++ [tg] ++ [of8 ((128 + kB (bs.length + sizL (trs l)) : Nat) : Int)]) ++ numK (kB (bs.length + sizL (trs l))) (bs.length + sizL (trs l))).length = xs.length + 1 + 1 + (kB (bs.length + sizL (trs l)) - 0) := by rw [List.length_append, numK_len]; simp
      have e0 : numK (kB (bs.length + sizL (trs l)) - 0) ((bs.length + sizL (trs l)) / 2 ^ (8 * 0)) = numK (kB (bs.length + sizL (trs l))) (bs.length + sizL (trs l)) := by rw [Nat.sub_zero, Nat.mul_zero, Nat.pow_zero, Nat.div_one]
      refine wpc_seq <| wpc_region <| wpl_q (q_pure rfl) rfl <| wpl_q (q_pure rfl) rfl ?_
      refine wpl_q (q_addN (a := 128) rfl rfl zz1) rfl ?_
      refine wpl_re 44 rfl (congrArg (fun n : Nat => Value.int .i64 (n : Int)) (show 128 + (wideF (bs.length + sizL (trs l)) - 1) = 128 + kB (bs.length + sizL (trs l)) from zz16)) ?_
      refine wpl_q (q8_conv Tryz.underlying3 Tryz.underlying5 rfl) rfl ?_
      refine wpl_tp (t_bsV (v8s [_]) Tryz.underlying49 Tryz.ti5 rfl rfl zz22 zz22 rfl (v8s_one _)) rfl (fun b46 p46 => ?_)
      refine wpl_tp (t_apW Tryz.underlying49 Tryz.ti5 rfl zz22 rfl rfl (fun w h => zz12) OneC.h zz1 zz1 (v8s (xs ++ [tg] ++ [of8 ((128 + kB (bs.length + sizL (trs l)) : Nat) : Int)])) (v8s_append _ _).symm) rfl (fun b47 p47 => ?_)
      refine wpl_q (q_pure rfl) rfl <| wpl_nil <| ex_then <| wpc_seq <| wpc_region <| wpl_q (q_pure rfl) rfl ?_
      refine wpl_q (q_subN (b := 1) rfl rfl zz16 zz1) rfl ?_
      refine wpl_re 49 rfl (congrArg (Value.int .i64) (show ((wideF (bs.length + sizL (trs l)) - 1 - 1 : Nat) : Int) = ((kB (bs.length + sizL (trs l)) : Nat) : Int) - 1 from zz16)) ?_
      refine wpl_q (q_pure rfl) rfl <| wpl_nil <| ex_then <| wpc_block ?_
      refine wpc_loopc (ι := { x : Nat × Value // (x.1 ≤ kB (bs.length + sizL (trs l))) ∧ (SV x.2 (xs.length + 1 + 1 + (kB (bs.length + sizL (trs l)) - x.1))) }) [(3, _), (5, _)] (fun x Lc => (9, .int .i64 (((x.1.1 : Nat) : Int) - 1)) :: (0, x.1.2) :: Lc) (fun x => Mem w (nums [.row v xs.length 5 1 (v8s xs)]) [.blk b3 60 [.int .u8 (tg.toNat : Int), bv, lv], .row x.1.2 (xs.length + 1 + 1 + (kB (bs.length + sizL (trs l)) - x.1.1)) 5 1 (v8s (((xs ++ [tg] ++ [of8 ((128 + kB (bs.length + sizL (trs l)) : Nat) : Int)]) ++ numK (kB (bs.length + sizL (trs l)) - x.1.1) ((bs.length + sizL (trs l)) / 2 ^ (8 * x.1.1)))))] []) (fun x => x.1.1) ⟨(kB (bs.length + sizL (trs l)), b47), ⟨Nat.le_refl _, by rw [Nat.sub_self]; exact p47⟩⟩ zz10 ?_ ?_
      ·
       exact fun w h => by
         dsimp only
         rw [numK_all, Nat.sub_self, List.append_nil]
         exact h.sel
      ·
       rintro ⟨⟨s, v3⟩, ⟨hi0, hi1⟩⟩; try dsimp only
       have hi0 : s ≤ kB (bs.length + sizL (trs l)) := hi0; have hi1 : SV v3 (xs.length + 1 + 1 + (kB (bs.length + sizL (trs l)) - s)) := hi1
       refine wpc_seq <| wpc_seq <| wpc_region <| wpl_q (q_pure rfl) rfl <| wpl_q (q_pure rfl) rfl <| wpl_nil <| ex_then ?_
       refine wpc_cond rfl (fun hc51 => ?_) (fun hc51 => ?_)
       ·
        simp only [decide_eq_true_eq] at hc51
        obtain ⟨m, rfl⟩ : ∃ m, s = m + 1 := ⟨s - 1, zz16⟩
        refine wpc_re 9 rfl (congrArg (Value.int .i64) (show (((m + 1 : Nat) : Int) - 1) = ((m : Nat) : Int) from zz16)) ?_
        refine wpc_skip <| ex_then <| wpc_seq <| wpc_block <| wpc_region <| wpl_q (q_pure rfl) rfl <| wpl_q (q_pure rfl) rfl <| wpl_q (q_pure rfl) rfl ?_
        refine wpl_q (q_mulN (a := 8) rfl rfl zz1) rfl ?_
        refine wpl_q (q_shrN rfl rfl zz26) rfl ?_
        refine wpl_q (q8_conv Tryz.underlying3 Tryz.underlying5 rfl) rfl ?_
        refine wpl_tp (t_bsV (v8s [_]) Tryz.underlying49 Tryz.ti5 rfl rfl zz22 zz22 rfl (v8s_one _)) rfl (fun b60 p60 => ?_)
        refine wpl_tp (t_apW Tryz.underlying49 Tryz.ti5 rfl zz22 rfl rfl (fun w h => zz12) OneC.h zz1 zz1 (v8s ((xs ++ [tg] ++ [of8 ((128 + kB (bs.length + sizL (trs l)) : Nat) : Int)]) ++ numK (kB (bs.length + sizL (trs l)) - m) ((bs.length + sizL (trs l)) / 2 ^ (8 * m)))) (by have q := num_step (bs.length + sizL (trs l)) (kB (bs.length + sizL (trs l))) (m + 1) zz16 hi0; rw [Nat.add_sub_cancel] at q; rw [q, ← List.append_assoc]; exact (v8s_append _ _).symm)) rfl (fun b61 p61 => ?_)
        refine wpl_q (q_pure rfl) rfl <| wpl_nil <| ex_block <| ex_then <| wpc_region <| wpl_q (q_pure rfl) rfl ?_
        first | refine wpl_q (qop_eq (q_pure rfl) (congrArg (Value.int .i64) (wk_i64 zz16 zz16))) rfl ?_ | refine wpl_q (q_pure rfl) rfl ?_
        refine wpl_q (q_pure rfl) rfl <| wpl_nil ?_
        refine ex_again ⟨(m, b61), ⟨zz16, by show SV b61 (xs.length + 1 + 1 + (kB (bs.length + sizL (trs l)) - m)); rw [show kB (bs.length + sizL (trs l)) - m = (kB (bs.length + sizL (trs l)) - (m + 1)) + 1 from zz16]; exact p61⟩⟩ ?_ ?_ ?_
        ·
         exact zz10
        ·
         exact fun w h => by
           dsimp only
           rw [show xs.length + 1 + 1 + (kB (bs.length + sizL (trs l)) - (m + 1)) + 1 = xs.length + 1 + 1 + (kB (bs.length + sizL (trs l)) - m) from zz16] at h
           exact h.sel
        ·
         show m < m + 1; omega
       ·
        simp only [decide_eq_false_iff_not] at hc51
        obtain rfl : s = 0 := by omega
        refine wpc_exit ?_
        refine ex_then_exit ?_
        refine ex_then_exit ?_
        refine ex_block_hit ?_
        refine ex_mid ⟨(v3, (xs ++ [tg] ++ [of8 ((128 + kB (bs.length + sizL (trs l)) : Nat) : Int)]) ++ numK (kB (bs.length + sizL (trs l))) (bs.length + sizL (trs l))), ⟨by rw [hlb]; simp, by rw [hy2]; omega, by rw [hy2]; exact hi1⟩⟩ ?_ ?_
        ·
         exact zz10
        ·
         exact fun w h => by
           dsimp only
           rw [e0] at h
           rw [hy2]
           exact h.sel
    ·
     rintro ⟨⟨v2, ys⟩, ⟨hi0, hi1, hi2⟩⟩; try dsimp only
     have hi0 : ys = xs ++ (tg :: lenB (bs.length + sizL (trs l))) := hi0; have hi1 : ys.length = xs.length + 1 + wideF (bs.length + sizL (trs l)) := hi1; have hi2 : SV v2 ys.length := hi2
     refine wpc_seq <| wpc_region <| wpl_q (q_pure rfl) rfl <| wpl_q (q_field Tryz.underlying60 rfl Tryz.ti49 rfl rfl _ rfl) rfl <| wpl_q (q_ld Tryz.underlying49 rfl rfl rfl) rfl ?_
     refine wpl_tp (t_apW Tryz.underlying49 Tryz.ti5 rfl zz22 rfl rfl (fun w h => hb.mono (rdo_old h)) (v8s_one _) zz1 zz1 (v8s (ys ++ bs)) (v8s_append _ _).symm) rfl (fun b65 p65 => ?_)
     refine wpl_q (q_pure rfl) rfl <| wpl_nil <| ex_then <| wpc_seq <| wpc_seq <| wpc_region <| wpl_q (q_field Tryz.underlying60 rfl Tryz.ti58 rfl rfl _ rfl) rfl <| wpl_q (q_ld Tryz.underlying58 rfl rfl rfl) rfl ?_
     refine wpl_q (q_lenW Tryz.underlying58 rfl zz5) rfl ?_
     refine wpl_q (q_pure rfl) rfl <| wpl_nil <| ex_then <| wpc_block ?_
     refine wpc_loopc (ι := { x : Nat × Value × List UInt8 // (x.1 ≤ l.length) ∧ (x.2.2 = xs ++ (tg :: (lenB (bs.length + sizL (trs l)) ++ (bs ++ encL (trs (l.take x.1)))))) ∧ (x.2.2.length = xs.length + 1 + wideF (bs.length + sizL (trs l)) + bs.length + sizL (trs (l.take x.1))) ∧ (SV x.2.1 x.2.2.length) }) [(67, _), (68, _)] (fun x Lc => (69, .int .i64 ((x.1.1 : Nat) : Int)) :: (0, x.1.2.1) :: Lc) (fun x => Mem w (nums [.row v xs.length 5 1 (v8s xs)]) [.blk b3 60 [.int .u8 (tg.toNat : Int), bv, lv], .row x.1.2.1 (x.1.2.2.length) 5 1 (v8s (x.1.2.2))] []) (fun x => l.length - x.1.1) ⟨(0, b65, ys ++ bs), ⟨Nat.zero_le _, by rw [hi0]; simp [encL, trs], by rw [List.length_append, hi1]; rfl, by rw [List.length_append]; exact p65⟩⟩ zz10 ?_ ?_
     ·
      exact fun w h => by
        dsimp only
        rw [List.length_append]
        exact h.sel
     ·
      rintro ⟨⟨i, v4, zs⟩, ⟨hi0, hi1, hi2, hi3⟩⟩; try dsimp only
      have hi0 : i ≤ l.length := hi0; have hi1 : zs = xs ++ (tg :: (lenB (bs.length + sizL (trs l)) ++ (bs ++ encL (trs (l.take i))))) := hi1; have hi2 : zs.length = xs.length + 1 + wideF (bs.length + sizL (trs l)) + bs.length + sizL (trs (l.take i)) := hi2; have hi3 : SV v4 zs.length := hi3
      refine wpc_seq <| wpc_region <| wpl_q (q_pure rfl) rfl <| wpl_nil <| ex_then <| wpc_seq ?_
      refine wpc_cond rfl (fun hc70 => ?_) (fun hc70 => ?_)
      ·
       simp only [decide_eq_true_eq] at hc70
       have hil : i < l.length := by omega
       haveI := (ht.kid hil).sv.one
       have hs1 := sizL_take hil
       have hs2 := sizL_kid hil
       refine wpc_skip <| ex_then <| wpc_seq <| wpc_block <| wpc_seq <| wpc_region ?_
       refine wpl_q (q_idxW Tryz.underlying58 Tryz.ti60 rfl rfl zz5 zz1) rfl ?_
       refine wpl_q (q_ldWN Tryz.underlying60 rfl Tryz.ti60 rfl (fun w h => hk.mono (rdo_old h)) (l.getD i HT.z).c (cat_part HT.c_length HT.z hil) (HT.c_length _)) rfl ?_
       refine wpl_t (t_alloc Tryz.ti60 HT.z.c rfl) rfl (fun b11 => ?_)
       refine wpl_t0 (t_stA Tryz.ti60 rfl rfl LenC.h OneC.h LenC.h) (fun _ => ?_)
       refine wpl_nil <| ex_then <| wpc_region <| wpl_q (q_pure rfl) rfl <| wpl_q (q_ldN Tryz.underlying60 rfl Tryz.ti60 rfl LenC.h) rfl ?_
       refine wpl_tp (t_callR (m := zs.length) (m' := zs.length + (l.getD i HT.z).tr.siz) (ys := v8s (zs ++ enc (l.getD i HT.z).tr)) Tryz.hb52 rfl fun w h hr => ih (l.getD i HT.z) (getD_memH hil) v4 zs w hr hi3 ((ht.kid hil).mono (rdo_nums h zz47)) (hsm.kid hil) zz16) rfl (fun b75 p75 => ?_)
       refine wpl_q (q_pure rfl) rfl <| wpl_nil <| ex_block <| ex_then <| wpc_region ?_
       refine wpl_q (q_addN (b := 1) rfl rfl zz1) rfl ?_
       refine wpl_q (q_pure rfl) rfl <| wpl_nil ?_
       refine ex_again ⟨(i + 1, b75, zs ++ enc (l.getD i HT.z).tr), ⟨zz16, by rw [hi1, encL_take hil]; simp, by rw [List.length_append, enc_len _ (hsm.kid hil), hi2]; dsimp only; omega, by rw [List.length_append, enc_len _ (hsm.kid hil)]; exact p75⟩⟩ ?_ ?_ ?_
       ·
        exact zz10
       ·
        exact fun w h => by
          dsimp only
          rw [List.length_append, enc_len _ (hsm.kid hil)]
          exact h.sel
       ·
        (show l.length - (i + 1) < l.length - i); omega
      ·
       simp only [decide_eq_false_iff_not] at hc70
       obtain rfl : i = l.length := by omega
       rw [List.take_length] at hi1 hi2
       refine wpc_exit ?_
       refine ex_then_exit ?_
       refine ex_then_exit ?_
       refine ex_block_hit ?_
       refine ex_then <| wpc_seq <| wpc_region <| wpl_q (q_pure rfl) rfl <| wpl_q (q_pure rfl) rfl <| wpl_nil <| ex_then <| wpc_ret ?_
       refine ret1 (.inl rfl) rfl rfl ?_
       have hz1 : zs = xs ++ enc (HT.nd tg bv bs lv l).tr := hi1
       have hz2 : zs.length = xs.length + (HT.nd tg bv bs lv l).tr.siz := by rw [hi2]; show _ = xs.length + (1 + wideF (bs.length + sizL (trs l)) + (bs.length + sizL (trs l))); omega
       exact fun w1 h => ⟨v4, by rw [← hz2]; exact hi3, rfl, by rw [hz2, hz1] at h; exact h.sub SubC.h .nil⟩
end Go.Proofs.YtgnablliekgbgaaGreatDoor
namespace Go.Proofs.YtgnablliekgbgaaGreatDoor
open Go Go.PL Go.RowKit
theorem put : ∀ (t : HT) (v : Value) (xs : List UInt8) (w : World), (Ent.row v xs.length 5 1 (v8s xs)).at w → SV v xs.length → HSeen (rdO (nums [.row v xs.length 5 1 (v8s xs)]) w) t → Sm t.tr → xs.length + t.tr.siz ≤ 3000000 → Calls Tryz.prog 52 [v, .agg t.c.toArray].toArray w (GivesR w (.row v xs.length 5 1 (v8s xs)) (xs.length + t.tr.siz) 5 1 (v8s (xs ++ enc t.tr))) := by
  intro t
  induction t using HT.ind with
  | _ tg bv bs lv l ih => intro v xs w h1 h2 h3 h4 h5; exact put_step v xs _ w h1 h2 h3 h4 h5 (fun x hx v xs w a b c d e => ih x hx v xs w a b c d e)
theorem putNil (t : HT) (w : World) (hr : (Ent.row (.slice none 0 0) 0 5 1 []).at w) (ht : HSeen w.cell? t) (hsm : Sm t.tr) : Calls Tryz.prog 52 [.slice none 0 0, .agg t.c.toArray].toArray w (GivesR w (.row (.slice none 0 0) 0 5 1 []) (enc t.tr).length 5 1 (v8s (enc t.tr))) := by
  have h1 := siz_le t.tr hsm
  have h2 : t.tr.byt + 5 * t.tr.cnt ≤ 1000000 := hsm
  have q := put t nl [] w hr SV.nil (ht.mono fun a v hv => by
    show (if a.block ∈ ([] : List Nat) then none else w.cell? a) = some v
    rw [if_neg zz47]; exact hv) hsm (by show 0 + _ ≤ _; omega)
  rw [List.nil_append, show ([] : List UInt8).length + t.tr.siz = (enc t.tr).length by rw [enc_len t.tr hsm]; exact Nat.zero_add _] at q
  exact q
theorem octEncode (t : HT) (w : World) (ht : HSeen w.cell? t) (hsm : Sm t.tr) (hdp : t.tr.dep ≤ 900000) :
    Calls Tryz.prog 28 [.agg t.c.toArray].toArray w (GivesP w (fun v : Value => SV v (encF t.tr).1.length) (fun v => .tuple #[v, .int .i64 (encF t.tr).2]) (fun v => [.row v (encF t.tr).1.length 5 1 (v8s (encF t.tr).1)]) (fun _ => [])) := by
  haveI := ht.sv.one
  refine enter (m := 12) (R := Mem w [] [] []) Tryz.func28 rfl rfl (Nat.le_of_ble_eq_true rfl) (Mem.start w) ?_
  refine wpc_seq <| wpc_region ?_
  refine wpl_t (t_box rfl t.c rfl) rfl (fun b1 => ?_)
  refine wpl_q (q_pure rfl) rfl <| wpl_q (q_pure rfl) rfl <| wpl_nil <| ex_then <| wpc_seq <| wpc_seq <| wpc_region <| wpl_q (q_ldN Tryz.underlying60 rfl Tryz.ti60 rfl LenC.h) rfl ?_
  refine wpl_t (t_pur Tryz.hb51 rfl fun w h => check t w (ht.old h) hsm zz16) rfl (fun b6 => ?_)
  refine wpl_q (q_pure rfl) rfl <| wpl_nil <| ex_then <| wpc_seq <| wpc_region <| wpl_q (q_pure rfl) rfl <| wpl_q (q_pure rfl) rfl <| wpl_nil <| ex_then ?_
  refine wpc_cond rfl (fun hc8 => ?_) (fun hc8 => ?_)
  ·
   have hN : ¬ checkF t.tr = 0 := by simpa using hc8
   refine wpc_seq <| wpc_region <| wpl_q (q_pure rfl) rfl <| wpl_q (q_pure rfl) rfl <| wpl_q (q_pure rfl) rfl <| wpl_nil <| ex_then <| wpc_ret ?_
   refine ex_then_ret ?_
   refine ret2 (.inl rfl) rfl rfl rfl ?_
   exact fun w1 h => ⟨nl, by rw [encF, if_neg hN]; exact SV.nil, by rw [encF, if_neg hN], h.below, by rw [encF, if_neg hN]; exact (show Mem w [] [.row nl 0 5 1 []] [] w1 from (h.nilRow 5 1).sel).made (Sub.refl _) .nil⟩
  ·
   have hZ : checkF t.tr = 0 := by simpa using hc8
   refine wpc_skip <| ex_then <| wpc_seq <| wpc_region <| wpl_q (q_ldN Tryz.underlying60 rfl Tryz.ti60 rfl LenC.h) rfl ?_
   refine wpl_tp (t_callR0 (m' := (enc t.tr).length) (ys := v8s (enc t.tr)) 5 1 Tryz.hb52 rfl fun w h hr => putNil t w hr (ht.old h) hsm) rfl (fun b11 p11 => ?_)
   refine wpl_q (q_pure rfl) rfl <| wpl_q (q_pure rfl) rfl <| wpl_nil <| ex_then <| wpc_ret ?_
   refine ret2 (.inl rfl) rfl rfl rfl ?_
   exact fun w1 h => ⟨b11, by rw [encF, if_pos hZ]; exact p11, by rw [encF, if_pos hZ], h.below, by rw [encF, if_pos hZ]; exact h.made SubC.h .nil⟩
end Go.Proofs.YtgnablliekgbgaaGreatDoor
namespace Go.Proofs.YtgnablliekgbgaaGreatDoor
open Go Go.PL Go.RowKit
def serT (s : UInt64) : Tr := .nd 5 (numB s.toNat) []
def sersT (ss : List UInt64) : List Tr := ss.map serT
def bodyT (l : Rv) : Tr := .nd 134 [] [.nd 1 l.nm [], .nd 2 (numB l.no.toNat) [], .nd 3 (numB (of64 l.fr).toNat) [], .nd 4 (numB (of64 l.tt).toNat) [], .nd 129 [] (sersT l.ss)]
theorem sersT_len (ss : List UInt64) : (sersT ss).length = ss.length := List.length_map ..
theorem sersT_S {ss : List UInt64} {i : Nat} (h : i < ss.length) : sersT (ss.take (i + 1)) = sersT (ss.take i) ++ [serT (ss.getD i 0)] := by
  unfold sersT
  rw [List.take_add_one, List.getElem?_eq_getElem h, List.map_append, getD64 h]; rfl
def hseenL (l : List HT) : Fact := ⟨fun r => HSeenL r l, fun _ _ hr h => HSeenL_iff.2 fun x hx => (HSeenL_iff.1 h x hx).mono hr⟩
theorem hseenL_at {w0 w : World} {Ln : List Nat} {M : List Ent} {S : List Fact} (h : Mem w0 Ln M S w) {l : List HT} (hs : hseenL l ∈ S) : HSeenL w.cell? l := h.fact hs
theorem hseenL_snoc {r : Rd} {l : List HT} {x : HT} (h : HSeenL r l) (k : HSeen r x) : HSeenL r (l ++ [x]) := HSeenL_iff.2 fun y hy => by
  rcases List.mem_append.1 hy with h1 | h1
  · exact HSeenL_iff.1 h y h1
  · rw [List.mem_singleton] at h1; subst h1; exact k
theorem numK_le : ∀ (k n : Nat), (numK k n).length = k
  | 0, _ => rfl
  | k + 1, n => by rw [numK, List.length_append, numK_le k]; rfl
theorem numB_le (n : Nat) (h : n < 2 ^ 64) : (numB n).length ≤ 8 := by
  rw [numB, numK_le, kB]
  have : lenF n ≤ 64 := by
    unfold lenF
    split
    · decide
    · rename_i h0
      have := (Nat.log2_lt h0).2 h
      omega
  omega
end Go.Proofs.YtgnablliekgbgaaGreatDoor
namespace Go.Proofs.YtgnablliekgbgaaGreatDoor
open Go Go.PL Go.RowKit
theorem bytL_ser : ∀ (ss : List UInt64), bytL (sersT ss) ≤ 8 * ss.length
  | [] => Nat.le_refl _
  | s :: ss => by
    have h1 := bytL_ser ss
    have h2 := numB_le s.toNat s.toNat_lt
    show (numB s.toNat).length + 0 + bytL (sersT ss) ≤ 8 * (ss.length + 1)
    omega
theorem cntL_ser : ∀ (ss : List UInt64), cntL (sersT ss) = ss.length
  | [] => rfl
  | s :: ss => by
    have h1 := cntL_ser ss
    show 1 + 0 + cntL (sersT ss) = ss.length + 1
    omega
theorem sm_list {ss : List UInt64} (h : ss.length ≤ 520) : Sm (.nd 129 [] (sersT ss)) := by
  have h1 := bytL_ser ss
  have h2 := cntL_ser ss
  show 0 + bytL (sersT ss) + 5 * (1 + cntL (sersT ss)) ≤ 1000000
  omega
theorem sm_body {l : Rv} (h : l.ss.length ≤ 520) (h2 : l.nm.length ≤ 500) : Sm (bodyT l) := by
  have h3 := bytL_ser l.ss
  have h4 := cntL_ser l.ss
  have h5 := numB_le l.no.toNat l.no.toNat_lt
  have h6 := numB_le (of64 l.fr).toNat (of64 l.fr).toNat_lt
  have h7 := numB_le (of64 l.tt).toNat (of64 l.tt).toNat_lt
  show 0 + (l.nm.length + 0 + ((numB l.no.toNat).length + 0 + ((numB (of64 l.fr).toNat).length + 0 + ((numB (of64 l.tt).toNat).length + 0 + (0 + bytL (sersT l.ss) + 0))))) + 5 * (1 + (1 + 0 + (1 + 0 + (1 + 0 + (1 + 0 + (1 + cntL (sersT l.ss) + 0)))))) ≤ 1000000
  omega
theorem refValue (l : Rv) (w : World) (hl : l.seen w.cell?) (hnl : l.nm.length ≤ maxLen) (hss : l.ss.length ≤ 520) (hnm : l.nm.length ≤ 500) :
    Calls Tryz.prog 20 [.agg l.c.toArray].toArray w (GivesP w (fun y : HT => y.tr = bodyT l ∧ y.sv) (fun y => .agg y.c.toArray) (fun y => y.ents) (fun _ => [])) := by
  haveI := hl.svs.one
  have lss := hl.s.sv.le
  have lcs := hl.c.sv.le
  have lps := hl.p.sv.le
  have sss := hl.s.sv
  have scs := hl.c.sv
  have sps := hl.p.sv
  simp only [maxLen] at lss lcs lps
  refine enter (m := 43) (R := Mem w [] [] []) Tryz.func20 rfl rfl (Nat.le_of_ble_eq_true rfl) (Mem.start w) ?_
  refine wpc_seq <| wpc_region ?_
  refine wpl_t (t_box rfl l.c rfl) rfl (fun b1 => ?_)
  refine wpl_t (t_alloc Tryz.ti60 [.int .u8 0, nl, nl] rfl) rfl (fun b2 => ?_)
  refine wpl_nil <| ex_then <| wpc_seq <| wpc_region ?_
  refine wpl_q (q_build (cs := [.int .u8 129, nl, nl]) rfl (built_o0 129)) rfl ?_
  refine wpl_t (t_alloc Tryz.ti60 [.int .u8 0, nl, nl] rfl) rfl (fun b3 => ?_)
  refine wpl_t0 (t_stA Tryz.ti60 rfl rfl LenC.h OneC.h LenC.h) (fun _ => ?_)
  refine wpl_nil <| ex_then <| wpc_seq <| wpc_seq <| wpc_region <| wpl_q (q_pure rfl) rfl <| wpl_nil <| ex_then <| wpc_block ?_
  refine wpc_loopc (ι := { x : Nat × List HT × Value // (x.1 ≤ l.ss.length) ∧ (x.2.1.length = x.1) ∧ (trs x.2.1 = sersT (l.ss.take x.1)) ∧ (SV x.2.2 x.2.1.length) }) [(1, _), (2, _), (3, _)] (fun x Lc => (4, .int .i64 ((x.1.1 : Nat) : Int)) :: Lc) (fun x => Mem w [] [.blk b3 60 [.int .u8 129, nl, x.1.2.2], .row x.1.2.2 x.1.2.1.length 60 3 (hcs x.1.2.1), .blk b2 60 [.int .u8 0, nl, nl], .blk b1 30 l.c] [hseenL x.1.2.1]) (fun x => l.ss.length - x.1.1) ⟨(0, [], nl), ⟨Nat.zero_le _, rfl, rfl, SV.nil⟩⟩ zz10 ?_ ?_
  ·
   exact fun w1 h => by
     have h2 := (h.nilRow 60 3).sel (M' := [.blk b3 60 [.int .u8 129, nl, nl], .row nl 0 60 3 [], .blk b2 60 [.int .u8 0, nl, nl], .blk b1 30 l.c])
     exact h2.imp fun r _ t ht => by rw [List.mem_singleton] at ht; subst ht; trivial
  ·
   rintro ⟨⟨i, ns, nv⟩, ⟨hi0, hi1, hi2, hi3⟩⟩; try dsimp only
   have hi0 : i ≤ l.ss.length := hi0; have hi1 : ns.length = i := hi1; have hi2 : trs ns = sersT (l.ss.take i) := hi2; have hi3 : SV nv ns.length := hi3
   refine wpc_seq <| wpc_seq <| wpc_region <| wpl_q (q_pure rfl) rfl <| wpl_q (q_field Tryz.underlying30 rfl Tryz.ti25 rfl rfl _ rfl) rfl <| wpl_q (q_ld Tryz.underlying25 rfl rfl (show l.c[4]? = some (l.sv) from rfl)) rfl ?_
   refine wpl_q (q_lenW Tryz.underlying25 rfl zz5) rfl ?_
   refine wpl_q (q_pure rfl) rfl <| wpl_nil <| ex_then ?_
   refine wpc_cond rfl (fun hc10 => ?_) (fun hc10 => ?_)
   ·
    simp only [decide_eq_true_eq] at hc10
    have hil : i < l.ss.length := by omega
    haveI := oneH (t := 129) SV.nil hi3
    refine wpc_skip <| ex_then <| wpc_seq <| wpc_block ?_
    refine wpc_draw 9 zz8 (fun _ h => h.drew) ?_
    refine wpd_p 0 rfl zz8 trivial (q_field Tryz.underlying60 rfl Tryz.ti58 rfl rfl _ rfl) rfl sk0 ?_
    refine wpd_q 1 rfl zz8 trivial (q_ld Tryz.underlying58 rfl rfl rfl) rfl (fun _ h => h) ?_
    refine wpd_p 2 rfl zz8 trivial (q_field Tryz.underlying30 rfl Tryz.ti25 rfl rfl _ rfl) rfl sk0 ?_
    refine wpd_qB 3 [5, 6, 7, 8, 9] rfl zz8 trivial (q_ld Tryz.underlying25 rfl rfl (show l.c[4]? = some (l.sv) from rfl)) rfl (fun _ h => h) ?_
    refine wpd_p 4 rfl zz8 trivial (q_pure rfl) rfl sk0 ?_
    refine wpd_p 5 rfl zz8 trivial (q_idxW1 Tryz.underlying25 Tryz.ti22 rfl rfl zz5 zz1) rfl sk0 ?_
    refine wpd_qB 6 [7, 8, 9] rfl zz8 trivial (q_ldW Tryz.underlying22 rfl rfl (fun w h => h.seen_old hl.s) zz49) rfl (fun _ h => h) ?_
    refine wpd_tp 7 rfl zz8 trivial (t_callPT Tryz.hb42 rfl fun w h => frz (refNum 5 (l.ss.getD i 0) w)) rfl (fun _ => (fun w h => .inr (h.sub SubC.h SubC.h))) (fun b20 p20 => ?_)
    haveI := p20.2.one
    refine wpd_tp 8 rfl zz8 trivial (t_bsG [.agg b20.c.toArray] b20.c Tryz.underlying58 Tryz.ti60 rfl zz22 rfl zz22 zz22 rfl zz44 (List.append_nil _)) rfl (fun _ => (fun w h => .inr (h.sub SubC.h SubC.h))) (fun b21 p21 => ?_)
    refine wpd_tp 9 rfl zz8 trivial (t_apW Tryz.underlying58 Tryz.ti60 rfl zz22 rfl rfl (fun w h => zz14) OneC.h zz1 zz1 (hcs (ns ++ [b20])) (cat_snoc HT.c ns b20)) rfl (fun _ => skk rfl) (fun b22 p22 => ?_)
    refine wpd_p 10 rfl zz8 trivial (q_field Tryz.underlying60 rfl Tryz.ti58 rfl rfl _ rfl) rfl (skk rfl) ?_
    refine wpd_t0 11 rfl zz8 trivial (t_st1 Tryz.ti58 rfl rfl (SV.one zz5) zz4 [.int .u8 129, nl, b22] rfl) (fun _ => skk rfl) (fun _ => ?_)
    refine wpd_done zz8 ?_
    refine ex_block <| ex_then <| wpc_region <| wpl_q (q_pure rfl) rfl ?_
    refine wpl_q (q_addN (b := 1) rfl rfl zz1) rfl ?_
    refine wpl_q (q_pure rfl) rfl <| wpl_nil ?_
    refine ex_again ⟨(i + 1, ns ++ [b20], b22), ⟨by show i + 1 ≤ l.ss.length; omega, by rw [snoc_len, hi1], by rw [trs_append, hi2, sersT_S hil]; show _ ++ [b20.tr] = _; rw [p20.1]; rfl, by rw [snoc_len]; exact p22⟩⟩ ?_ ?_ ?_
    ·
     exact zz10
    ·
     exact fun w h => by
       dsimp only
       rw [snoc_len]
       have h1 := h.sel (M' := [.blk b3 60 [.int .u8 129, nl, b22], .row b22 (ns.length + 1) 60 3 (hcs (ns ++ [b20])), .blk b2 60 [.int .u8 0, nl, nl], .blk b1 30 l.c])
       exact h1.imp fun r hr t ht => by
         rw [List.mem_singleton] at ht
         subst ht
         exact hseenL_snoc (hr (hseenL ns) zz47) (hr (Go.Proofs.YtgnablliekgbgaaGreatDoor.hseen b20) zz47)
    ·
     (show l.ss.length - (i + 1) < l.ss.length - i); omega
   ·
    simp only [decide_eq_false_iff_not] at hc10
    obtain rfl : i = l.ss.length := by omega
    rw [List.take_length] at hi2
    haveI := oneH (t := 129) SV.nil hi3
    refine wpc_exit ?_
    refine ex_then_exit ?_
    refine ex_then_exit ?_
    refine ex_block_hit ?_
    refine ex_then <| wpc_seq ?_
    refine wpc_draw 18 zz8 (fun _ h => h.drew) ?_
    refine wpd_p 0 rfl zz8 trivial (q_field Tryz.underlying30 rfl Tryz.ti9 rfl rfl _ rfl) rfl sk0 ?_
    refine wpd_qB 1 [2, 5, 10, 15, 17, 18] rfl zz8 trivial (q_ld Tryz.underlying9 rfl rfl (show l.c[0]? = some (str l.nm) from rfl)) rfl (fun _ h => h) ?_
    refine wpd_p 3 rfl zz8 trivial (q_field Tryz.underlying30 rfl Tryz.ti22 rfl rfl _ rfl) rfl sk0 ?_
    refine wpd_qB 4 [5, 10, 15, 17, 18] rfl zz8 trivial (q_ld Tryz.underlying22 rfl rfl (show l.c[1]? = some (.int .u64 (l.no.toNat : Int)) from rfl)) rfl (fun _ h => h) ?_
    refine wpd_p 6 rfl zz8 trivial (q_field Tryz.underlying30 rfl Tryz.ti24 rfl rfl _ rfl) rfl sk0 ?_
    refine wpd_p 7 rfl zz8 trivial (q_field Tryz.underlying24 rfl Tryz.ti2 rfl rfl _ rfl) rfl sk0 ?_
    refine wpd_qB 8 [9, 10, 15, 17, 18] rfl zz8 trivial (q_ld Tryz.underlying2 rfl rfl (show l.c[2]? = some (.int .i64 l.fr) from rfl)) rfl (fun _ h => h) ?_
    refine wpd_p 9 rfl zz8 trivial (q64_conv Tryz.underlying2 Tryz.underlying22 rfl) rfl sk0 ?_
    refine wpd_p 11 rfl zz8 trivial (q_field Tryz.underlying30 rfl Tryz.ti24 rfl rfl _ rfl) rfl sk0 ?_
    refine wpd_p 12 rfl zz8 trivial (q_field Tryz.underlying24 rfl Tryz.ti2 rfl rfl _ rfl) rfl sk0 ?_
    refine wpd_qB 13 [14, 15, 17, 18] rfl zz8 trivial (q_ld Tryz.underlying2 rfl rfl (show l.c[3]? = some (.int .i64 l.tt) from rfl)) rfl (fun _ h => h) ?_
    refine wpd_p 14 rfl zz8 trivial (q64_conv Tryz.underlying2 Tryz.underlying22 rfl) rfl sk0 ?_
    refine wpd_qB 16 [17, 18] rfl zz8 trivial (q_ldP Tryz.underlying60 rfl Tryz.ti60 rfl (HT.nd 129 nl [] nv ns).c rfl rfl) rfl (fun _ h => h) ?_
    refine wpd_tp 2 rfl zz8 trivial (t_callPT Tryz.hb44 rfl fun w h => refStr 1 l.nm w hnl) rfl (fun _ => (fun w h => .inr (h.sub SubC.h SubC.h))) (fun b26 p26 => ?_)
    haveI := p26.2.one
    refine wpd_tp 5 rfl zz8 trivial (t_callPT Tryz.hb42 rfl fun w h => frz (refNum 2 l.no w)) rfl (fun _ => (fun w h => .inr (h.sub SubC.h SubC.h))) (fun b29 p29 => ?_)
    haveI := p29.2.one
    refine wpd_tp 10 rfl zz8 trivial (t_callPT Tryz.hb42 rfl fun w h => frz (refNum 3 (of64 l.fr) w)) rfl (fun _ => (fun w h => .inr (h.sub SubC.h SubC.h))) (fun b34 p34 => ?_)
    haveI := p34.2.one
    refine wpd_tp 15 rfl zz8 trivial (t_callPT Tryz.hb42 rfl fun w h => frz (refNum 4 (of64 l.tt) w)) rfl (fun _ => (fun w h => .inr (h.sub SubC.h SubC.h))) (fun b39 p39 => ?_)
    haveI := p39.2.one
    refine wpd_tp 17 rfl zz8 trivial (t_bsG [.agg b26.c.toArray, .agg b29.c.toArray, .agg b34.c.toArray, .agg b39.c.toArray, .agg (HT.nd 129 nl [] nv ns).c.toArray] (hcs [b26, b29, b34, b39, (HT.nd 129 nl [] nv ns)]) Tryz.underlying58 Tryz.ti60 rfl zz22 rfl zz22 zz22 rfl (by intro v hv; simp only [List.mem_cons, List.not_mem_nil, or_false] at hv; rcases hv with rfl | rfl | rfl | rfl | rfl <;> first | exact HT.c_length _ | rfl) rfl) rfl (fun _ => (fun w h => .inr (h.sub SubC.h SubC.h))) (fun b41 p41 => ?_)
    have htr : Tr.nd 134 [] (trs [b26, b29, b34, b39, (HT.nd 129 nl [] nv ns)]) = bodyT l := by
      show Tr.nd 134 [] [b26.tr, b29.tr, b34.tr, b39.tr, Tr.nd 129 [] (trs ns)] = _
      rw [p26.1, p29.1, p34.1, p39.1, hi2]; rfl
    have hsm : Sm (Tr.nd 134 [] (trs [b26, b29, b34, b39, (HT.nd 129 nl [] nv ns)])) := by rw [htr]; exact sm_body hss hnm
    refine wpd_tp 18 rfl zz8 trivial (t_callE (fun y : HT => .blk b2 60 [.int .u8 0, nl, nl] :: (y.ents ++ [.row b41 5 60 3 (hcs [b26, b29, b34, b39, (HT.nd 129 nl [] nv ns)]), .blk b3 60 [.int .u8 129, nl, nv], .row nv ns.length 60 3 (hcs ns), .blk b1 30 l.c])) (fun y => ((List.perm_middle (l₁ := [.row b41 5 60 3 (hcs [b26, b29, b34, b39, (HT.nd 129 nl [] nv ns)]), .blk b3 60 [.int .u8 129, nl, nv], .row nv ns.length 60 3 (hcs ns)]) (l₂ := [.blk b1 30 l.c])).append_left y.ents).trans List.perm_middle) Tryz.hb43 rfl fun w h => refSeq 134 b41 [b26, b29, b34, b39, (HT.nd 129 nl [] nv ns)] w (h.seen_row zz7) ⟨Mem.hseenF h zz7, Mem.hseenF h zz7, Mem.hseenF h zz7, Mem.hseenF h zz7, ⟨seen_nil _ 5 1, h.seen_row zz7, hseenL_at h zz7⟩, trivial⟩ hsm) rfl (fun _ => skk rfl) (fun b42 p42 => ?_)
    haveI := p42.2.one
    refine wpd_t0 19 rfl zz8 trivial (t_stA Tryz.ti60 rfl rfl LenC.h OneC.h LenC.h) (fun _ => skk rfl) (fun _ => ?_)
    refine wpd_done zz8 ?_
    refine ex_then <| wpc_ret ?_
    refine retv1 (.inl rfl) rfl (rv_agg Tryz.underlying60 rfl Tryz.ti60 rfl (fun w h => h.atB) LenC.h) ?_
    exact fun w1 h => ⟨b42, ⟨p42.1.trans htr, p42.2⟩, rfl, h.below, h.made (.drop (sub_left b42.ents _)) .nil⟩
end Go.Proofs.YtgnablliekgbgaaGreatDoor
namespace Go.Proofs.YtgnablliekgbgaaGreatDoor
open Go Go.PL Go.RowKit
abbrev HSv := { y : HT // y.sv }
def encS (_ : UInt64) (y : HSv) : Array Value := #[.agg y.1.c.toArray]
def AtS (T : List Nat) (x : UInt64) (y : HSv) (w : World) : Prop := y.1.tr = serT x ∧ GainOk T y.1.ents w
def InvS (pp : Nat) (sv : Value) (ss : List UInt64) (w : World) : Prop := CellsAt w.cell? ⟨pp, 0, none⟩ [sv] ∧ Seen w.cell? sv ss.length 1 (v64s ss)
theorem Mem.gainOk {w0 w : World} {Ln : List Nat} {M N : List Ent} {S : List Fact} (h : Mem w0 Ln M S w) (hs : Sub N M) : GainOk (nums M) N w := by
  have h2 := h.sub hs .nil
  exact ⟨fun e he => ⟨h2.own e he, fun k hk => mem_nums.2 ⟨e, hs.mem _ he, hk⟩⟩, h2.apart⟩
theorem GainOk.keep {T : List Nat} {G : List Ent} {w w' : World} (h : GainOk T G w) (hk : ∀ j, j ∈ T → w'.heap[j]? = w.heap[j]?) : GainOk T G w' := ⟨fun e he => ⟨Ent.kept (h.1 e he).1 fun k hn => hk k ((h.1 e he).2 k hn), (h.1 e he).2⟩, h.2⟩
theorem take_S64 {ss : List UInt64} {i : Nat} (h : i < ss.length) : ss.take i ++ [ss.getD i 0] = ss.take (i + 1) := by rw [List.take_add_one, List.getElem?_eq_getElem h, getD64 h]; rfl
theorem take_P64 {ss : List UInt64} {i : Nat} (h : i < ss.length) : (ss.take i ++ [ss.getD i 0]) <+: ss := by rw [take_S64 h]; exact List.take_prefix _ _
theorem serials1 (yl : Nat) (pp : Nat) (sv : Value) (ss : List UInt64) (J : List Nat → List UInt64 → World → Prop) (K : World → Prop) (w : World)  (hst : StabJ J) (hinv : ∀ T pre w1, J T pre w1 → InvS pp sv ss w1) (hsk : StabK K) (hy : YieldH Tryz.prog yl encS AtS ss J K) (hJ0 : J [] [] w) :
    Calls Tryz.prog 86 [.func (.yield yl) #[] #[], .pointer (some ⟨pp, 0, none⟩)].toArray w (IterPost J K ss) := by
  have ssv := (hinv _ _ _ hJ0).2.sv
  have lss := ssv.le
  simp only [maxLen] at lss
  refine enter (m := 17) (R := Mem w [] [] []) Tryz.func86 rfl rfl (Nat.le_of_ble_eq_true rfl) (Mem.start w) ?_
  refine wpc_seq <| wpc_region ?_
  refine wpl_q (q_load1 Tryz.underlying25 rfl rfl (fun w h => (h.at_old (hinv _ _ _ hJ0).1 0 sv rfl : w.cell? (Addr.add ⟨pp, 0, none⟩ 0) = some sv))) rfl ?_
  refine wpl_q (q_lenW Tryz.underlying25 rfl zz5) rfl ?_
  refine wpl_q (q_pure rfl) rfl <| wpl_nil <| ex_then <| wpc_block ?_
  refine wpc_loopc (ι := { x : Nat × World × List Nat // (x.1 ≤ ss.length) ∧ (J x.2.2 (ss.take x.1) x.2.1) }) [(0, _), (5, _), (6, _)] (fun x Lc => (7, .int .i64 ((x.1.1 : Nat) : Int)) :: Lc) (fun x => Mem x.1.2.1 x.1.2.2 [] []) (fun x => ss.length - x.1.1) ⟨(0, w, []), ⟨Nat.zero_le _, hJ0⟩⟩ zz10 ?_ ?_
  ·
   exact fun w h => h
  ·
   rintro ⟨⟨i, wb, T⟩, ⟨hi0, hi1⟩⟩; try dsimp only
   have hi0 : i ≤ ss.length := hi0; have hi1 : J T (ss.take i) wb := hi1
   have hsee : ∀ {M : List Ent} {S : List Fact} {w : World}, Mem wb T M S w → InvS pp sv ss w := fun h => hinv _ _ _ (hst _ _ _ _ _ hi1 (h.sub .nil .nil) (nums_lt h))
   refine wpc_seq <| wpc_region <| wpl_q (q_pure rfl) rfl <| wpl_nil <| ex_then <| wpc_seq ?_
   refine wpc_cond rfl (fun hc8 => ?_) (fun hc8 => ?_)
   ·
    simp only [decide_eq_true_eq] at hc8
    have hil : i < ss.length := by omega
    refine wpc_skip <| ex_then <| wpc_seq <| wpc_block <| wpc_seq <| wpc_region ?_
    refine wpl_q (q_idxW1 Tryz.underlying25 Tryz.ti22 rfl rfl zz5 zz1) rfl ?_
    refine wpl_q (q_ldW Tryz.underlying22 rfl rfl (fun w h => (hsee h).2) zz49) rfl ?_
    refine wpl_q (q_pure rfl) rfl <| wpl_nil <| ex_then <| wpc_seq ?_
    refine wpc_region_y ?_
    refine wil_q (q_pure rfl) rfl ?_
    refine wil_q (q_pure rfl) rfl ?_
    refine wil_tp (t_callP (T := fun _ => []) (N := fun y : HT => y.ents) Tryz.hb55 rfl fun w h => octNum 5 (ss.getD i 0) w) rfl (fun b13 p13 => ?_)
    refine wil_yieldH (ss.getD i 0) (⟨b13, p13.2⟩) rfl rfl hst hy hi1 (take_P64 hil) rfl (fun w h => ⟨p13.1, Mem.gainOk h (sub_left _ _)⟩) rfl ?_ ?_
    ·
     intro u14 hu14
     refine wil_q (q_pure rfl) rfl ?_
     refine wil_nil ?_
     refine ex_then ?_
     refine wpc_cond_f rfl ?_
     refine wpc_skip <| ex_block <| ex_then <| wpc_region ?_
     refine wpl_q (q_addN (b := 1) rfl rfl zz1) rfl ?_
     refine wpl_q (q_pure rfl) rfl <| wpl_nil ?_
     refine ex_again ⟨(i + 1, u14, []), ⟨by show i + 1 ≤ ss.length; omega, by show J [] (ss.take (i + 1)) u14; rw [← take_S64 hil]; exact hu14⟩⟩ ?_ ?_ ?_
     ·
      exact zz10
     ·
      exact fun w h => h
     ·
      (show ss.length - (i + 1) < ss.length - i); omega
    ·
     intro u14 hu14
     refine wil_q (q_pure rfl) rfl ?_
     refine wil_nil ?_
     refine ex_then ?_
     refine wpc_cond_t rfl ?_
     refine wpc_ret ?_
     refine ex_block_ret ?_
     refine ex_then_ret ?_
     refine ex_then_ret ?_
     refine ex_block_ret ?_
     refine ret0 (.inl rfl) rfl ?_
     exact fun w h => iter_stop hsk hu14 h
   ·
    simp only [decide_eq_false_iff_not] at hc8
    obtain rfl : i = ss.length := by omega
    rw [List.take_length] at hi1
    refine wpc_exit ?_
    refine ex_then_exit ?_
    refine ex_then_exit ?_
    refine ex_block_hit ?_
    refine ret0 (.inr rfl) rfl ?_
    exact fun w h => iter_done hst hi1 h
theorem serials_it (sv : Value) (ss : List UInt64) (pp : Nat) (w : World) : IterHand Tryz.prog 86 #[.pointer (some ⟨pp, 0, none⟩)] encS AtS (InvS pp sv ss) ss [] w :=
  fun yl J K hst hinv hsk hy hJ0 => serials1 yl pp sv ss J K w hst hinv hsk hy hJ0
theorem serials (sv : Value) (n : Nat) (w : World) (hsv : SV sv n)  :
    Calls Tryz.prog 57 [sv].toArray w (GivesP w (fun _ : Nat => True) (fun pp : Nat => .func (.func 86) #[] #[.pointer (some ⟨pp, 0, none⟩)]) (fun pp => [.blk pp 25 [sv]]) (fun _ => [])) := by
  obtain ⟨a, cap, rfl, hz⟩ := hsv
  refine enter (m := 4) (R := Mem w [] [] []) Tryz.func57 rfl rfl (Nat.le_of_ble_eq_true rfl) (Mem.start w) ?_
  refine wpc_seq <| wpc_region ?_
  refine wpl_t (t_box rfl [.slice a n cap] rfl) rfl (fun b1 => ?_)
  refine wpl_q (q_pure rfl) rfl <| wpl_nil <| ex_then <| wpc_seq <| wpc_region ?_
  refine wpl_q (q_fn (us := []) (vs := [.pointer (some ⟨b1, 0, none⟩)]) rfl rfl) rfl ?_
  refine wpl_q (q_pure rfl) rfl <| wpl_nil <| ex_then <| wpc_ret ?_
  refine ret1 (.inl rfl) rfl rfl ?_
  exact fun w h => ⟨b1, trivial, rfl, h.below, h.made SubC.h .nil⟩
end Go.Proofs.YtgnablliekgbgaaGreatDoor
namespace Go.Proofs.YtgnablliekgbgaaGreatDoor
open Go Go.PL Go.RowKit
def rowsL (v : Value) (ns : List HT) : List Ent := .row v ns.length 60 3 (hcs ns) :: entsL ns
theorem rowsL_rows {v : Value} {ns : List HT} : ∀ e ∈ rowsL v ns, isRow e := by
  intro e he
  rcases List.mem_cons.1 he with rfl | he
  · trivial
  · obtain ⟨x, hx, hex⟩ : ∃ x ∈ ns, e ∈ x.ents := by
      have : ∀ m : List HT, e ∈ entsL m → ∃ x ∈ m, e ∈ x.ents := by
        intro m
        induction m with
        | nil => intro h; cases h
        | cons y m ih =>
          intro h
          rw [entsL, List.mem_append] at h
          rcases h with h | h
          · exact ⟨y, List.mem_cons_self .., h⟩
          · obtain ⟨x, hx, hh⟩ := ih h
            exact ⟨x, List.mem_cons_of_mem _ hx, hh⟩
      exact this ns he
    exact ents_rows x e hex
theorem rowsL_sub {e : Ent} {v : Value} {ns : List HT} : Sub (rowsL v ns) (e :: .row v ns.length 60 3 (hcs ns) :: entsL ns) := by unfold rowsL; exact .drop (Sub.refl _)
theorem hcs_len (ns : List HT) : (hcs ns).length = ns.length * 3 := cat_len HT.c_length ns
theorem put_last (ns : List HT) (z y : HT) : (hcs (ns ++ [z])).take (ns.length * 3) ++ y.c ++ (hcs (ns ++ [z])).drop (ns.length * 3 + y.c.length) = hcs (ns ++ [y]) := by
  have h := cat_put HT.c_length (l := ns ++ [z]) (i := ns.length) y (by rw [snoc_len]; omega)
  rw [show (ns ++ [z]).set ns.length y = ns ++ [y] by rw [List.set_append]; simp] at h
  exact h
theorem put_in (ns : List HT) (z y : HT) : ns.length * 3 + y.c.length ≤ (hcs (ns ++ [z])).length := by rw [hcs_len, snoc_len, HT.c_length]; omega
theorem put_pos (ns : List HT) (z : HT) : 0 < (hcs (ns ++ [z])).length := by rw [hcs_len, snoc_len]; omega
theorem appendSeq (pp : Nat) (sv : Value) (ss : List UInt64) (w : World)  (hss : ss.length ≤ 520) (hI : InvS pp sv ss w) :
    Calls Tryz.prog 85 [.slice none 0 0, .func (.func 86) #[] #[.pointer (some ⟨pp, 0, none⟩)]].toArray w (GivesP w (fun s : Value × List HT => trs s.2 = sersT ss ∧ SV s.1 s.2.length) (fun s => s.1) (fun s => rowsL s.1 s.2) (fun _ => [])) := by
  refine enterN (m := 15) (R := Mem w [] [] []) Tryz.func85 rfl rfl (Nat.le_of_ble_eq_true rfl) (Mem.start w) ?_
  refine wpc_seq <| wpc_region ?_
  refine wpl_t (t_box rfl [.slice none 0 0] rfl) rfl (fun b2 => ?_)
  refine wpl_q (q_pure rfl) rfl <| wpl_nil <| ex_then <| wpc_seq <| wpc_seq <| wpc_region <| wpl_q (q_pure rfl) rfl <| wpl_nil <| ex_then <| wpc_block ?_
  refine wpc_mono (R' := Mem w [] ([] ++ (.blk b2 58 [nl] :: .row nl ([] : List HT).length 60 3 (hcs ([] : List HT)) :: entsL ([] : List HT))) []) (fun w1 h => (h.nilRow 60 3).sel (M' := [.blk b2 58 [.slice none 0 0], .row (.slice none 0 0) 0 60 3 []])) ?_
  refine wpc_rangeH (encs := encS) (At := AtS) (Inv := (InvS pp sv ss)) (xs := ss) (ρ := Unit) (β := Nat) [] (fun s : Value × List HT => .blk b2 58 [s.1] :: .row s.1 s.2.length 60 3 (hcs s.2) :: entsL s.2) (fun pre s => trs s.2 = sersT pre ∧ SV s.1 s.2.length) (.slice none 0 0, []) (fun _ => False) (fun _ => .ret) (fun _ => []) (fun _ => []) (fun x i b => [.blk b 60 i.1.c]) (fun x i b => [(2, .pointer (some ⟨b2, 0, none⟩)), (5, .pointer (some ⟨b, 0, none⟩))]) rfl Tryz.hb86 ⟨rfl, SV.nil⟩ (fun w h k hk => by cases hk) (fun w h => serials_it sv ss pp w) (fun _ _ _ _ h => ⟨h.at_old hI.1, h.seen_old hI.2⟩) (fun _ _ _ _ _ h hk => ⟨h.1, GainOk.keep h.2 hk⟩) (fun _ _ => rfl) zz22 ?_ ?_ ?_ ?_
  ·
   intro l x i w1 K hK
   haveI := i.2.one
   refine wic_region ?_
   refine wil_t (t_alloc Tryz.ti60 [.int .u8 0, nl, nl] rfl) rfl (fun b5 => ?_)
   refine wil_t0 (t_stA Tryz.ti60 rfl rfl LenC.h OneC.h LenC.h) (fun _ => ?_)
   refine wil_nil ?_
   exact fun a w hs h => hK b5 a w (hs.weaken (subs_get zz10)) h
  ·
   intro l pre x i s b w1 T hgs hpre hm hat hT
   obtain ⟨v, ns⟩ := s
   obtain ⟨hg1, hg2⟩ := hgs
   have hg1 : trs ns = sersT pre := hg1
   have hg2 : SV v ns.length := hg2
   obtain ⟨i, hi2⟩ := i
   obtain ⟨hi1, hat⟩ := hat
   have hi1 : i.tr = serT x := hi1
   have hat : GainOk T i.ents w1 := hat
   haveI := hi2.one
   have lns := hg2.le
   simp only [maxLen] at lns
   have hnl : ns.length ≤ 520 := by
     have h1 : (trs ns).length = pre.length := by rw [hg1, sersT_len]
     rw [trs_length] at h1
     have h2 := hpre.length_le
     rw [List.length_append, List.length_singleton] at h2
     omega
   have l1 : (ns ++ [HT.z]).length = ns.length + 1 := snoc_len _ _
   show WPCI _ _ _ _ (Mem w1 (nums (.blk b 60 i.c :: .blk b2 58 [v] :: .row v ns.length 60 3 (hcs ns) :: entsL ns)) (.blk b 60 i.c :: .blk b2 58 [v] :: .row v ns.length 60 3 (hcs ns) :: entsL ns) []) _ _
   refine wic_block ?_
   refine wic_draw 4 zz8 (fun _ h => h.drew) ?_
   refine wid_q 0 rfl zz8 trivial (q_ld Tryz.underlying58 rfl rfl rfl) rfl (fun _ h => h) ?_
   refine wid_q 1 rfl zz8 trivial (q_ldN Tryz.underlying60 rfl Tryz.ti60 rfl LenC.h) rfl (fun _ h => h) ?_
   refine wid_p 2 rfl zz8 trivial (q_lenW Tryz.underlying58 rfl zz5) rfl sk0 ?_
   refine wid_tp 3 rfl zz8 trivial (t_bsG [.agg HT.z.c.toArray] HT.z.c Tryz.underlying58 Tryz.ti60 rfl zz22 rfl zz22 zz22 rfl (by intro v hv; rw [List.mem_singleton] at hv; subst hv; rfl) (List.append_nil _)) rfl (fun _ => (fun w h => .inr (h.sub SubC.h SubC.h))) (fun b11 p11 => ?_)
   refine wid_tp 4 rfl zz8 trivial (t_apW Tryz.underlying58 Tryz.ti60 rfl zz22 rfl rfl (fun w h => zz14) OneC.h zz1 zz1 (hcs (ns ++ [HT.z])) (cat_snoc HT.c ns HT.z)) rfl (fun _ => skk rfl) (fun b12 p12 => ?_)
   refine wid_p 5 rfl zz8 trivial (q_idxW Tryz.underlying58 Tryz.ti60 rfl rfl zz5 zz1) rfl (skk rfl) ?_
   refine wid_two 6 7 zz8 ?_ ?_
   ·
    refine wia_t0 6 rfl trivial (t_stWN Tryz.ti60 rfl rfl rfl (by exact HT.c_length i) (by exact OneC.h (cs := i.c)) (put_in _ _ _) (put_pos _ _) (hcs (ns ++ [i])) (by exact put_last _ _ _)) (fun _ => skk rfl) (fun _ => ?_)
    refine wid_t0 7 rfl zz8 trivial (t_st1 Tryz.ti58 rfl rfl (SV.one zz5) zz4 [b12] rfl) (fun _ => skk rfl) (fun _ => ?_)
    refine wid_done zz8 ?_
    refine ex_block ?_
    refine ex_roundN ?_
    exact fun w h => ⟨(b12, ns ++ [i]), (.blk b2 58 [b12] :: .row b12 (ns ++ [i]).length 60 3 (hcs (ns ++ [i])) :: entsL ns), i.ents, ⟨by show trs (ns ++ [i]) = _; rw [trs_append, hg1]; show _ ++ [i.tr] = _; rw [hi1]; simp [sersT], by show SV b12 (ns ++ [i]).length; rw [snoc_len]; exact p12⟩, by rw [snoc_len]; exact h.sub SubC.h .nil, hat, .cons _ (.cons _ (List.perm_append_comm.trans (entsL_snoc ns i)))⟩
   ·
    refine wia_t0 7 rfl trivial (t_st1 Tryz.ti58 rfl rfl (SV.one zz5) zz4 [b12] rfl) (fun _ => skk rfl) (fun _ => ?_)
    refine wid_t0 6 rfl zz8 trivial (t_stWN Tryz.ti60 rfl rfl rfl (by exact HT.c_length i) (by exact OneC.h (cs := i.c)) (put_in _ _ _) (put_pos _ _) (hcs (ns ++ [i])) (by exact put_last _ _ _)) (fun _ => skk rfl) (fun _ => ?_)
    refine wid_done zz8 ?_
    refine ex_block ?_
    refine ex_roundN ?_
    exact fun w h => ⟨(b12, ns ++ [i]), (.blk b2 58 [b12] :: .row b12 (ns ++ [i]).length 60 3 (hcs (ns ++ [i])) :: entsL ns), i.ents, ⟨by show trs (ns ++ [i]) = _; rw [trs_append, hg1]; show _ ++ [i.tr] = _; rw [hi1]; simp [sersT], by show SV b12 (ns ++ [i]).length; rw [snoc_len]; exact p12⟩, by rw [snoc_len]; exact h.sub SubC.h .nil, hat, .cons _ (.cons _ (List.perm_append_comm.trans (entsL_snoc ns i)))⟩
  ·
   intro D s hgs
   obtain ⟨v, ns⟩ := s
   obtain ⟨hg1, hg2⟩ := hgs
   have hg1 : trs ns = sersT ss := hg1
   have hg2 : SV v ns.length := hg2
   refine ex_weaken (R1 := Mem w [] (.obj D (.deferred (some [])) :: .blk b2 58 [v] :: .row v ns.length 60 3 (hcs ns) :: entsL ns) []) (L1 := [(2, .pointer (some ⟨b2, 0, none⟩))]) zz10 (fun w h => h) ?_
   refine ex_block <| ex_then <| wpc_seq <| wpc_region <| wpl_q (q_ld Tryz.underlying58 rfl rfl rfl) rfl <| wpl_q (q_pure rfl) rfl <| wpl_nil <| ex_then <| wpc_ret ?_
   refine ex_markN (.inl rfl) .here ?_
   refine ret1 (.inl rfl) rfl rfl ?_
   exact fun w1 h => ⟨(v, ns), ⟨hg1, hg2⟩, rfl, h.below, (h.sub (M' := rowsL v ns) (.drop rowsL_sub) .nil).made (Sub.refl _) .nil⟩
  ·
   intro D r hr; exact hr.elim
end Go.Proofs.YtgnablliekgbgaaGreatDoor
namespace Go.Proofs.YtgnablliekgbgaaGreatDoor
open Go Go.PL Go.RowKit
def seqF (v : Value) (ns : List HT) : Fact := ⟨fun r => Seen r v ns.length 3 (hcs ns) ∧ HSeenL r ns, fun _ _ hr h => ⟨h.1.mono hr, HSeenL_iff.2 fun x hx => (HSeenL_iff.1 h.2 x hx).mono hr⟩⟩
theorem seqF_at {w0 w : World} {Ln : List Nat} {M : List Ent} {S : List Fact} (h : Mem w0 Ln M S w) {v : Value} {ns : List HT} (hs : seqF v ns ∈ S) : Seen w.cell? v ns.length 3 (hcs ns) ∧ HSeenL w.cell? ns := h.fact hs
theorem new_freezeL {B : World} {w : World} {v : Value} {ns : List HT} (h : Mem B [] (rowsL v ns) [] w) : New B.heap.size [] [seqF v ns] w := by
  have h1 : Mem B [] [] ((rowsL v ns).map rowFact ++ []) w := Mem.freezeRows (rowsL v ns) rowsL_rows (by rw [List.append_nil]; exact h)
  refine (h1.imp (T := [seqF v ns]) fun r hs f hf => ?_).made .nil (Sub.refl _)
  rw [List.mem_singleton] at hf
  subst hf
  refine ⟨hs _ (List.mem_append_left _ (List.mem_cons_self ..)), HSeenL_iff.2 fun x hx => hseen_rows x fun e he => hs _ (List.mem_append_left _ (List.mem_map_of_mem (List.mem_cons_of_mem _ (mem_entsL hx he))))⟩
theorem frzL {P : Program} {k : FuncId} {vs : Array Value} {w : World} {p : Value × List HT → Prop} (h : Calls P k vs w (GivesP w p (fun s => s.1) (fun s => rowsL s.1 s.2) (fun _ => []))) : Calls P k vs w (GivesP w p (fun s => s.1) (fun _ => []) (fun s => [seqF s.1 s.2])) := by
  refine h.mono ?_
  rintro e w' ⟨y, hp, rfl, hb, hn⟩
  have hm := (Mem.start w).call hb hn
  rw [List.append_nil, List.append_nil] at hm
  exact ⟨y, hp, rfl, hb, new_freezeL hm⟩
theorem collect (pp : Nat) (sv : Value) (ss : List UInt64) (w : World)  (hss : ss.length ≤ 520) (hI : InvS pp sv ss w) :
    Calls Tryz.prog 56 [.func (.func 86) #[] #[.pointer (some ⟨pp, 0, none⟩)]].toArray w (GivesP w (fun s : Value × List HT => trs s.2 = sersT ss ∧ SV s.1 s.2.length) (fun s => s.1) (fun _ => []) (fun s => [seqF s.1 s.2])) := by
  refine enter (m := 5) (R := Mem w [] [] []) Tryz.func56 rfl rfl (Nat.le_of_ble_eq_true rfl) (Mem.start w) ?_
  refine wpc_seq <| wpc_region <| wpl_q (q_pure rfl) rfl <| wpl_nil <| ex_then <| wpc_seq <| wpc_region <| wpl_q (q_pure rfl) rfl ?_
  refine wpl_tp (t_callPT Tryz.hb85 rfl fun w h => frzL (appendSeq pp sv ss w hss ⟨h.at_old hI.1, h.seen_old hI.2⟩)) rfl (fun b4 p4 => ?_)
  refine wpl_q (q_pure rfl) rfl <| wpl_nil <| ex_then <| wpc_ret ?_
  refine ret1 (.inl rfl) rfl rfl ?_
  exact fun w1 h => ⟨b4, p4, rfl, h.below, h.made .nil SubC.h⟩
theorem rvBody (l : Rv) (w : World) (hl : l.seen w.cell?) (hnl : l.nm.length ≤ maxLen) (hss : l.ss.length ≤ 520) (hnm : l.nm.length ≤ 500) :
    Calls Tryz.prog 29 [.agg l.c.toArray].toArray w (GivesP w (fun y : HT => y.tr = bodyT l ∧ y.sv) (fun y => .agg y.c.toArray) (fun _ => []) (fun y => [Go.Proofs.YtgnablliekgbgaaGreatDoor.hseen y])) := by
  haveI := hl.svs.one
  have lss := hl.s.sv.le
  have lcs := hl.c.sv.le
  have lps := hl.p.sv.le
  have sss := hl.s.sv
  have scs := hl.c.sv
  have sps := hl.p.sv
  simp only [maxLen] at lss lcs lps
  refine enter (m := 26) (R := Mem w [] [] []) Tryz.func29 rfl rfl (Nat.le_of_ble_eq_true rfl) (Mem.start w) ?_
  refine wpc_seq <| wpc_region ?_
  refine wpl_t (t_box rfl l.c rfl) rfl (fun b1 => ?_)
  refine wpl_t (t_alloc Tryz.ti60 [.int .u8 0, nl, nl] rfl) rfl (fun b2 => ?_)
  refine wpl_nil <| ex_then <| wpc_seq ?_
  refine wpc_draw 23 zz8 (fun _ h => h.drew) ?_
  refine wpd_p 0 rfl zz8 trivial (q_field Tryz.underlying30 rfl Tryz.ti9 rfl rfl _ rfl) rfl sk0 ?_
  refine wpd_q 1 rfl zz8 trivial (q_ld Tryz.underlying9 rfl rfl (show l.c[0]? = some (str l.nm) from rfl)) rfl (fun _ h => h) ?_
  refine wpd_p 3 rfl zz8 trivial (q_field Tryz.underlying30 rfl Tryz.ti22 rfl rfl _ rfl) rfl sk0 ?_
  refine wpd_q 4 rfl zz8 trivial (q_ld Tryz.underlying22 rfl rfl (show l.c[1]? = some (.int .u64 (l.no.toNat : Int)) from rfl)) rfl (fun _ h => h) ?_
  refine wpd_p 6 rfl zz8 trivial (q_field Tryz.underlying30 rfl Tryz.ti24 rfl rfl _ rfl) rfl sk0 ?_
  refine wpd_p 7 rfl zz8 trivial (q_field Tryz.underlying24 rfl Tryz.ti2 rfl rfl _ rfl) rfl sk0 ?_
  refine wpd_q 8 rfl zz8 trivial (q_ld Tryz.underlying2 rfl rfl (show l.c[2]? = some (.int .i64 l.fr) from rfl)) rfl (fun _ h => h) ?_
  refine wpd_p 9 rfl zz8 trivial (q64_conv Tryz.underlying2 Tryz.underlying22 rfl) rfl sk0 ?_
  refine wpd_p 11 rfl zz8 trivial (q_field Tryz.underlying30 rfl Tryz.ti24 rfl rfl _ rfl) rfl sk0 ?_
  refine wpd_p 12 rfl zz8 trivial (q_field Tryz.underlying24 rfl Tryz.ti2 rfl rfl _ rfl) rfl sk0 ?_
  refine wpd_q 13 rfl zz8 trivial (q_ld Tryz.underlying2 rfl rfl (show l.c[3]? = some (.int .i64 l.tt) from rfl)) rfl (fun _ h => h) ?_
  refine wpd_p 14 rfl zz8 trivial (q64_conv Tryz.underlying2 Tryz.underlying22 rfl) rfl sk0 ?_
  refine wpd_p 16 rfl zz8 trivial (q_field Tryz.underlying30 rfl Tryz.ti25 rfl rfl _ rfl) rfl sk0 ?_
  refine wpd_q 17 rfl zz8 trivial (q_ld Tryz.underlying25 rfl rfl (show l.c[4]? = some (l.sv) from rfl)) rfl (fun _ h => h) ?_
  refine wpd_tp 2 rfl zz8 trivial (t_callPT Tryz.hb54 rfl fun w h => octStr 1 l.nm w hnl) rfl (fun _ => (fun w h => .inr (h.sub SubC.h SubC.h))) (fun b5 p5 => ?_)
  haveI := p5.2.one
  refine wpd_tp 5 rfl zz8 trivial (t_callPT Tryz.hb55 rfl fun w h => frz (octNum 2 l.no w)) rfl (fun _ => (fun w h => .inr (h.sub SubC.h SubC.h))) (fun b8 p8 => ?_)
  haveI := p8.2.one
  refine wpd_tp 10 rfl zz8 trivial (t_callPT Tryz.hb55 rfl fun w h => frz (octNum 3 (of64 l.fr) w)) rfl (fun _ => (fun w h => .inr (h.sub SubC.h SubC.h))) (fun b13 p13 => ?_)
  haveI := p13.2.one
  refine wpd_tp 15 rfl zz8 trivial (t_callPT Tryz.hb55 rfl fun w h => frz (octNum 4 (of64 l.tt) w)) rfl (fun _ => (fun w h => .inr (h.sub SubC.h SubC.h))) (fun b18 p18 => ?_)
  haveI := p18.2.one
  refine wpd_tp 18 rfl zz8 trivial (t_callP1 Tryz.hb57 rfl fun w h => serials l.sv l.ss.length w hl.s.sv) rfl (fun _ => (fun w h => .inr (h.sub SubC.h SubC.h))) (fun b21 p21 => ?_)
  refine wpd_tp 19 rfl zz8 trivial (t_callPT Tryz.hb56 rfl fun w h => collect b21 l.sv l.ss w hss ⟨h.cells_blk (t := 25) zz7, h.seen_old hl.s⟩) rfl (fun _ => (fun w h => .inr (h.sub SubC.h SubC.h))) (fun b22 p22 => ?_)
  obtain ⟨nv, ns⟩ := b22
  obtain ⟨p22a, p22b⟩ := p22
  dsimp only at p22a p22b ⊢
  refine wpd_tp 20 rfl zz8 trivial (t_callPT Tryz.hb53 rfl fun w h => frz (octSeq 129 nv ns w (seqF_at h zz7).1 (seqF_at h zz7).2 (by rw [p22a]; exact sm_list hss))) rfl (fun _ => (fun w h => .inr (h.sub SubC.h SubC.h))) (fun b23 p23 => ?_)
  haveI := p23.2.one
  refine wpd_tp 21 rfl zz8 trivial (t_bsG [.agg b5.c.toArray, .agg b8.c.toArray, .agg b13.c.toArray, .agg b18.c.toArray, .agg b23.c.toArray] (hcs [b5, b8, b13, b18, b23]) Tryz.underlying58 Tryz.ti60 rfl zz22 rfl zz22 zz22 rfl (by intro v hv; simp only [List.mem_cons, List.not_mem_nil, or_false] at hv; rcases hv with rfl | rfl | rfl | rfl | rfl <;> first | exact HT.c_length _ | rfl) rfl) rfl (fun _ => (fun w h => .inr (h.sub SubC.h SubC.h))) (fun b24 p24 => ?_)
  have htr : Tr.nd 134 [] (trs [b5, b8, b13, b18, b23]) = bodyT l := by
    show Tr.nd 134 [] [b5.tr, b8.tr, b13.tr, b18.tr, b23.tr] = _
    rw [p5.1, p8.1, p13.1, p18.1, p23.1, p22a]; rfl
  have hsm : Sm (Tr.nd 134 [] (trs [b5, b8, b13, b18, b23])) := by rw [htr]; exact sm_body hss hnm
  refine wpd_tp 22 rfl zz8 trivial (t_callPT Tryz.hb53 rfl fun w h => frz (octSeq 134 b24 [b5, b8, b13, b18, b23] w (h.seen_row zz7) ⟨Mem.hseenF h zz7, Mem.hseenF h zz7, Mem.hseenF h zz7, Mem.hseenF h zz7, Mem.hseenF h zz7, trivial⟩ hsm)) rfl (fun _ => (fun w h => .inr (h.sub SubC.h SubC.h))) (fun b25 p25 => ?_)
  haveI := p25.2.one
  refine wpd_t0 23 rfl zz8 trivial (t_stA Tryz.ti60 rfl rfl LenC.h OneC.h LenC.h) (fun _ => skk rfl) (fun _ => ?_)
  refine wpd_done zz8 ?_
  refine ex_then <| wpc_ret ?_
  refine retv1 (.inl rfl) rfl (rv_agg Tryz.underlying60 rfl Tryz.ti60 rfl (fun w h => h.atB) LenC.h) ?_
  exact fun w1 h => ⟨b25, ⟨p25.1.trans htr, p25.2⟩, rfl, h.below, h.made .nil SubC.h⟩
end Go.Proofs.YtgnablliekgbgaaGreatDoor
namespace Go.Proofs.YtgnablliekgbgaaGreatDoor
open Go Go.PL Go.RowKit
theorem shpL_ser : ∀ (ss : List UInt64), shpL (sersT ss) = true
  | [] => rfl
  | s :: ss => by
    show ((!badT 5 (numB s.toNat).length 0 && true) && shpL (sersT ss)) = true
    rw [shpL_ser ss]; simp [badT]
theorem depL_ser : ∀ (ss : List UInt64), depL (sersT ss) ≤ 1
  | [] => Nat.zero_le _
  | s :: ss => by
    have := depL_ser ss
    show max 1 (depL (sersT ss)) ≤ 1
    omega
theorem body_shp (l : Rv) : (bodyT l).shp = true := by
  have h := shpL_ser l.ss
  show ((!badT 134 0 5 && ((!badT 1 l.nm.length 0 && true) && ((!badT 2 (numB l.no.toNat).length 0 && true) && ((!badT 3 (numB (of64 l.fr).toNat).length 0 && true) && ((!badT 4 (numB (of64 l.tt).toNat).length 0 && true) && ((!badT 129 0 (sersT l.ss).length && shpL (sersT l.ss)) && true))))))) = true
  rw [h]; simp [badT]
theorem body_dep (l : Rv) : (bodyT l).dep ≤ 3 := by
  have h := depL_ser l.ss
  show max 1 (max 1 (max 1 (max 1 (max (depL (sersT l.ss) + 1) 0)))) + 1 ≤ 3
  omega
theorem body_cnt (l : Rv) : (bodyT l).cnt = 6 + l.ss.length := by
  show 1 + (1 + 0 + (1 + 0 + (1 + 0 + (1 + 0 + (1 + cntL (sersT l.ss) + 0))))) = _
  rw [cntL_ser]; omega
theorem body_byt {l : Rv} (h2 : l.nm.length ≤ 500) : (bodyT l).byt ≤ 524 + 8 * l.ss.length := by
  have h3 := bytL_ser l.ss
  have h4 := numB_le l.no.toNat l.no.toNat_lt
  have h5 := numB_le (of64 l.fr).toNat (of64 l.fr).toNat_lt
  have h6 := numB_le (of64 l.tt).toNat (of64 l.tt).toNat_lt
  show 0 + (l.nm.length + 0 + ((numB l.no.toNat).length + 0 + ((numB (of64 l.fr).toNat).length + 0 + ((numB (of64 l.tt).toNat).length + 0 + (0 + bytL (sersT l.ss) + 0))))) ≤ _
  omega
theorem chk_tree {t : Tr} (h1 : t.cnt ≤ 4000) (h2 : t.dep ≤ 12) (h3 : t.shp = true) (h4 : t.byt + 5 * t.cnt ≤ 65536) : checkF t = 0 := by
  have h5 := siz_le t (show t.byt + 5 * t.cnt ≤ 1000000 from zz16)
  unfold checkF
  rw [if_neg zz16, if_neg (by simp [h3]), if_neg zz16]
theorem encF_k0 {t : Tr} (h : checkF t = 0) : encF t = (enc t, 0) := if_pos h
theorem chk_body {l : Rv} (h : chkR l = 0) (h2 : l.nm.length ≤ 500) : checkF (bodyT l) = 0 := by
  have h3 := (chk_inv h).1
  have h4 := body_byt h2
  have h5 := body_cnt l
  have h6 := body_dep l
  exact chk_tree zz16 zz16 (body_shp l) zz16
def bdyB (l : Rv) : List UInt8 := if chkR l = 0 then enc (bodyT l) else []
theorem bdy_ok {l : Rv} (h : chkR l = 0) : bdyB l = enc (bodyT l) := if_pos h
theorem bdy_no {l : Rv} (h : chkR l ≠ 0) : bdyB l = [] := if_neg h
theorem octEnc_ok {t : HT} {T : Tr} (w : World) (ht : HSeen w.cell? t) (hsm : Sm T) (hd : T.dep ≤ 12) (hc : checkF T = 0) (e : t.tr = T) : Calls Tryz.prog 28 [.agg t.c.toArray].toArray w (GivesP w (fun v : Value => SV v (enc T).length) (fun v => .tuple #[v, .int .i64 0]) (fun v => [.row v (enc T).length 5 1 (v8s (enc T))]) (fun _ => [])) := by
  subst e
  have q := octEncode t w ht hsm zz16
  rw [encF_k0 hc] at q
  exact q
theorem refPut_ok {t : HT} {T : Tr} (w : World) (ht : HSeen w.cell? t) (hsm : Sm T) (e : t.tr = T) : Calls Tryz.prog 19 [.agg t.c.toArray].toArray w (GivesP w (fun v : Value => SV v (enc T).length) (fun v => v) (fun v => [.row v (enc T).length 5 1 (v8s (enc T))]) (fun _ => [])) := by
  subst e
  exact refPut t w ht hsm
theorem rvBodyB (l : Rv) (w : World) (hl : l.seen w.cell?) (hnl : l.nm.length ≤ maxLen) (hss : l.ss.length ≤ 520) (hnm : l.nm.length ≤ 500) :
    Calls Tryz.prog 15 [.agg l.c.toArray].toArray w (GivesP w (fun v : Value => SV v (bdyB l).length) (fun v => .tuple #[v, .int .i64 (chkR l)]) (fun v => [.row v (bdyB l).length 5 1 (v8s (bdyB l))]) (fun _ => [])) := by
  haveI := hl.svs.one
  have lss := hl.s.sv.le
  have lcs := hl.c.sv.le
  have lps := hl.p.sv.le
  have sss := hl.s.sv
  have scs := hl.c.sv
  have sps := hl.p.sv
  simp only [maxLen] at lss lcs lps
  refine enter (m := 15) (R := Mem w [] [] []) Tryz.func15 rfl rfl (Nat.le_of_ble_eq_true rfl) (Mem.start w) ?_
  refine wpc_seq <| wpc_region ?_
  refine wpl_t (t_box rfl l.c rfl) rfl (fun b1 => ?_)
  refine wpl_q (q_pure rfl) rfl <| wpl_q (q_pure rfl) rfl <| wpl_nil <| ex_then <| wpc_seq <| wpc_seq <| wpc_region <| wpl_q (q_ldN Tryz.underlying30 rfl Tryz.ti30 rfl LenC.h) rfl ?_
  refine wpl_t (t_pur Tryz.hb27 rfl fun w h => rvCheck l w (hl.old h rfl) hnl) rfl (fun b6 => ?_)
  refine wpl_q (q_pure rfl) rfl <| wpl_nil <| ex_then <| wpc_seq <| wpc_region <| wpl_q (q_pure rfl) rfl <| wpl_q (q_pure rfl) rfl <| wpl_nil <| ex_then ?_
  refine wpc_cond rfl (fun hc8 => ?_) (fun hc8 => ?_)
  ·
   have hN : ¬ chkR l = 0 := by simpa using hc8
   refine wpc_seq <| wpc_region <| wpl_q (q_pure rfl) rfl <| wpl_q (q_pure rfl) rfl <| wpl_q (q_pure rfl) rfl <| wpl_nil <| ex_then <| wpc_ret ?_
   refine ex_then_ret ?_
   refine ret2 (.inl rfl) rfl rfl rfl ?_
   exact fun w1 h => ⟨nl, by rw [bdy_no hN]; exact SV.nil, rfl, h.below, by rw [bdy_no hN]; exact (show Mem w [] [.row nl 0 5 1 []] [] w1 from (h.nilRow 5 1).sel).made (Sub.refl _) .nil⟩
  ·
   have hZ : chkR l = 0 := by simpa using hc8
   refine wpc_skip <| ex_then <| wpc_seq <| wpc_region <| wpl_q (q_ldN Tryz.underlying30 rfl Tryz.ti30 rfl LenC.h) rfl ?_
   refine wpl_tp (t_callPT Tryz.hb29 rfl fun w h => rvBody l w (hl.old h rfl) hnl hss hnm) rfl (fun b11 p11 => ?_)
   haveI := p11.2.one
   refine wpl_tp (t_callP1 Tryz.hb28 rfl fun w h => octEnc_ok w (Mem.hseenF h zz7) (sm_body hss hnm) (by have := body_dep l; omega) (chk_body hZ hnm) p11.1) rfl (fun b12 p12 => ?_)
   refine wpl_q (q_pure rfl) rfl <| wpl_q (q_pure rfl) rfl <| wpl_q (q_pure rfl) rfl <| wpl_q (q_pure rfl) rfl <| wpl_nil <| ex_then <| wpc_ret ?_
   refine ret2 (.inl rfl) rfl rfl rfl ?_
   exact fun w1 h => ⟨b12, by rw [bdy_ok hZ]; exact p12, by first | (rw [hZ]; done) | (rw [hZ]; rfl), h.below, by rw [bdy_ok hZ]; exact h.made SubC.h .nil⟩
end Go.Proofs.YtgnablliekgbgaaGreatDoor
namespace Go.Proofs.YtgnablliekgbgaaGreatDoor
open Go Go.PL Go.RowKit
structure RLim (l : Rv) : Prop where
  nm : l.nm.length ≤ 500
  ss : l.ss.length ≤ 520
  c : l.chs.length ≤ 60
  p : l.ps.length ≤ 60
end Go.Proofs.YtgnablliekgbgaaGreatDoor
namespace Go.Proofs.YtgnablliekgbgaaGreatDoor
open Go Go.PL Go.RowKit
def rotlF (x : UInt32) (k : Int) : UInt32 :=
  sl32 x (((of64 k &&& 31).toNat : Nat) : Int).toNat ||| sr32 x (((32 - (of64 k &&& 31)).toNat : Nat) : Int).toNat
theorem rotl (x : UInt32) (k : Int) (w : World) :
    Calls Tryz.prog 111 [.int .u32 x.toNat, .int .i64 k].toArray w (Pur w (.int .u32 (rotlF x k).toNat)) := by
  refine enter (m := 17) (R := Mem w [] [] []) Tryz.func111 rfl rfl (Nat.le_of_ble_eq_true rfl) (Mem.start w) ?_
  refine wpc_seq <| wpc_region <| wpl_q (q_pure rfl) rfl <| wpl_nil <| ex_then <| wpc_seq <| wpc_region <| wpl_q (q_pure rfl) rfl <| wpl_q (q64_conv Tryz.underlying3 Tryz.underlying119 rfl) rfl ?_
  refine wpl_q (q64_and (b := (31 : UInt64)) rfl rfl) rfl ?_
  refine wpl_q (q_pure rfl) rfl <| wpl_nil <| ex_then <| wpc_seq <| wpc_region <| wpl_q (q_pure rfl) rfl <| wpl_q (q_pure rfl) rfl ?_
  refine wpl_q (q32_shl rfl rfl zz26 _ rfl) rfl ?_
  refine wpl_q (q_pure rfl) rfl <| wpl_q (q_pure rfl) rfl ?_
  refine wpl_q (q64_sub (a := (32 : UInt64)) rfl rfl) rfl ?_
  refine wpl_q (q32_shr rfl rfl zz26 _ rfl) rfl ?_
  refine wpl_q (q32_or rfl rfl) rfl <| wpl_q (q_pure rfl) rfl <| wpl_nil <| ex_then <| wpc_ret ?_
  refine ret1 (.inl rfl) rfl rfl ?_
  exact fun w h => ⟨rfl, h.below⟩
theorem turn (x : UInt32) (k : Int) (h0 : -64 ≤ k) (h1 : k ≤ 64) (w : World) :
    Calls Tryz.prog 109 [.int .u32 x.toNat, .int .i64 k].toArray w (Pur w (.int .u32 (rotlF x (-k)).toNat)) := by
  refine enter (m := 9) (R := Mem w [] [] []) Tryz.func109 rfl rfl (Nat.le_of_ble_eq_true rfl) (Mem.start w) ?_
  refine wpc_seq <| wpc_region <| wpl_q (q_pure rfl) rfl <| wpl_nil <| ex_then <| wpc_seq <| wpc_region <| wpl_q (q_pure rfl) rfl <| wpl_q (q_pure rfl) rfl ?_
  first | refine wpl_q (qop_eq (q_pure rfl) (congrArg (Value.int .i64) (wk_i64 zz16 zz16))) rfl ?_ | refine wpl_q (q_pure rfl) rfl ?_
  refine wpl_t (t_pur Tryz.hb111 rfl fun w h => rotl _ _ _) rfl ?_
  intro b8
  refine wpl_q (q_pure rfl) rfl <| wpl_nil <| ex_then <| wpc_ret ?_
  refine ret1 (.inl rfl) rfl rfl ?_
  exact fun w h => ⟨rfl, h.below⟩
end Go.Proofs.YtgnablliekgbgaaGreatDoor
namespace Go.Proofs.YtgnablliekgbgaaGreatDoor
open Go Go.PL Go.RowKit
def wordF (bs : List UInt8) (i : Nat) : UInt32 :=
  sl32 (of32 (bs.getD (4 * i) 0).toNat) 24 ||| sl32 (of32 (bs.getD (4 * i + 1) 0).toNat) 16 ||| sl32 (of32 (bs.getD (4 * i + 2) 0).toNat) 8 ||| of32 (bs.getD (4 * i + 3) 0).toNat
def mixF (ws : List UInt32) (i : Nat) : UInt32 :=
  (rotlF (ws.getD (i - 2) 0) (-17) ^^^ rotlF (ws.getD (i - 2) 0) (-19) ^^^ sr32 (ws.getD (i - 2) 0) 10) + ws.getD (i - 7) 0 + (rotlF (ws.getD (i - 15) 0) (-7) ^^^ rotlF (ws.getD (i - 15) 0) (-18) ^^^ sr32 (ws.getD (i - 15) 0) 3) + ws.getD (i - 16) 0
def wsF (bs : List UInt8) : Nat → List UInt32
  | 0 => []
  | i + 1 => wsF bs i ++ [if i < 16 then wordF bs i else mixF (wsF bs i) i]
theorem wsF_length (bs : List UInt8) : ∀ i, (wsF bs i).length = i
  | 0 => rfl
  | i + 1 => by simp [wsF, wsF_length bs i]
def stF (bs : List UInt8) (i : Nat) : List UInt32 := wsF bs i ++ List.replicate (64 - i) 0
theorem stF_length (bs : List UInt8) (i : Nat) (h : i ≤ 64) : (stF bs i).length = 64 := by simp [stF, wsF_length]; omega
theorem stF_get (bs : List UInt8) (i j : Nat) (h : j < i) : (stF bs i).getD j 0 = (wsF bs i).getD j 0 := by
  simp only [stF, List.getD_eq_getElem?_getD]; rw [List.getElem?_append_left (by rw [wsF_length]; exact h)]
theorem stF_set (bs : List UInt8) (i : Nat) (h : i < 64) (x : UInt32) (hx : x = if i < 16 then wordF bs i else mixF (wsF bs i) i) : (stF bs i).set i x = stF bs (i + 1) := by
  subst hx
  have e : List.replicate (64 - i) (0 : UInt32) = 0 :: List.replicate (64 - (i + 1)) 0 := by
    rw [show 64 - i = (64 - (i + 1)) + 1 from zz16, List.replicate_succ]
  simp only [stF, e, wsF]
  rw [List.set_append_right _ _ (by rw [wsF_length]; exact Nat.le_refl _), wsF_length, Nat.sub_self]
  simp
theorem mix_st (bs : List UInt8) (i : Nat) (h : 16 ≤ i) : mixF (stF bs i) i = mixF (wsF bs i) i := by
  unfold mixF
  rw [stF_get _ _ _ zz16, stF_get _ _ _ zz16, stF_get _ _ _ zz16, stF_get _ _ _ zz16]
theorem word (bs : List UInt8) (hl : bs.length = 64) (bb i : Nat) (hi : i < 16) (w : World) (hb : CellsAt w.cell? ⟨bb, 0, none⟩ (v8s bs)) :
    Calls Tryz.prog 110 [.pointer (some ⟨bb, 0, none⟩), .int .i64 i].toArray w (Pur w (.int .u32 (wordF bs i).toNat)) := by
  refine enter (m := 42) (R := Mem w [] [] []) Tryz.func110 rfl rfl (Nat.le_of_ble_eq_true rfl) (Mem.start w) ?_
  refine wpc_seq <| wpc_region <| wpl_q (q_pure rfl) rfl <| wpl_nil <| ex_then <| wpc_seq ?_
  refine wpc_draw 38 zz8 (fun _ h => h.drew) ?_
  refine wpd_p 0 rfl zz8 trivial (q_pure rfl) rfl sk0 ?_
  refine wpd_p 1 rfl zz8 trivial (q_pure rfl) rfl sk0 ?_
  first | refine wpd_p 2 rfl zz8 trivial (qop_eq (q_pure rfl) (congrArg (Value.int .i64) (wk_i64 zz16 zz16))) rfl sk0 ?_ | refine wpd_p 2 rfl zz8 trivial (q_pure rfl) rfl sk0 ?_
  refine wpd_p 3 rfl zz8 trivial (q_pure rfl) rfl sk0 ?_
  refine wpd_p 4 rfl zz8 trivial (q_idxA Tryz.underlying145 Tryz.ti5 rfl rfl zz16 zz16 (4 * i) zz16) rfl sk0 ?_
  refine wpd_q 5 rfl zz8 trivial (q_load1 Tryz.underlying5 rfl rfl (fun w h => h.cell_old (hb.at_ (v8s_get zz16)))) rfl (fun _ h => h) ?_
  refine wpd_p 6 rfl zz8 trivial (q32_conv Tryz.underlying5 Tryz.underlying131 rfl) rfl sk0 ?_
  refine wpd_p 7 rfl zz8 trivial (q32_shl rfl rfl zz26 _ rfl) rfl sk0 ?_
  refine wpd_p 8 rfl zz8 trivial (q_pure rfl) rfl sk0 ?_
  refine wpd_p 9 rfl zz8 trivial (q_pure rfl) rfl sk0 ?_
  first | refine wpd_p 10 rfl zz8 trivial (qop_eq (q_pure rfl) (congrArg (Value.int .i64) (wk_i64 zz16 zz16))) rfl sk0 ?_ | refine wpd_p 10 rfl zz8 trivial (q_pure rfl) rfl sk0 ?_
  first | refine wpd_p 11 rfl zz8 trivial (qop_eq (q_pure rfl) (congrArg (Value.int .i64) (wk_i64 zz16 zz16))) rfl sk0 ?_ | refine wpd_p 11 rfl zz8 trivial (q_pure rfl) rfl sk0 ?_
  refine wpd_p 12 rfl zz8 trivial (q_pure rfl) rfl sk0 ?_
  refine wpd_p 13 rfl zz8 trivial (q_idxA Tryz.underlying145 Tryz.ti5 rfl rfl zz16 zz16 (4 * i + 1) zz16) rfl sk0 ?_
  refine wpd_q 14 rfl zz8 trivial (q_load1 Tryz.underlying5 rfl rfl (fun w h => h.cell_old (hb.at_ (v8s_get zz16)))) rfl (fun _ h => h) ?_
  refine wpd_p 15 rfl zz8 trivial (q32_conv Tryz.underlying5 Tryz.underlying131 rfl) rfl sk0 ?_
  refine wpd_p 16 rfl zz8 trivial (q32_shl rfl rfl zz26 _ rfl) rfl sk0 ?_
  refine wpd_p 17 rfl zz8 trivial (q32_or rfl rfl) rfl sk0 ?_
  refine wpd_p 18 rfl zz8 trivial (q_pure rfl) rfl sk0 ?_
  refine wpd_p 19 rfl zz8 trivial (q_pure rfl) rfl sk0 ?_
  first | refine wpd_p 20 rfl zz8 trivial (qop_eq (q_pure rfl) (congrArg (Value.int .i64) (wk_i64 zz16 zz16))) rfl sk0 ?_ | refine wpd_p 20 rfl zz8 trivial (q_pure rfl) rfl sk0 ?_
  first | refine wpd_p 21 rfl zz8 trivial (qop_eq (q_pure rfl) (congrArg (Value.int .i64) (wk_i64 zz16 zz16))) rfl sk0 ?_ | refine wpd_p 21 rfl zz8 trivial (q_pure rfl) rfl sk0 ?_
  refine wpd_p 22 rfl zz8 trivial (q_pure rfl) rfl sk0 ?_
  refine wpd_p 23 rfl zz8 trivial (q_idxA Tryz.underlying145 Tryz.ti5 rfl rfl zz16 zz16 (4 * i + 2) zz16) rfl sk0 ?_
  refine wpd_q 24 rfl zz8 trivial (q_load1 Tryz.underlying5 rfl rfl (fun w h => h.cell_old (hb.at_ (v8s_get zz16)))) rfl (fun _ h => h) ?_
  refine wpd_p 25 rfl zz8 trivial (q32_conv Tryz.underlying5 Tryz.underlying131 rfl) rfl sk0 ?_
  refine wpd_p 26 rfl zz8 trivial (q32_shl rfl rfl zz26 _ rfl) rfl sk0 ?_
  refine wpd_p 27 rfl zz8 trivial (q32_or rfl rfl) rfl sk0 ?_
  refine wpd_p 28 rfl zz8 trivial (q_pure rfl) rfl sk0 ?_
  refine wpd_p 29 rfl zz8 trivial (q_pure rfl) rfl sk0 ?_
  first | refine wpd_p 30 rfl zz8 trivial (qop_eq (q_pure rfl) (congrArg (Value.int .i64) (wk_i64 zz16 zz16))) rfl sk0 ?_ | refine wpd_p 30 rfl zz8 trivial (q_pure rfl) rfl sk0 ?_
  first | refine wpd_p 31 rfl zz8 trivial (qop_eq (q_pure rfl) (congrArg (Value.int .i64) (wk_i64 zz16 zz16))) rfl sk0 ?_ | refine wpd_p 31 rfl zz8 trivial (q_pure rfl) rfl sk0 ?_
  refine wpd_p 32 rfl zz8 trivial (q_pure rfl) rfl sk0 ?_
  refine wpd_p 33 rfl zz8 trivial (q_idxA Tryz.underlying145 Tryz.ti5 rfl rfl zz16 zz16 (4 * i + 3) zz16) rfl sk0 ?_
  refine wpd_q 34 rfl zz8 trivial (q_load1 Tryz.underlying5 rfl rfl (fun w h => h.cell_old (hb.at_ (v8s_get zz16)))) rfl (fun _ h => h) ?_
  refine wpd_p 35 rfl zz8 trivial (q32_conv Tryz.underlying5 Tryz.underlying131 rfl) rfl sk0 ?_
  refine wpd_p 36 rfl zz8 trivial (q32_or rfl rfl) rfl sk0 ?_
  refine wpd_p 37 rfl zz8 trivial (q_pure rfl) rfl sk0 ?_
  refine wpd_done zz8 ?_
  refine ex_then <| wpc_ret ?_
  refine ret1 (.inl rfl) rfl rfl ?_
  exact fun w h => ⟨rfl, h.below⟩
theorem schedule (bs : List UInt8) (hl : bs.length = 64) (bb : Nat) (w : World) (hb : CellsAt w.cell? ⟨bb, 0, none⟩ (v8s bs)) :
    Calls Tryz.prog 108 [.pointer (some ⟨bb, 0, none⟩)].toArray w (Pur w (.agg (v32s (wsF bs 64)).toArray)) := by
  refine enter (m := 56) (R := Mem w [] [] []) Tryz.func108 rfl rfl (Nat.le_of_ble_eq_true rfl) (Mem.start w) ?_
  refine wpc_seq <| wpc_region ?_
  refine wpl_t (t_alloc Tryz.ti139 (v32s (List.replicate 64 0)) (by rfl)) rfl ?_
  intro b2
  refine wpl_nil <| ex_then <| wpc_seq <| wpc_region ?_
  refine wpl_t (t_alloc Tryz.ti139 (v32s (stF bs 0)) (by rfl)) rfl ?_
  intro b3
  refine wpl_nil <| ex_then <| wpc_seq <| wpc_seq <| wpc_region <| wpl_q (q_pure rfl) rfl <| wpl_nil <| ex_then <| wpc_block ?_
  refine wpc_loop (ι := { i : Nat // i ≤ 64 }) (fun i => [(7, .int .i64 (i.1 : Nat)), (3, .pointer (some ⟨b3, 0, none⟩)), (2, .pointer (some ⟨b2, 0, none⟩)), (0, .pointer (some ⟨bb, 0, none⟩))]) (fun i => Mem w [] [.blk b3 139 (v32s (stF bs i.1)), .blk b2 139 (v32s (List.replicate 64 0))] []) (fun i => 64 - i.1) ⟨0, zz16⟩ ?_ ?_ ?_
  · exact by repeat (first | exact trivial | refine ⟨rfl, ?_⟩)
  · exact fun w h => h
  · rintro ⟨i, hi⟩; dsimp only
    have hsl := stF_length bs i hi
    refine wpc_seq <| wpc_region <| wpl_q (q_pure rfl) rfl <| wpl_nil <| ex_then <| wpc_seq ?_
    refine wpc_cond rfl (fun hc8 => ?_) (fun hc8 => ?_)
    ·
      simp only [decide_eq_true_eq, decide_eq_false_iff_not, Bool.and_eq_true, Bool.or_eq_true, beq_iff_eq, bne_iff_ne, ne_eq] at hc8
      refine wpc_skip <| ex_then <| wpc_seq <| wpc_block <| wpc_seq <| wpc_region <| wpl_q (q_pure rfl) rfl <| wpl_q (q_pure rfl) rfl <| wpl_nil <| ex_then <| wpc_seq <| wpc_seq ?_
      refine wpc_region <| wpl_q (q_pure rfl) rfl <| wpl_q (q_pure rfl) rfl <| wpl_nil <| ex_then ?_
      refine wpc_cond rfl (fun hc11 => ?_) (fun hc11 => ?_)
      ·
        simp only [decide_eq_true_eq, decide_eq_false_iff_not, Bool.and_eq_true, Bool.or_eq_true, beq_iff_eq, bne_iff_ne, ne_eq] at hc11
        refine wpc_seq <| wpc_region <| wpl_q (q_pure rfl) rfl <| wpl_q (q_pure rfl) rfl <| wpl_q (q_pure rfl) rfl ?_
        refine wpl_t (t_pur Tryz.hb110 rfl fun w' h => word bs hl bb i zz16 w' (hb.mono fun _ _ hv => h.cell_old hv)) rfl ?_
        intro b15
        refine wpl_q (q_idxA Tryz.underlying139 Tryz.ti131 rfl rfl zz16 zz16 (i) zz16) rfl ?_
        refine wpl_t0 (t_st1 Tryz.ti131 rfl rfl rfl zz37 _ (by first | exact v32s_set _ | rfl)) ?_
        intro _
        refine wpl_nil <| ex_then ?_
        refine wpc_exit ?_
        refine ex_then_exit ?_
        refine ex_block_hit ?_
        refine ex_then <| wpc_region ?_
        first | refine wpl_q (qop_eq (q_pure rfl) (congrArg (Value.int .i64) (wk_i64 zz16 zz16))) rfl ?_ | refine wpl_q (q_pure rfl) rfl ?_
        refine wpl_q (q_pure rfl) rfl <| wpl_nil ?_
        refine ex_again ⟨i + 1, zz16⟩ ?_ ?_ ?_
        · exact zz10
        · exact fun w h => by
            first
            | exact (stF_set bs i zz16 _ (by rw [if_pos zz16])) ▸ h
            | exact (stF_set bs i zz16 _ ((mix_st bs i zz16).trans (by rw [if_neg zz16]))) ▸ h
        · show 64 - (i + 1) < 64 - i; omega
      ·
        simp only [decide_eq_true_eq, decide_eq_false_iff_not, Bool.and_eq_true, Bool.or_eq_true, beq_iff_eq, bne_iff_ne, ne_eq] at hc11
        refine wpc_skip <| ex_then <| wpc_seq ?_
        refine wpc_draw 10 zz8 (fun _ h => h.drew) ?_
        refine wpd_p 0 rfl zz8 trivial (q_pure rfl) rfl sk0 ?_
        first | refine wpd_p 1 rfl zz8 trivial (qop_eq (q_pure rfl) (congrArg (Value.int .i64) (wk_i64 zz16 zz16))) rfl sk0 ?_ | refine wpd_p 1 rfl zz8 trivial (q_pure rfl) rfl sk0 ?_
        refine wpd_p 2 rfl zz8 trivial (q_idxA Tryz.underlying139 Tryz.ti131 rfl rfl zz16 zz16 (i - 15) zz16) rfl sk0 ?_
        refine wpd_q 3 rfl zz8 trivial (q_ld Tryz.underlying131 rfl rfl zz31) rfl (fun _ h => h) ?_
        refine wpd_p 4 rfl zz8 trivial (q_pure rfl) rfl sk0 ?_
        first | refine wpd_p 5 rfl zz8 trivial (qop_eq (q_pure rfl) (congrArg (Value.int .i64) (wk_i64 zz16 zz16))) rfl sk0 ?_ | refine wpd_p 5 rfl zz8 trivial (q_pure rfl) rfl sk0 ?_
        refine wpd_p 6 rfl zz8 trivial (q_idxA Tryz.underlying139 Tryz.ti131 rfl rfl zz16 zz16 (i - 2) zz16) rfl sk0 ?_
        refine wpd_q 7 rfl zz8 trivial (q_ld Tryz.underlying131 rfl rfl zz31) rfl (fun _ h => h) ?_
        refine wpd_p 8 rfl zz8 trivial (q_pure rfl) rfl sk0 ?_
        refine wpd_p 9 rfl zz8 trivial (q_pure rfl) rfl sk0 ?_
        refine wpd_done zz8 ?_
        refine ex_then ?_
        refine wpc_draw 29 zz8 (fun _ h => h.drew) ?_
        refine wpd_p 0 rfl zz8 trivial (q_pure rfl) rfl sk0 ?_
        refine wpd_p 1 rfl zz8 trivial (q_pure rfl) rfl sk0 ?_
        refine wpd_p 3 rfl zz8 trivial (q_pure rfl) rfl sk0 ?_
        refine wpd_p 6 rfl zz8 trivial (q_pure rfl) rfl sk0 ?_
        refine wpd_p 7 rfl zz8 trivial (q32_shr rfl rfl zz26 _ rfl) rfl sk0 ?_
        refine wpd_p 9 rfl zz8 trivial (q_pure rfl) rfl sk0 ?_
        first | refine wpd_p 10 rfl zz8 trivial (qop_eq (q_pure rfl) (congrArg (Value.int .i64) (wk_i64 zz16 zz16))) rfl sk0 ?_ | refine wpd_p 10 rfl zz8 trivial (q_pure rfl) rfl sk0 ?_
        refine wpd_p 11 rfl zz8 trivial (q_idxA Tryz.underlying139 Tryz.ti131 rfl rfl zz16 zz16 (i - 7) zz16) rfl sk0 ?_
        refine wpd_q 12 rfl zz8 trivial (q_ld Tryz.underlying131 rfl rfl zz31) rfl (fun _ h => h) ?_
        refine wpd_p 14 rfl zz8 trivial (q_pure rfl) rfl sk0 ?_
        refine wpd_p 16 rfl zz8 trivial (q_pure rfl) rfl sk0 ?_
        refine wpd_p 19 rfl zz8 trivial (q_pure rfl) rfl sk0 ?_
        refine wpd_p 20 rfl zz8 trivial (q32_shr rfl rfl zz26 _ rfl) rfl sk0 ?_
        refine wpd_p 23 rfl zz8 trivial (q_pure rfl) rfl sk0 ?_
        first | refine wpd_p 24 rfl zz8 trivial (qop_eq (q_pure rfl) (congrArg (Value.int .i64) (wk_i64 zz16 zz16))) rfl sk0 ?_ | refine wpd_p 24 rfl zz8 trivial (q_pure rfl) rfl sk0 ?_
        refine wpd_p 25 rfl zz8 trivial (q_idxA Tryz.underlying139 Tryz.ti131 rfl rfl zz16 zz16 (i - 16) zz16) rfl sk0 ?_
        refine wpd_q 26 rfl zz8 trivial (q_ld Tryz.underlying131 rfl rfl zz31) rfl (fun _ h => h) ?_
        refine wpd_t 2 rfl zz8 trivial (t_pur Tryz.hb109 rfl fun w h => turn _ _ zz22 zz22 _) rfl (fun _ => sk0) ?_
        intro b27
        refine wpd_t 4 rfl zz8 trivial (t_pur Tryz.hb109 rfl fun w h => turn _ _ zz22 zz22 _) rfl (fun _ => sk0) ?_
        intro b29
        refine wpd_p 5 rfl zz8 trivial (q32_xor rfl rfl) rfl sk0 ?_
        refine wpd_p 8 rfl zz8 trivial (q32_xor rfl rfl) rfl sk0 ?_
        refine wpd_p 13 rfl zz8 trivial (q32_add rfl rfl) rfl sk0 ?_
        refine wpd_t 15 rfl zz8 trivial (t_pur Tryz.hb109 rfl fun w h => turn _ _ zz22 zz22 _) rfl (fun _ => sk0) ?_
        intro b40
        refine wpd_t 17 rfl zz8 trivial (t_pur Tryz.hb109 rfl fun w h => turn _ _ zz22 zz22 _) rfl (fun _ => sk0) ?_
        intro b42
        refine wpd_p 18 rfl zz8 trivial (q32_xor rfl rfl) rfl sk0 ?_
        refine wpd_p 21 rfl zz8 trivial (q32_xor rfl rfl) rfl sk0 ?_
        refine wpd_p 22 rfl zz8 trivial (q32_add rfl rfl) rfl sk0 ?_
        refine wpd_p 27 rfl zz8 trivial (q32_add rfl rfl) rfl sk0 ?_
        refine wpd_p 28 rfl zz8 trivial (q_idxA Tryz.underlying139 Tryz.ti131 rfl rfl zz16 zz16 (i) zz16) rfl sk0 ?_
        refine wpd_t0 29 rfl zz8 trivial (t_st1 Tryz.ti131 rfl rfl rfl zz37 _ (by first | exact v32s_set _ | rfl)) (fun _ => skk rfl) ?_
        intro _
        refine wpd_done zz8 ?_
        refine ex_block <| ex_then <| wpc_region ?_
        first | refine wpl_q (qop_eq (q_pure rfl) (congrArg (Value.int .i64) (wk_i64 zz16 zz16))) rfl ?_ | refine wpl_q (q_pure rfl) rfl ?_
        refine wpl_q (q_pure rfl) rfl <| wpl_nil ?_
        refine ex_again ⟨i + 1, zz16⟩ ?_ ?_ ?_
        · exact zz10
        · exact fun w h => by
            first
            | exact (stF_set bs i zz16 _ (by rw [if_pos zz16])) ▸ h
            | exact (stF_set bs i zz16 _ ((mix_st bs i zz16).trans (by rw [if_neg zz16]))) ▸ h
        · show 64 - (i + 1) < 64 - i; omega
    ·
      simp only [decide_eq_true_eq, decide_eq_false_iff_not, Bool.and_eq_true, Bool.or_eq_true, beq_iff_eq, bne_iff_ne, ne_eq] at hc8
      refine wpc_exit ?_
      refine ex_then_exit ?_
      refine ex_then_exit ?_
      refine ex_block_hit ?_
      refine ex_then <| wpc_seq <| wpc_region ?_
      refine wpl_q (q_ldN Tryz.underlying139 rfl Tryz.ti139 rfl zz29) rfl ?_
      refine wpl_t0 (t_stA Tryz.ti139 rfl rfl zz29 (v32s_one _) zz29) ?_
      intro _
      refine wpl_nil <| ex_then <| wpc_ret ?_
      refine retv1 (.inl rfl) rfl (rv_agg Tryz.underlying139 rfl Tryz.ti139 rfl (fun w h => h.cells_blk zz7) zz29) ?_
      have e : stF bs 64 = wsF bs 64 := by simp [stF]
      obtain rfl : i = 64 := by omega
      exact fun w h => ⟨by rw [e], h.below⟩
end Go.Proofs.YtgnablliekgbgaaGreatDoor
namespace Go.Proofs.YtgnablliekgbgaaGreatDoor
open Go Go.PL Go.RowKit
def rootsL : List UInt32 := [1116352408, 1899447441, 3049323471, 3921009573, 961987163, 1508970993, 2453635748, 2870763221, 3624381080, 310598401, 607225278, 1426881987, 1925078388, 2162078206, 2614888103, 3248222580, 3835390401, 4022224774, 264347078, 604807628, 770255983, 1249150122, 1555081692, 1996064986, 2554220882, 2821834349, 2952996808, 3210313671, 3336571891, 3584528711, 113926993, 338241895, 666307205, 773529912, 1294757372, 1396182291, 1695183700, 1986661051, 2177026350, 2456956037, 2730485921, 2820302411, 3259730800, 3345764771, 3516065817, 3600352804, 4094571909, 275423344, 430227734, 506948616, 659060556, 883997877, 958139571, 1322822218, 1537002063, 1747873779, 1955562222, 2024104815, 2227730452, 2361852424, 2428436474, 2756734187, 3204031479, 3329325298]
theorem rootsL_length : rootsL.length = 64 := rfl
def tF (k w : UInt32) (r : List UInt32) : UInt32 :=
  r.getD 7 0 + (rotlF (r.getD 4 0) (-6) ^^^ rotlF (r.getD 4 0) (-11) ^^^ rotlF (r.getD 4 0) (-25)) + ((r.getD 4 0 &&& r.getD 5 0) ^^^ (~~~ r.getD 4 0 &&& r.getD 6 0)) + k + w
def uF (r : List UInt32) : UInt32 :=
  (rotlF (r.getD 0 0) (-2) ^^^ rotlF (r.getD 0 0) (-13) ^^^ rotlF (r.getD 0 0) (-22)) + ((r.getD 0 0 &&& r.getD 1 0) ^^^ (r.getD 0 0 &&& r.getD 2 0) ^^^ (r.getD 1 0 &&& r.getD 2 0))
def roundF (k w : UInt32) (r : List UInt32) : List UInt32 :=
  [tF k w r + uF r, r.getD 0 0, r.getD 1 0, r.getD 2 0, r.getD 3 0 + tF k w r, r.getD 4 0, r.getD 5 0, r.getD 6 0]
def roundsF (ws st : List UInt32) : Nat → List UInt32
  | 0 => st
  | i + 1 => roundF (rootsL.getD i 0) (ws.getD i 0) (roundsF ws st i)
theorem roundsF_length (ws st : List UInt32) (h : st.length = 8) : ∀ i, (roundsF ws st i).length = 8
  | 0 => h
  | i + 1 => rfl
def sumN (st r : List UInt32) : Nat → List UInt32
  | 0 => st
  | i + 1 => (sumN st r i).set i ((sumN st r i).getD i 0 + r.getD i 0)
theorem sumN_length (st r : List UInt32) : ∀ i, (sumN st r i).length = st.length
  | 0 => rfl
  | i + 1 => by simp [sumN, sumN_length st r i]
def addF (st : List UInt32) (bs : List UInt8) : List UInt32 := sumN st (roundsF (wsF bs 64) st 64) 8
theorem addF_length (st : List UInt32) (bs : List UInt8) : (addF st bs).length = st.length := sumN_length _ _ _
theorem add (sb bb : Nat) (st : List UInt32) (bs : List UInt8) (hst : st.length = 8) (hbs : bs.length = 64) (w : World) (hs : w.heap[sb]? = some (.cells (v32s st).toArray 133 (0, 0))) (hb : CellsAt w.cell? ⟨bb, 0, none⟩ (v8s bs)) (hne : bb ≠ sb) (hro : CellsAt w.cell? ⟨0, 0, none⟩ (v32s rootsL)) (h0 : 0 ≠ sb) :
    Calls Tryz.prog 101 [.pointer (some ⟨sb, 0, none⟩), .pointer (some ⟨bb, 0, none⟩)].toArray w (GivesL w [sb] (fun _ : Unit => .tuple #[]) fun _ => [.blk sb 133 (v32s (addF st bs))]) := by
  refine enter (m := 111) (R := Mem w [sb] [.blk sb 133 (v32s st)] []) Tryz.func101 rfl rfl (Nat.le_of_ble_eq_true rfl) (Mem.start1 w hs) ?_
  refine wpc_seq <| wpc_region <| wpl_q (q_pure rfl) rfl <| wpl_q (q_pure rfl) rfl ?_
  refine wpl_q (q_ldN Tryz.underlying133 rfl Tryz.ti133 rfl zz29) rfl ?_
  refine wpl_t (t_alloc Tryz.ti133 _ rfl) rfl ?_
  intro b4
  refine wpl_t0 (t_stA Tryz.ti133 rfl rfl zz29 (v32s_one _) zz29) ?_
  intro _
  refine wpl_nil <| ex_then <| wpc_seq <| wpc_seq <| wpc_region <| wpl_q (q_pure rfl) rfl ?_
  refine wpl_t (t_pur Tryz.hb108 rfl fun w' h => schedule bs hbs bb w' (h.at_oldL hb (by simpa using hne))) rfl ?_
  intro b16
  refine wpl_q (q_pure rfl) rfl <| wpl_nil <| ex_then <| wpc_block ?_
  refine wpc_loop (ι := { i : Nat // i ≤ 64 }) (fun i => [(17, .int .i64 (i.1 : Nat)), (16, .agg (v32s (wsF bs 64)).toArray), (4, .pointer (some ⟨b4, 0, none⟩)), (0, .pointer (some ⟨sb, 0, none⟩))]) (fun i => Mem w [sb] [.blk b4 133 (v32s (roundsF (wsF bs 64) st i.1)), .blk sb 133 (v32s st)] []) (fun i => 64 - i.1) ⟨0, zz16⟩ ?_ ?_ ?_
  · exact by repeat (first | exact trivial | refine ⟨rfl, ?_⟩)
  · exact fun w h => h
  · rintro ⟨i, hi⟩; dsimp only
    have hrl := roundsF_length (wsF bs 64) st hst i
    have hwl := wsF_length bs 64
    refine wpc_seq <| wpc_region <| wpl_q (q_pure rfl) rfl <| wpl_nil <| ex_then <| wpc_seq ?_
    refine wpc_cond rfl (fun hc18 => ?_) (fun hc18 => ?_)
    ·
      simp only [decide_eq_true_eq, decide_eq_false_iff_not, Bool.and_eq_true, Bool.or_eq_true, beq_iff_eq, bne_iff_ne, ne_eq] at hc18
      refine wpc_skip <| ex_then <| wpc_seq <| wpc_block <| wpc_seq <| wpc_region <| wpl_q (q_pure rfl) rfl ?_
      refine wpl_q (q_idxV Tryz.underlying139 Tryz.ti131 Tryz.underlying131 rfl rfl rfl zz16 zz16 (i) zz16 zz31) rfl ?_
      refine wpl_q (q_pure rfl) rfl <| wpl_q (q_pure rfl) rfl <| wpl_nil <| ex_then <| wpc_seq ?_
      refine wpc_draw 6 zz8 (fun _ h => h.drew) ?_
      refine wpd_p 0 rfl zz8 trivial (q_idxA Tryz.underlying133 Tryz.ti131 rfl rfl zz16 zz16 0 rfl) rfl sk0 ?_
      refine wpd_q 1 rfl zz8 trivial (q_ld Tryz.underlying131 rfl rfl zz31) rfl (fun _ h => h) ?_
      refine wpd_p 2 rfl zz8 trivial (q_idxA Tryz.underlying133 Tryz.ti131 rfl rfl zz16 zz16 4 rfl) rfl sk0 ?_
      refine wpd_q 3 rfl zz8 trivial (q_ld Tryz.underlying131 rfl rfl zz31) rfl (fun _ h => h) ?_
      refine wpd_p 4 rfl zz8 trivial (q_pure rfl) rfl sk0 ?_
      refine wpd_p 5 rfl zz8 trivial (q_pure rfl) rfl sk0 ?_
      refine wpd_done zz8 ?_
      refine ex_then <| wpc_seq ?_
      refine wpc_draw 29 zz8 (fun _ h => h.drew) ?_
      refine wpd_p 0 rfl zz8 trivial (q_idxA Tryz.underlying133 Tryz.ti131 rfl rfl zz16 zz16 7 rfl) rfl sk0 ?_
      refine wpd_q 1 rfl zz8 trivial (q_ld Tryz.underlying131 rfl rfl zz31) rfl (fun _ h => h) ?_
      refine wpd_p 2 rfl zz8 trivial (q_pure rfl) rfl sk0 ?_
      refine wpd_p 4 rfl zz8 trivial (q_pure rfl) rfl sk0 ?_
      refine wpd_p 7 rfl zz8 trivial (q_pure rfl) rfl sk0 ?_
      refine wpd_p 11 rfl zz8 trivial (q_pure rfl) rfl sk0 ?_
      refine wpd_p 12 rfl zz8 trivial (q_idxA Tryz.underlying133 Tryz.ti131 rfl rfl zz16 zz16 5 rfl) rfl sk0 ?_
      refine wpd_q 13 rfl zz8 trivial (q_ld Tryz.underlying131 rfl rfl zz31) rfl (fun _ h => h) ?_
      refine wpd_p 14 rfl zz8 trivial (q32_and rfl rfl) rfl sk0 ?_
      refine wpd_p 15 rfl zz8 trivial (q_pure rfl) rfl sk0 ?_
      refine wpd_p 16 rfl zz8 trivial (q32_not rfl) rfl sk0 ?_
      refine wpd_p 17 rfl zz8 trivial (q_idxA Tryz.underlying133 Tryz.ti131 rfl rfl zz16 zz16 6 rfl) rfl sk0 ?_
      refine wpd_q 18 rfl zz8 trivial (q_ld Tryz.underlying131 rfl rfl zz31) rfl (fun _ h => h) ?_
      refine wpd_p 19 rfl zz8 trivial (q32_and rfl rfl) rfl sk0 ?_
      refine wpd_p 20 rfl zz8 trivial (q32_xor rfl rfl) rfl sk0 ?_
      refine wpd_p 22 rfl zz8 trivial (q_pure rfl) rfl sk0 ?_
      refine wpd_p 23 rfl zz8 trivial (q_idxA Tryz.underlying139 Tryz.ti131 rfl rfl zz16 zz16 (i) zz16) rfl sk0 ?_
      refine wpd_q 24 rfl zz8 trivial (q_load1 Tryz.underlying131 rfl rfl (fun w h => h.cell_oldL (hro.at_ (v32s_get (by rw [rootsL_length]; omega))) (by simpa using h0))) rfl (fun _ h => h) ?_
      refine wpd_p 26 rfl zz8 trivial (q_pure rfl) rfl sk0 ?_
      refine wpd_t 3 rfl zz8 trivial (t_pur Tryz.hb109 rfl fun w h => turn _ _ zz22 zz22 _) rfl (fun _ => sk0) ?_
      intro b28
      refine wpd_t 5 rfl zz8 trivial (t_pur Tryz.hb109 rfl fun w h => turn _ _ zz22 zz22 _) rfl (fun _ => sk0) ?_
      intro b30
      refine wpd_p 6 rfl zz8 trivial (q32_xor rfl rfl) rfl sk0 ?_
      refine wpd_t 8 rfl zz8 trivial (t_pur Tryz.hb109 rfl fun w h => turn _ _ zz22 zz22 _) rfl (fun _ => sk0) ?_
      intro b33
      refine wpd_p 9 rfl zz8 trivial (q32_xor rfl rfl) rfl sk0 ?_
      refine wpd_p 10 rfl zz8 trivial (q32_add rfl rfl) rfl sk0 ?_
      refine wpd_p 21 rfl zz8 trivial (q32_add rfl rfl) rfl sk0 ?_
      refine wpd_p 25 rfl zz8 trivial (q32_add rfl rfl) rfl sk0 ?_
      refine wpd_p 27 rfl zz8 trivial (q32_add rfl rfl) rfl sk0 ?_
      refine wpd_p 28 rfl zz8 trivial (q_pure rfl) rfl sk0 ?_
      refine wpd_done zz8 ?_
      refine ex_then <| wpc_seq ?_
      refine wpc_draw 25 zz8 (fun _ h => h.drew) ?_
      refine wpd_p 0 rfl zz8 trivial (q_pure rfl) rfl sk0 ?_
      refine wpd_p 2 rfl zz8 trivial (q_pure rfl) rfl sk0 ?_
      refine wpd_p 5 rfl zz8 trivial (q_pure rfl) rfl sk0 ?_
      refine wpd_p 8 rfl zz8 trivial (q_pure rfl) rfl sk0 ?_
      refine wpd_p 9 rfl zz8 trivial (q_idxA Tryz.underlying133 Tryz.ti131 rfl rfl zz16 zz16 1 rfl) rfl sk0 ?_
      refine wpd_q 10 rfl zz8 trivial (q_ld Tryz.underlying131 rfl rfl zz31) rfl (fun _ h => h) ?_
      refine wpd_p 11 rfl zz8 trivial (q32_and rfl rfl) rfl sk0 ?_
      refine wpd_p 12 rfl zz8 trivial (q_pure rfl) rfl sk0 ?_
      refine wpd_p 13 rfl zz8 trivial (q_idxA Tryz.underlying133 Tryz.ti131 rfl rfl zz16 zz16 2 rfl) rfl sk0 ?_
      refine wpd_q 14 rfl zz8 trivial (q_ld Tryz.underlying131 rfl rfl zz31) rfl (fun _ h => h) ?_
      refine wpd_p 15 rfl zz8 trivial (q32_and rfl rfl) rfl sk0 ?_
      refine wpd_p 16 rfl zz8 trivial (q32_xor rfl rfl) rfl sk0 ?_
      refine wpd_p 17 rfl zz8 trivial (q_idxA Tryz.underlying133 Tryz.ti131 rfl rfl zz16 zz16 1 rfl) rfl sk0 ?_
      refine wpd_q 18 rfl zz8 trivial (q_ld Tryz.underlying131 rfl rfl zz31) rfl (fun _ h => h) ?_
      refine wpd_p 19 rfl zz8 trivial (q_idxA Tryz.underlying133 Tryz.ti131 rfl rfl zz16 zz16 2 rfl) rfl sk0 ?_
      refine wpd_q 20 rfl zz8 trivial (q_ld Tryz.underlying131 rfl rfl zz31) rfl (fun _ h => h) ?_
      refine wpd_p 21 rfl zz8 trivial (q32_and rfl rfl) rfl sk0 ?_
      refine wpd_p 22 rfl zz8 trivial (q32_xor rfl rfl) rfl sk0 ?_
      refine wpd_t 1 rfl zz8 trivial (t_pur Tryz.hb109 rfl fun w h => turn _ _ zz22 zz22 _) rfl (fun _ => sk0) ?_
      intro b54
      refine wpd_t 3 rfl zz8 trivial (t_pur Tryz.hb109 rfl fun w h => turn _ _ zz22 zz22 _) rfl (fun _ => sk0) ?_
      intro b56
      refine wpd_p 4 rfl zz8 trivial (q32_xor rfl rfl) rfl sk0 ?_
      refine wpd_t 6 rfl zz8 trivial (t_pur Tryz.hb109 rfl fun w h => turn _ _ zz22 zz22 _) rfl (fun _ => sk0) ?_
      intro b59
      refine wpd_p 7 rfl zz8 trivial (q32_xor rfl rfl) rfl sk0 ?_
      refine wpd_p 23 rfl zz8 trivial (q32_add rfl rfl) rfl sk0 ?_
      refine wpd_p 24 rfl zz8 trivial (q_pure rfl) rfl sk0 ?_
      refine wpd_done zz8 ?_
      refine ex_then <| wpc_region <| wpl_q (q_pure rfl) rfl <| wpl_q (q_pure rfl) rfl <| wpl_q (q32_add rfl rfl) rfl <| wpl_q (q_pure rfl) rfl ?_
      refine wpl_q (q_idxA Tryz.underlying133 Tryz.ti131 rfl rfl zz16 zz16 1 rfl) rfl ?_
      refine wpl_q (q_ld Tryz.underlying131 rfl rfl zz31) rfl ?_
      refine wpl_q (q_idxA Tryz.underlying133 Tryz.ti131 rfl rfl zz16 zz16 2 rfl) rfl ?_
      refine wpl_q (q_ld Tryz.underlying131 rfl rfl zz31) rfl ?_
      refine wpl_q (q_idxA Tryz.underlying133 Tryz.ti131 rfl rfl zz16 zz16 3 rfl) rfl ?_
      refine wpl_q (q_ld Tryz.underlying131 rfl rfl zz31) rfl ?_
      refine wpl_q (q_pure rfl) rfl <| wpl_q (q32_add rfl rfl) rfl <| wpl_q (q_pure rfl) rfl ?_
      refine wpl_q (q_idxA Tryz.underlying133 Tryz.ti131 rfl rfl zz16 zz16 5 rfl) rfl ?_
      refine wpl_q (q_ld Tryz.underlying131 rfl rfl zz31) rfl ?_
      refine wpl_q (q_idxA Tryz.underlying133 Tryz.ti131 rfl rfl zz16 zz16 6 rfl) rfl ?_
      refine wpl_q (q_ld Tryz.underlying131 rfl rfl zz31) rfl ?_
      refine wpl_q (q_buildFull (v32s (roundF (rootsL.getD i 0) ((wsF bs 64).getD i 0) (roundsF (wsF bs 64) st i))) Tryz.underlying133 Tryz.ti133 Tryz.ti131 rfl rfl (v32s_one _) rfl) rfl ?_
      refine wpl_t0 (t_stA Tryz.ti133 rfl rfl (v32s_length _) (v32s_one _) ((v32s_length _).trans hrl)) ?_
      intro _
      refine wpl_nil <| ex_block <| ex_then <| wpc_region ?_
      first | refine wpl_q (qop_eq (q_pure rfl) (congrArg (Value.int .i64) (wk_i64 zz16 zz16))) rfl ?_ | refine wpl_q (q_pure rfl) rfl ?_
      refine wpl_q (q_pure rfl) rfl <| wpl_nil ?_
      refine ex_again ⟨i + 1, zz16⟩ ?_ ?_ ?_
      · exact zz10
      · exact fun w h => h
      · show 64 - (i + 1) < 64 - i; omega
    ·
      simp only [decide_eq_false_iff_not] at hc18
      obtain rfl : i = 64 := by omega
      have hrl := roundsF_length (wsF bs 64) st hst 64
      refine wpc_exit ?_
      refine ex_then_exit ?_
      refine ex_then_exit ?_
      refine ex_block_hit ?_
      refine ex_then <| wpc_seq <| wpc_region <| wpl_q (q_pure rfl) rfl <| wpl_nil <| ex_then <| wpc_block ?_
      refine wpc_loop (ι := { j : Nat // j ≤ 8 }) (fun i => [(96, .int .i64 (i.1 : Nat)), (4, .pointer (some ⟨b4, 0, none⟩)), (0, .pointer (some ⟨sb, 0, none⟩))]) (fun j => Mem w [sb] [.blk b4 133 (v32s (roundsF (wsF bs 64) st 64)), .blk sb 133 (v32s (sumN st (roundsF (wsF bs 64) st 64) j.1))] []) (fun j => 8 - j.1) ⟨0, zz16⟩ ?_ ?_ ?_
      · exact by repeat (first | exact trivial | refine ⟨rfl, ?_⟩)
      · exact fun w h => h
      · rintro ⟨j, hj⟩; dsimp only
        have hsl := (sumN_length st (roundsF (wsF bs 64) st 64) j).trans hst
        refine wpc_seq <| wpc_region <| wpl_q (q_pure rfl) rfl <| wpl_nil <| ex_then <| wpc_seq ?_
        refine wpc_cond rfl (fun hc97 => ?_) (fun hc97 => ?_)
        ·
          simp only [decide_eq_true_eq, decide_eq_false_iff_not, Bool.and_eq_true, Bool.or_eq_true, beq_iff_eq, bne_iff_ne, ne_eq] at hc97
          refine wpc_skip <| ex_then <| wpc_seq <| wpc_block <| wpc_seq <| wpc_region <| wpl_q (q_pure rfl) rfl <| wpl_q (q_pure rfl) rfl <| wpl_nil <| ex_then ?_
          refine wpc_draw 11 zz8 (fun _ h => h.drew) ?_
          refine wpd_p 0 rfl zz8 trivial (q_pure rfl) rfl sk0 ?_
          refine wpd_p 1 rfl zz8 trivial (q_pure rfl) rfl sk0 ?_
          refine wpd_p 2 rfl zz8 trivial (q_pure rfl) rfl sk0 ?_
          refine wpd_p 3 rfl zz8 trivial (q_idxA Tryz.underlying133 Tryz.ti131 rfl rfl zz16 zz16 (j) zz16) rfl sk0 ?_
          refine wpd_q 4 rfl zz8 trivial (q_ld Tryz.underlying131 rfl rfl zz31) rfl (fun _ h => h) ?_
          refine wpd_p 5 rfl zz8 trivial (q_pure rfl) rfl sk0 ?_
          refine wpd_p 6 rfl zz8 trivial (q_idxA Tryz.underlying133 Tryz.ti131 rfl rfl zz16 zz16 (j) zz16) rfl sk0 ?_
          refine wpd_q 7 rfl zz8 trivial (q_ld Tryz.underlying131 rfl rfl zz31) rfl (fun _ h => h) ?_
          refine wpd_p 8 rfl zz8 trivial (q32_add rfl rfl) rfl sk0 ?_
          refine wpd_p 9 rfl zz8 trivial (q_pure rfl) rfl sk0 ?_
          refine wpd_p 10 rfl zz8 trivial (q_idxA Tryz.underlying133 Tryz.ti131 rfl rfl zz16 zz16 (j) zz16) rfl sk0 ?_
          refine wpd_t0 11 rfl zz8 trivial (t_st1 Tryz.ti131 rfl rfl rfl zz37 _ (by first | exact v32s_set _ | rfl)) (fun _ => skk rfl) ?_
          intro _
          refine wpd_done zz8 ?_
          refine ex_block <| ex_then <| wpc_region ?_
          first | refine wpl_q (qop_eq (q_pure rfl) (congrArg (Value.int .i64) (wk_i64 zz16 zz16))) rfl ?_ | refine wpl_q (q_pure rfl) rfl ?_
          refine wpl_q (q_pure rfl) rfl <| wpl_nil ?_
          refine ex_again ⟨j + 1, zz16⟩ ?_ ?_ ?_
          · exact zz10
          · exact fun w h => h
          · show 8 - (j + 1) < 8 - j; omega
        ·
          simp only [decide_eq_true_eq, decide_eq_false_iff_not, Bool.and_eq_true, Bool.or_eq_true, beq_iff_eq, bne_iff_ne, ne_eq] at hc97
          refine wpc_exit ?_
          refine ex_then_exit ?_
          refine ex_then_exit ?_
          refine ex_block_hit ?_
          refine ret0 (.inr rfl) rfl ?_
          obtain rfl : j = 8 := by omega
          exact fun w h => ⟨(), rfl, h.sub (.drop (Sub.refl _)) .nil⟩
end Go.Proofs.YtgnablliekgbgaaGreatDoor
namespace Go.Proofs.YtgnablliekgbgaaGreatDoor
open Go Go.PL Go.RowKit
def chunksF (c : List UInt8) : List (List UInt8) := (List.range (c.length / 64)).map fun i => (c.drop (64 * i)).take 64
def bufF (c : List UInt8) : List UInt8 := c.drop (64 * (c.length / 64)) ++ List.replicate (64 - c.length % 64) 0
theorem bufF_length (c : List UInt8) : (bufF c).length = 64 := by
  simp only [bufF, List.length_append, List.length_drop, List.length_replicate]
  omega
theorem bufF_zero (c : List UInt8) (h : c.length % 64 = 0) : bufF c = List.replicate 64 0 := by
  unfold bufF
  rw [h, List.drop_of_length_le zz16]; rfl
theorem buf_take (c : List UInt8) : (bufF c).take (c.length % 64) = c.drop (64 * (c.length / 64)) := by
  unfold bufF
  rw [List.take_append_of_le_length (by rw [List.length_drop]; omega)]
  exact List.take_of_length_le (by rw [List.length_drop]; omega)
theorem buf_drop (c : List UInt8) (k : Nat) : (bufF c).drop (c.length % 64 + k) = List.replicate (64 - (c.length % 64 + k)) 0 := by
  unfold bufF
  have e : (c.drop (64 * (c.length / 64))).length = c.length % 64 := by rw [List.length_drop]; omega
  rw [List.drop_append, e, show c.length % 64 + k - c.length % 64 = k from zz16, List.drop_of_length_le zz16, List.nil_append, List.drop_replicate]
  congr 1; omega
theorem put_part (c x : List UInt8) (h : c.length % 64 + x.length < 64) : chunksF (c ++ x) = chunksF c ∧ (bufF c).take (c.length % 64) ++ x ++ (bufF c).drop (c.length % 64 + x.length) = bufF (c ++ x) := by
  have hq : (c ++ x).length / 64 = c.length / 64 := by rw [List.length_append]; omega
  have hm : (c ++ x).length % 64 = c.length % 64 + x.length := by rw [List.length_append]; omega
  constructor
  · unfold chunksF
    rw [hq]
    apply List.map_congr_left
    intro i hi
    have hi' := List.mem_range.1 hi
    rw [List.drop_append_of_le_length zz16, List.take_append_of_le_length (by rw [List.length_drop]; omega)]
  · rw [buf_take, buf_drop]
    unfold bufF
    rw [hq, hm, List.drop_append_of_le_length zz16]
theorem put_full (c x : List UInt8) (h : c.length % 64 + x.length = 64) : chunksF (c ++ x) = chunksF c ++ [(bufF c).take (c.length % 64) ++ x ++ (bufF c).drop (c.length % 64 + x.length)] ∧ (c ++ x).length % 64 = 0 := by
  have hq : (c ++ x).length / 64 = c.length / 64 + 1 := by rw [List.length_append]; omega
  have hm : (c ++ x).length % 64 = 0 := by rw [List.length_append]; omega
  refine ⟨?_, hm⟩
  unfold chunksF
  rw [hq, List.range_succ, List.map_append, buf_take, buf_drop]
  congr 1
  · apply List.map_congr_left
    intro i hi
    have hi' := List.mem_range.1 hi
    rw [List.drop_append_of_le_length zz16, List.take_append_of_le_length (by rw [List.length_drop]; omega)]
  · simp only [List.map_cons, List.map_nil]
    rw [List.drop_append_of_le_length zz16, List.take_of_length_le (by rw [List.length_append, List.length_drop]; omega), h]
    simp
abbrev Jt := List Nat → List (List UInt8) → World → Prop
structure PutInv (J : Jt) (T : List Nat) (c p : List UInt8) (p0 : Value) (b nb y l : Nat) (wS : World) (j : Nat) (v : Value) (wb : World) : Prop where
  le : j ≤ p.length
  J : J T (chunksF (c ++ p.take j)) wb
  v : ∀ r, Seen r p0 p.length 1 (v8s p) → Seen r v (p.length - j) 1 (v8s (p.drop j))
  seen : Seen wb.cell? p0 p.length 1 (v8s p)
  yv : wb.heap[y]? = some (.cells #[.func (.yield l) #[] #[]] 143 (0, 0))
  keep : ∀ k, k ∈ T → k ≠ b → k ≠ nb → wb.heap[k]? = wS.heap[k]?
  size : wS.heap.size ≤ wb.heap.size
def PutPost (J : Jt) (T : List Nat) (c : List UInt8) (b nb : Nat) (wS : World) (e : Ending) (w : World) : Prop :=
  e = .returned (.tuple #[]) ∧ J T (chunksF c) w ∧ w.heap[b]? = some (.cells (v8s (bufF c)).toArray 145 (0, 0)) ∧ w.heap[nb]? = some (.cells #[.int .i64 ((c.length % 64 : Nat) : Int)] 3 (0, 0)) ∧
    (∀ k, k ∈ T → k ≠ b → k ≠ nb → w.heap[k]? = wS.heap[k]?) ∧ wS.heap.size ≤ w.heap.size
instance nop_put {P : Program} {fn : Func} {J : Jt} {T : List Nat} {c : List UInt8} {b nb : Nat} {wS : World} : NoP (bodyPost P fn (PutPost J T c b nb wS)) := nop_post fun c w' h => by cases h.1
def putM (c : List UInt8) (b nb : Nat) : List Ent := [.blk b 145 (v8s (bufF c)), .blk nb 3 [.int .i64 ((c.length % 64 : Nat) : Int)]]
section
variable (J : Jt) (T : List Nat) (c p : List UInt8) (p0 : Value) (b nb y l : Nat) (wS : World)
theorem slice_v {j q : Nat} {a : Option Addr} {cap : Nat} (hv : ∀ r, Seen r p0 p.length 1 (v8s p) → Seen r (.slice a (p.length - j) cap) (p.length - j) 1 (v8s (p.drop j))) (hj : j + q ≤ p.length) :
    ∀ r, Seen r p0 p.length 1 (v8s p) → Seen r (sliced a q (p.length - j) cap 1) (p.length - (j + q)) 1 (v8s (p.drop (j + q))) := fun r hr => by
  have h1 := (hv r hr).slice q (p.length - j) zz16 (Nat.le_refl _)
  have e1 : (p.length - j - q) = p.length - (j + q) := by omega
  have e2 : ((v8s (p.drop j)).drop (q * 1)).take ((p.length - j - q) * 1) = v8s (p.drop (j + q)) := by
    rw [Nat.mul_one, Nat.mul_one, v8s_drop, v8s_take, List.drop_drop, List.take_of_length_le (by rw [List.length_drop]; omega)]
  rw [e2] at h1
  rw [← e1]
  exact h1
theorem PutInv.step {j q : Nat} {a : Option Addr} {cap : Nat} {wb : World} (h : PutInv J T c p p0 b nb y l wS j (.slice a (p.length - j) cap) wb) (hj : j + q ≤ p.length) (hJ : J T (chunksF (c ++ p.take (j + q))) wb) :
    PutInv J T c p p0 b nb y l wS (j + q) (sliced a q (p.length - j) cap 1) wb := ⟨hj, hJ, slice_v p p0 h.v hj, h.seen, h.yv, h.keep, h.size⟩
theorem take_plus (j q : Nat) : p.take (j + q) = p.take j ++ (p.drop j).take q := List.take_add ..
end
theorem cell_of_heap {w : World} {y : Nat} {cs : Array Value} {t : TypeId} (h : w.heap[y]? = some (.cells cs t (0, 0))) {off : Nat} {v : Value} (hv : cs[off]? = some v) : w.cell? ⟨y, off, none⟩ = some v := by simp [World.cell?, h, hv]
theorem chunks_prefix (c x : List UInt8) : chunksF c <+: chunksF (c ++ x) := by
  have hle : c.length / 64 ≤ (c ++ x).length / 64 := Nat.div_le_div_right zz47
  have e : chunksF c = (chunksF (c ++ x)).take (c.length / 64) := by
    unfold chunksF
    rw [← List.map_take, List.take_range, Nat.min_eq_left hle]
    apply List.map_congr_left
    intro i hi
    have hi' := List.mem_range.1 hi
    rw [List.drop_append_of_le_length zz16, List.take_append_of_le_length (by rw [List.length_drop]; omega)]
  rw [e]; exact List.take_prefix ..
section
variable (J : Jt) (T : List Nat) (c p : List UInt8) (p0 : Value) (b nb y l : Nat) (wS : World) (ALL : List (List UInt8))
def YieldOk (P : Program) (J : Jt) (T : List Nat) (b l : Nat) (ALL : List (List UInt8)) : Prop :=
  ∀ pre x w1, J T pre w1 → (pre ++ [x]) <+: ALL → w1.heap[b]? = some (.cells (v8s x).toArray 145 (0, 0)) → YieldAt Fence.wide 0 P l #[.pointer (some ⟨b, 0, none⟩)] w1 fun e w' =>
    e = .returned (.bool true) ∧ J T (pre ++ [x]) w' ∧ w1.heap.size ≤ w'.heap.size ∧ ∀ k, k ∈ T → w'.heap[k]? = w1.heap[k]?
theorem put_yield (hst : ∀ pre w1 w2, J T pre w1 → Mem w1 T [] [] w2 → (∀ k, k ∈ T → k < w2.heap.size) → J T pre w2) (hyl : YieldOk Tryz.prog J T b l ALL)
    (hp : ∀ pre (w1 w2 : World), Seen w1.cell? p0 p.length 1 (v8s p) → J T pre w2 → (∀ k, k ∈ T → w2.heap[k]? = w1.heap[k]?) → Seen w2.cell? p0 p.length 1 (v8s p)) (hpre : chunksF (c ++ p) <+: ALL) (hTl : ∀ k, k ∈ T → k < wS.heap.size)
    (hpb : ∀ k, p0.ownBlock = some k → v8s p ≠ [] → k ≠ b ∧ k ≠ nb) (hbT : b ∈ T) (hnT : nb ∈ T) (hyT : y ∈ T) (hbn : b ≠ nb) (hby : b ≠ y) (hny : nb ≠ y)
    {j q : Nat} {a : Option Addr} {cap : Nat} {wb w : World} {full : List UInt8} {n' : Int} (hI : PutInv J T c p p0 b nb y l wS j (.slice a (p.length - j) cap) wb) (hjq : j + q ≤ p.length) (e1 : chunksF (c ++ p.take (j + q)) = chunksF (c ++ p.take j) ++ [full])
    (h : Mem wb [b, nb] [.blk b 145 (v8s full), .blk nb 3 [.int .i64 n']] [] w) :
    YieldAt Fence.wide 0 Tryz.prog l #[.pointer (some ⟨b, 0, none⟩)] w fun e w' => ∃ u : { u : World // PutInv J T c p p0 b nb y l wS (j + q) (sliced a q (p.length - j) cap 1) u }, e = .returned (.bool true) ∧ Mem u.1 [b, nb] [.blk b 145 (v8s full), .blk nb 3 [.int .i64 n']] [] w' := by
  have hb1 : w.heap[b]? = some (.cells (v8s full).toArray 145 (0, 0)) := h.own _ (List.mem_cons_self ..)
  have hb2 : w.heap[nb]? = some (.cells #[.int .i64 n'] 3 (0, 0)) := h.own (.blk nb 3 [.int .i64 n']) zz47
  have hm0 : Mem wb T [] [] w := (h.sub .nil .nil).lend (by intro k hk; simp at hk; rcases hk with rfl | rfl <;> assumption)
  have hJ := hst _ _ _ hI.J hm0 (fun k hk => Nat.lt_of_lt_of_le (hTl k hk) (Nat.le_trans hI.size h.size))
  have hpx : chunksF (c ++ p.take j) ++ [full] <+: ALL := by
    rw [← e1]
    refine List.IsPrefix.trans ?_ hpre
    have := chunks_prefix (c ++ p.take (j + q)) (p.drop (j + q))
    rwa [List.append_assoc, List.take_append_drop] at this
  obtain ⟨fn, tmps, assign, body, hrun, hround⟩ := hyl _ _ _ hJ hpx hb1
  refine ⟨fn, tmps, assign, body, hrun, hround.mono ?_⟩
  rintro e w' ⟨rfl, hJ', hsz, hT⟩
  have hseen := hp _ w w' (h.at2 hI.seen hpb) hJ' hT
  have hyw : w'.heap[y]? = some (.cells #[.func (.yield l) #[] #[]] 143 (0, 0)) := by
    rw [hT y hyT, h.old y (Array.getElem?_eq_some_iff.1 hI.yv).1 (by simp; exact ⟨fun e => hby e.symm, fun e => hny e.symm⟩)]; exact hI.yv
  refine ⟨⟨w', hjq, by rw [e1]; exact hJ', slice_v p p0 hI.v hjq, hseen, hyw, fun k hk h1 h2 => ?_, Nat.le_trans hI.size (Nat.le_trans h.size hsz)⟩, rfl, ?_⟩
  · rw [hT k hk, h.old k (Nat.lt_of_lt_of_le (hTl k hk) hI.size) (by simp; exact ⟨h1, h2⟩)]; exact hI.keep k hk h1 h2
  · exact Mem.startL (Ms := [.blk b 145 (v8s full), .blk nb 3 [.int .i64 n']]) w' (by
      intro e he
      simp at he
      rcases he with rfl | rfl
      · exact (hT b hbT).trans hb1
      · exact (hT nb hnT).trans hb2) (by simp [Ent.num]; exact fun e => hbn e.symm)
theorem put_fin (hst : ∀ pre w1 w2, J T pre w1 → Mem w1 T [] [] w2 → (∀ k, k ∈ T → k < w2.heap.size) → J T pre w2) (hTl : ∀ k, k ∈ T → k < wS.heap.size) (hbT : b ∈ T) (hnT : nb ∈ T) {v : Value} {wb w : World} (hI : PutInv J T c p p0 b nb y l wS p.length v wb)
    (h : Mem wb [b, nb] (putM (c ++ p.take p.length) b nb) [] w) : PutPost J T (c ++ p) b nb wS (.returned (.tuple #[])) w := by
  rw [List.take_length] at h
  have hm0 : Mem wb T [] [] w := (h.sub .nil .nil).lend (by intro k hk; simp at hk; rcases hk with rfl | rfl <;> assumption)
  have hJ := hst _ _ _ hI.J hm0 (fun k hk => Nat.lt_of_lt_of_le (hTl k hk) (Nat.le_trans hI.size h.size))
  rw [List.take_length] at hJ
  refine ⟨rfl, hJ, h.own _ (List.mem_cons_self ..), h.own _ (List.mem_cons_of_mem _ (List.mem_cons_self ..)), fun k hk h1 h2 => ?_, Nat.le_trans hI.size h.size⟩
  rw [h.old k (Nat.lt_of_lt_of_le (hTl k hk) hI.size) (by simp; exact ⟨h1, h2⟩)]; exact hI.keep k hk h1 h2
end
end Go.Proofs.YtgnablliekgbgaaGreatDoor
namespace Go.Proofs.YtgnablliekgbgaaGreatDoor
open Go Go.PL Go.RowKit
theorem putMm (J : Jt) (T : List Nat) (c p : List UInt8) (p0 : Value) (b nb y l : Nat) (wS : World) (ALL : List (List UInt8)) (hst : ∀ pre w1 w2, J T pre w1 → Mem w1 T [] [] w2 → (∀ k, k ∈ T → k < w2.heap.size) → J T pre w2) (hyl : YieldOk Tryz.prog J T b l ALL)
    (hp : ∀ pre (w1 w2 : World), Seen w1.cell? p0 p.length 1 (v8s p) → J T pre w2 → (∀ k, k ∈ T → w2.heap[k]? = w1.heap[k]?) → Seen w2.cell? p0 p.length 1 (v8s p)) (hpre : chunksF (c ++ p) <+: ALL) (hTl : ∀ k, k ∈ T → k < wS.heap.size)
    (hpb : ∀ k, p0.ownBlock = some k → v8s p ≠ [] → k ≠ b ∧ k ≠ nb) (hbT : b ∈ T) (hnT : nb ∈ T) (hyT : y ∈ T) (hbn : b ≠ nb) (hby : b ≠ y) (hny : nb ≠ y)
    (hJ : J T (chunksF c) wS) (hs : Seen wS.cell? p0 p.length 1 (v8s p)) (hb : wS.heap[b]? = some (.cells (v8s (bufF c)).toArray 145 (0, 0))) (hn : wS.heap[nb]? = some (.cells #[.int .i64 ((c.length % 64 : Nat) : Int)] 3 (0, 0))) (hyv : wS.heap[y]? = some (.cells #[.func (.yield l) #[] #[]] 143 (0, 0))) :
    Calls Tryz.prog 107 [p0, .pointer (some ⟨b, 0, none⟩), .pointer (some ⟨nb, 0, none⟩), .pointer (some ⟨y, 0, none⟩)].toArray wS (PutPost J T (c ++ p) b nb wS) := by
  have hI0 : PutInv J T c p p0 b nb y l wS 0 p0 wS := ⟨Nat.zero_le _, by simpa using hJ, fun r h => by simpa using h, hs, hyv, fun _ _ _ _ => rfl, Nat.le_refl _⟩
  have hyb : (⟨y, 0, none⟩ : Addr).block ∉ [b, nb] := by simp; exact ⟨fun e => hby e.symm, fun e => hny e.symm⟩
  refine enter (m := 24) (R := Mem wS [b, nb] (putM c b nb) []) Tryz.func107 rfl rfl (Nat.le_of_ble_eq_true rfl) (Mem.startL (Ms := putM c b nb) wS (by
    intro e he
    simp [putM] at he
    rcases he with rfl | rfl
    · exact hb
    · exact hn) (by simp [putM, Ent.num]; exact fun e => hbn e.symm)) ?_
  refine wpc_block ?_
  refine wpc_loop (ι := { x : Nat × Value × World // PutInv J T c p p0 b nb y l wS x.1 x.2.1 x.2.2 }) (fun x => [(0, x.1.2.1), (1, .pointer (some ⟨b, 0, none⟩)), (2, .pointer (some ⟨nb, 0, none⟩)), (3, .pointer (some ⟨y, 0, none⟩))]) (fun x => Mem x.1.2.2 [b, nb] (putM (c ++ p.take x.1.1) b nb) []) (fun x => p.length - x.1.1) ⟨(0, p0, wS), hI0⟩ ?_ ?_ ?_
  · exact by repeat (first | exact trivial | refine ⟨rfl, ?_⟩)
  · exact fun w h => by have e : c ++ p.take 0 = c := by simp
                        rw [e]; exact h
  · rintro ⟨⟨j, v, wb⟩, hI⟩; dsimp only
    have hI : PutInv J T c p p0 b nb y l wS j v wb := hI
    obtain ⟨a, cap, rfl, hc1, hc2, hc3⟩ := (hI.v _ hI.seen).form
    have hjl := hI.le
    have hbl := bufF_length (c ++ p.take j)
    have hnl : (c ++ p.take j).length % 64 < 64 := Nat.mod_lt _ zz22
    simp only [putM]
    refine wpc_seq <| wpc_seq <| wpc_region <| wpl_q (q_pure rfl) rfl <| wpl_q (q_len Tryz.underlying49 rfl) rfl <| wpl_q (q_pure rfl) rfl <| wpl_nil <| ex_then ?_
    refine wpc_cond rfl (fun hc8 => ?_) (fun hc8 => ?_)
    ·
      simp only [decide_eq_true_eq] at hc8
      obtain ⟨q, hq⟩ : ∃ q, min (p.length - j) (64 - (c ++ p.take j).length % 64) = q := ⟨_, rfl⟩
      have hql : ((p.drop j).take q).length = q := by rw [List.length_take, List.length_drop]; omega
      have eT : c ++ p.take (j + q) = (c ++ p.take j) ++ (p.drop j).take q := by rw [take_plus, List.append_assoc]
      have hfl : ((bufF (c ++ p.take j)).take ((c ++ p.take j).length % 64) ++ (p.drop j).take q ++ (bufF (c ++ p.take j)).drop ((c ++ p.take j).length % 64 + q)).length = 64 := by rw [List.length_append, List.length_append, List.length_take, List.length_drop, hbl, hql]; omega
      refine wpc_skip <| ex_then <| wpc_block <| wpc_seq <| wpc_region <| wpl_q (q_ld Tryz.underlying3 rfl rfl rfl) rfl ?_
      refine wpl_q (qop_eq (q_ar_l Tryz.underlying145 Tryz.ti5 rfl rfl zz16 zz16 ((c ++ p.take j).length % 64) zz16) (slicedAt_lt _ _ _ _ hnl)) rfl ?_
      refine wpl_q (q_pure rfl) rfl ?_
      refine wpl_t (t_copy Tryz.underlying49 Tryz.ti5 rfl rfl (fun w h => hI.v _ (h.at2 hI.seen hpb)) (v8s_one _) (by rw [v8s_length]; omega) q hq (v8s ((bufF (c ++ p.take j)).take ((c ++ p.take j).length % 64) ++ (p.drop j).take q ++ (bufF (c ++ p.take j)).drop ((c ++ p.take j).length % 64 + q))) (by rw [v8s_take, v8s_take, v8s_drop, ← v8s_append, ← v8s_append])) rfl ?_
      intro b12
      refine wpl_q (q_pure rfl) rfl <| wpl_nil <| ex_then <| wpc_seq ?_
      refine wpc_draw 7 zz8 (fun _ h => h.drew) ?_
      refine wpd_p 0 rfl zz8 trivial (q_pure rfl) rfl sk0 ?_
      refine wpd_p 1 rfl zz8 trivial (q_pure rfl) rfl sk0 ?_
      refine wpd_p 2 rfl zz8 trivial (q_sl_l Tryz.underlying49 Tryz.ti5 rfl rfl zz16 zz16 q zz16) rfl sk0 ?_
      refine wpd_q 3 rfl zz8 trivial (q_ld Tryz.underlying3 rfl rfl rfl) rfl (fun _ h => h) ?_
      refine wpd_p 4 rfl zz8 trivial (q_pure rfl) rfl sk0 ?_
      first | refine wpd_p 5 rfl zz8 trivial (qop_eq (q_pure rfl) (congrArg (Value.int .i64) (wk_i64 zz16 zz16))) rfl sk0 ?_ | refine wpd_p 5 rfl zz8 trivial (q_pure rfl) rfl sk0 ?_
      refine wpd_p 6 rfl zz8 trivial (q_pure rfl) rfl sk0 ?_
      refine wpd_t0 7 rfl zz8 trivial (t_st1 Tryz.ti3 rfl rfl rfl Nat.zero_lt_one _ rfl) (fun _ => skk rfl) ?_
      intro _
      refine wpd_done zz8 ?_
      refine ex_then <| wpc_seq <| wpc_region <| wpl_q (q_ld Tryz.underlying3 rfl rfl rfl) rfl <| wpl_q (q_pure rfl) rfl <| wpl_nil <| ex_then ?_
      refine wpc_cond rfl (fun hc20 => ?_) (fun hc20 => ?_)
      ·
        have hjq : j + q ≤ p.length := by omega
        simp only [beq_iff_eq, decide_eq_true_eq] at hc20
        have hfull : (c ++ p.take j).length % 64 + q = 64 := by omega
        obtain ⟨e1, e2⟩ := put_full (c ++ p.take j) ((p.drop j).take q) (by rw [hql]; exact hfull)
        rw [hql] at e1
        rw [← eT] at e1 e2
        refine wpc_seq ?_
        refine wpc_region_y ?_
        refine wpli_q open_wide (q_load1 Tryz.underlying143 rfl rfl (fun w h => h.cell_oldL (cell_of_heap hI.yv rfl) hyb)) rfl ?_
        refine wpli_yield (l := l) (ι := { u : World // PutInv J T c p p0 b nb y l wS (j + q) (sliced a q (p.length - j) cap 1) u }) (V := fun _ => .bool true) (R' := fun u => Mem u.1 [b, nb] [.blk b 145 (v8s ((bufF (c ++ p.take j)).take ((c ++ p.take j).length % 64) ++ (p.drop j).take q ++ (bufF (c ++ p.take j)).drop ((c ++ p.take j).length % 64 + q))), .blk nb 3 [.int .i64 (((c ++ p.take j).length % 64 : Nat) + (q : Nat) : Int)]] []) rfl rfl ?_ rfl fun u => ?_
        · exact fun w h => put_yield J T c p p0 b nb y l wS ALL hst hyl hp hpre hTl hpb hbT hnT hyT hbn hby hny hI hjq e1 h
        refine wpli_nil ?_
        obtain ⟨wb2, HI⟩ := u
        refine ex_then <| wpc_region ?_
        refine wpl_q (q_build (cs := v8s (List.replicate 64 0)) (vs := []) rfl (built_array Tryz.underlying145 Tryz.ti145 Tryz.ti5 rfl)) rfl ?_
        refine wpl_t0 (t_stA Tryz.ti145 rfl rfl rfl (v8s_one _) (by rw [v8s_length]; exact hfl)) ?_
        intro _
        refine wpl_t0 (t_st1 Tryz.ti3 rfl rfl rfl Nat.zero_lt_one _ rfl) ?_
        intro _
        refine wpl_nil <| ex_block ?_
        refine ex_again ⟨(j + q, _, _), HI⟩ ?_ ?_ ?_
        · exact zz10
        · exact fun w h => by
            first
            | (show Mem _ _ (putM (c ++ p.take (j + q)) b nb) _ _
               rw [putM, bufF_zero _ e2, e2]; exact h)
            | (show Mem _ _ (putM (c ++ p.take (j + q)) b nb) _ _
               rw [putM, ← e2, show (((c ++ p.take (j + q)).length % 64 : Nat) : Int) = ((c ++ p.take j).length % 64 : Nat) + (q : Nat) by rw [take_plus, ← List.append_assoc, List.length_append, hql]; omega]; exact h)
        · show p.length - (j + q) < p.length - j; omega
      ·
        simp only [beq_eq_false_iff_ne, decide_eq_false_iff_not, ne_eq] at hc20
        obtain ⟨e1, e2⟩ := put_part (c ++ p.take j) ((p.drop j).take q) (by rw [hql]; omega)
        rw [hql] at e2
        rw [← eT] at e1 e2
        have HI := PutInv.step J T c p p0 b nb y l wS hI (q := q) zz16 (by rw [e1]; exact hI.J)
        refine wpc_skip <| ex_block ?_
        refine ex_again ⟨(j + q, _, _), HI⟩ ?_ ?_ ?_
        · exact zz10
        · exact fun w h => by
            first
            | (show Mem _ _ (putM (c ++ p.take (j + q)) b nb) _ _
               rw [putM, bufF_zero _ e2, e2]; exact h)
            | (show Mem _ _ (putM (c ++ p.take (j + q)) b nb) _ _
               rw [putM, ← e2, show (((c ++ p.take (j + q)).length % 64 : Nat) : Int) = ((c ++ p.take j).length % 64 : Nat) + (q : Nat) by rw [take_plus, ← List.append_assoc, List.length_append, hql]; omega]; exact h)
        · show p.length - (j + q) < p.length - j; omega
    ·
      simp only [decide_eq_false_iff_not] at hc8
      obtain rfl : j = p.length := by omega
      refine wpc_exit ?_
      refine ex_then_exit ?_
      refine ex_then_exit ?_
      refine ex_block_hit ?_
      refine ret0 (.inr rfl) rfl ?_
      exact fun w h => put_fin J T c p p0 b nb y l wS hst hTl hbT hnT hI h
end Go.Proofs.YtgnablliekgbgaaGreatDoor
