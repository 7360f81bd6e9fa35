/- The law of checking. -/
import Derived.Test.YtommkigkkeailaaOT
import Derived.Test.YtommkigkkeailaaOI
namespace Go.Proofs.Ytommkigkkeailaa
set_option linter.unusedSimpArgs false
set_option linter.unusedVariables false
open Go Go.PL Go.RowKit
set_option maxRecDepth 100000 in
theorem octetChecks (t : HT) (u : HT) (w : World) (ht : HSeen w.cell? t) (hu : HSeen w.cell? u) (hlt : Lens t) (hlu : Lens u) :
    Calls Try.prog 4 [.agg t.c.toArray, .agg u.c.toArray].toArray w (Pur w (.bool true)) := by
  haveI := ht.sv.one
  haveI := hu.sv.one
  refine enter (m := 50) (R := Mem w [] [] []) Try.func4 rfl rfl (Nat.le_of_ble_eq_true rfl) (Mem.start w) ?_
  refine wpc_seq ?_
  refine wpc_region ?_
  refine wpl_t (t_box rfl t.c rfl) rfl (fun b2 => ?_)
  refine wpl_t (t_box rfl u.c rfl) rfl (fun b3 => ?_)
  refine wpl_q (q_pure rfl) rfl ?_
  refine wpl_nil ?_
  refine ex_then ?_
  refine wpc_seq ?_
  refine wpc_seq ?_
  refine wpc_region ?_
  refine wpl_q (q_ldN Try.underlying25 rfl Try.ti25 rfl LenC.h) rfl ?_
  refine wpl_t (t_pur Try.hb12 rfl fun w h => great t w (ht.old h) hlt) rfl (fun b9 => ?_)
  refine wpl_q (q_pure rfl) rfl ?_
  refine wpl_bool2 10 9 rfl rfl (fun hb10 => ?_) (fun hb10 => ?_)
  ·
   refine wpl_off rfl rfl rfl rfl ?_
   refine wpl_off rfl rfl rfl rfl ?_
   refine wpl_q (q_pure rfl) rfl ?_
   refine wpl_nil ?_
   refine ex_then ?_
   refine wpc_cond_t rfl ?_
   refine wpc_seq ?_
   refine wpc_region ?_
   refine wpl_q (q_pure rfl) rfl ?_
   refine wpl_nil ?_
   refine ex_then ?_
   refine wpc_ret ?_
   refine ex_then_ret ?_
   refine ret1 (.inl rfl) rfl rfl ?_
   exact fun w h => ⟨rfl, h.below⟩
  ·
   have g1 : ¬ GreatT t.tr := by simpa using hb10
   have s1 := great_sm g1
   have n1 := great_no g1
   refine wpl_on rfl rfl ?_
   refine wpl_q (q_ldN Try.underlying25 rfl Try.ti25 rfl LenC.h) rfl ?_
   refine wpl_on rfl rfl ?_
   refine wpl_t (t_pur Try.hb12 rfl fun w h => great u w (hu.old h) hlu) rfl (fun b12 => ?_)
   refine wpl_q (q_pure rfl) rfl ?_
   refine wpl_nil ?_
   refine ex_then ?_
   refine wpc_cond rfl (fun hc13 => ?_) (fun hc13 => ?_)
   ·
    refine wpc_seq ?_
    refine wpc_region ?_
    refine wpl_q (q_pure rfl) rfl ?_
    refine wpl_nil ?_
    refine ex_then ?_
    refine wpc_ret ?_
    refine ex_then_ret ?_
    refine ret1 (.inl rfl) rfl rfl ?_
    exact fun w h => ⟨rfl, h.below⟩
   ·
    have g2 : ¬ GreatT u.tr := by simpa using hc13
    refine wpc_skip ?_
    refine ex_then ?_
    refine wpc_seq ?_
    refine wpc_region ?_
    refine wpl_q (q_ldN Try.underlying25 rfl Try.ti25 rfl LenC.h) rfl ?_
    refine wpl_tp (t_callE (fun y : HT => .blk b3 25 u.c :: .blk b2 25 t.c :: y.ents) (fun y => List.perm_append_comm) Try.hb13 rfl fun w h => refTwin t w (ht.old h) s1) rfl (fun b15 p15 => ?_)
    haveI := p15.2.one
    refine wpl_t (t_alloc Try.ti25 HT.z.c rfl) rfl (fun b5 => ?_)
    refine wpl_t0 (t_stA Try.ti25 rfl rfl LenC.h OneC.h LenC.h) (fun _ => ?_)
    refine wpl_nil ?_
    refine ex_then ?_
    refine wpc_seq ?_
    refine wpc_region ?_
    refine wpl_q (q_ldN Try.underlying25 rfl Try.ti25 rfl LenC.h) rfl ?_
    refine wpl_tp (t_callE (fun y : HT => .blk b5 25 b15.c :: .blk b3 25 u.c :: .blk b2 25 t.c :: (y.ents ++ b15.ents)) (fun y => List.perm_append_comm_assoc y.ents [.blk b5 25 b15.c, .blk b3 25 u.c, .blk b2 25 t.c] b15.ents) Try.hb29 rfl fun w h => octTwin t w (ht.old h) s1) rfl (fun b17 p17 => ?_)
    haveI := p17.2.one
    refine wpl_t (t_alloc Try.ti25 HT.z.c rfl) rfl (fun b6 => ?_)
    refine wpl_t0 (t_stA Try.ti25 rfl rfl LenC.h OneC.h LenC.h) (fun _ => ?_)
    refine wpl_nil ?_
    refine ex_then ?_
    refine wpc_seq ?_
    refine wpc_draw 25 (by kernel_rfl) (fun _ h => h.drew) ?_
    refine wpd_q 0 rfl (by kernel_rfl) trivial (q_ldN Try.underlying25 rfl Try.ti25 rfl LenC.h) rfl (fun _ h => h) ?_
    refine wpd_q 2 rfl (by kernel_rfl) trivial (q_ldN Try.underlying25 rfl Try.ti25 rfl LenC.h) rfl (fun _ h => h) ?_
    refine wpd_t 1 rfl (by kernel_rfl) trivial (t_pur Try.hb30 rfl fun w h => check t w (ht.old h) s1 (by omega)) rfl (fun _ => sk0) (fun b19 => ?_)
    refine wpd_t 3 rfl (by kernel_rfl) trivial (t_pur Try.hb31 rfl fun w h => refCheck t w (ht.old h) s1 (by omega)) rfl (fun _ => sk0) (fun b21 => ?_)
    refine wpd_p 4 rfl (by kernel_rfl) trivial (q_tru (q_eqI rfl rfl) (by simp)) rfl sk0 ?_
    refine wpd_p 5 rfl (by kernel_rfl) trivial (q_pure rfl) rfl sk0 ?_
    refine wpd_q 6 rfl (by kernel_rfl) ⟨_, rfl, rfl⟩ (q_ldN Try.underlying25 rfl Try.ti25 rfl LenC.h) rfl (fun _ h => h) ?_
    refine wpd_q 7 rfl (by kernel_rfl) ⟨_, rfl, rfl⟩ (q_ldN Try.underlying25 rfl Try.ti25 rfl LenC.h) rfl (fun _ h => h) ?_
    refine wpd_q 9 rfl (by kernel_rfl) ⟨_, rfl, rfl⟩ (q_ldN Try.underlying25 rfl Try.ti25 rfl LenC.h) rfl (fun _ h => h) ?_
    refine wpd_q 10 rfl (by kernel_rfl) ⟨_, rfl, rfl⟩ (q_ldN Try.underlying25 rfl Try.ti25 rfl LenC.h) rfl (fun _ h => h) ?_
    refine wpd_t 8 rfl (by kernel_rfl) ⟨_, rfl, rfl⟩ (t_pur Try.hb32 rfl fun w h => octSame t u w (ht.old h) (hu.old h)) rfl (fun _ => sk0) (fun b26 => ?_)
    refine wpd_t 11 rfl (by kernel_rfl) ⟨_, rfl, rfl⟩ (t_pur Try.hb21 rfl fun w h => refSame t u w (ht.old h) (hu.old h)) rfl (fun _ => sk0) (fun b29 => ?_)
    refine wpd_p 12 rfl (by kernel_rfl) ⟨_, rfl, rfl⟩ (q_tru (q_beq Try.underlying4 rfl rfl) (by simp)) rfl sk0 ?_
    refine wpd_p 13 rfl (by kernel_rfl) trivial (q_pure rfl) rfl sk0 ?_
    refine wpd_p 14 rfl (by kernel_rfl) trivial (q_pure rfl) rfl sk0 ?_
    refine wpd_q 15 rfl (by kernel_rfl) ⟨_, rfl, rfl⟩ (q_ldN Try.underlying25 rfl Try.ti25 rfl LenC.h) rfl (fun _ h => h) ?_
    refine wpd_q 16 rfl (by kernel_rfl) ⟨_, rfl, rfl⟩ (q_ldN Try.underlying25 rfl Try.ti25 rfl LenC.h) rfl (fun _ h => h) ?_
    refine wpd_t 17 rfl (by kernel_rfl) ⟨_, rfl, rfl⟩ (t_pur (v := .bool true) Try.hb32 rfl fun w h => by have q := octSame t b15 w (ht.old h) (Mem.hseen h); rwa [decide_eq_true (show t.tr = b15.tr from p15.1.symm)] at q) rfl (fun _ => sk0) (fun b35 => ?_)
    refine wpd_p 18 rfl (by kernel_rfl) trivial (q_pure rfl) rfl sk0 ?_
    refine wpd_p 19 rfl (by kernel_rfl) trivial (q_pure rfl) rfl sk0 ?_
    refine wpd_q 20 rfl (by kernel_rfl) ⟨_, rfl, rfl⟩ (q_ldN Try.underlying25 rfl Try.ti25 rfl LenC.h) rfl (fun _ h => h) ?_
    refine wpd_q 21 rfl (by kernel_rfl) ⟨_, rfl, rfl⟩ (q_ldN Try.underlying25 rfl Try.ti25 rfl LenC.h) rfl (fun _ h => h) ?_
    refine wpd_t 22 rfl (by kernel_rfl) ⟨_, rfl, rfl⟩ (t_pur (v := .bool true) Try.hb21 rfl fun w h => by have q := refSame t b17 w (ht.old h) (Mem.hseen h); rwa [decide_eq_true (show t.tr = b17.tr from p17.1.symm)] at q) rfl (fun _ => sk0) (fun b40 => ?_)
    refine wpd_p 23 rfl (by kernel_rfl) trivial (q_pure rfl) rfl sk0 ?_
    refine wpd_p 24 rfl (by kernel_rfl) trivial (q_pure rfl) rfl sk0 ?_
    refine wpd_done (by kernel_rfl) ?_
    refine ex_then ?_
    refine wpc_seq ?_
    refine wpc_region ?_
    refine wpl_q (q_ldN Try.underlying25 rfl Try.ti25 rfl LenC.h) rfl ?_
    refine wpl_tp (t_callQ b17.ents (.blk b6 25 b17.c :: .blk b5 25 b15.c :: .blk b3 25 u.c :: .blk b2 25 t.c :: b15.ents) (fun _ => .blk b6 25 b17.c :: .blk b5 25 b15.c :: .blk b3 25 u.c :: .blk b2 25 t.c :: b15.ents) (by have q := List.perm_append_comm_assoc [.blk b6 25 b17.c, .blk b5 25 b15.c, .blk b3 25 u.c, .blk b2 25 t.c] b17.ents b15.ents; exact q) (fun _ => List.Perm.refl _) Try.hb28 rfl fun w h h2 => spoil b17 w h2) rfl (fun b43 p43 => ?_)
    refine wpl_nil ?_
    refine ex_then ?_
    refine wpc_seq ?_
    refine wpc_region ?_
    refine wpl_q (q_pure rfl) rfl ?_
    refine wpl_q (q_pure rfl) rfl ?_
    refine wpl_on rfl rfl ?_
    refine wpl_q (q_ldN Try.underlying25 rfl Try.ti25 rfl LenC.h) rfl ?_
    refine wpl_on rfl rfl ?_
    refine wpl_q (q_ldN Try.underlying25 rfl Try.ti25 rfl LenC.h) rfl ?_
    refine wpl_on rfl rfl ?_
    refine wpl_t (t_pur (v := .bool true) Try.hb21 rfl fun w h => by have q := refSame t b15 w (ht.old h) (Mem.hseen h); rwa [decide_eq_true (show t.tr = b15.tr from p15.1.symm)] at q) rfl (fun b48 => ?_)
    refine wpl_q (q_pure rfl) rfl ?_
    refine wpl_q (q_pure rfl) rfl ?_
    refine wpl_nil ?_
    refine ex_then ?_
    refine wpc_ret ?_
    refine ret1 (.inl rfl) rfl rfl ?_
    exact fun w h => ⟨rfl, h.below⟩

end Go.Proofs.Ytommkigkkeailaa
