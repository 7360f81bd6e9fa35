/- What is encoded or refused. -/
import Derived.Test.YtommkigkkeailaaOAL
namespace Go.Proofs.Ytommkigkkeailaa
set_option linter.unusedSimpArgs false
set_option linter.unusedVariables false
open Go Go.PL Go.RowKit
set_option maxRecDepth 100000 in
theorem refused (av : Value) (xs : List UInt8) (w : World) (hav : Seen w.cell? av xs.length 1 (v8s xs)) (hd : decF xs = (Tr.z, 12)) :
    Calls Try.prog 40 [av].toArray w (Pur w (.bool true)) := by
  have sav := hav.sv
  have lav := sav.le
  simp only [maxLen] at lav
  refine enter (m := 17) (R := Mem w [] [] []) Try.func40 rfl rfl (Nat.le_of_ble_eq_true rfl) (Mem.start w) ?_
  refine wpc_seq ?_
  refine wpc_region ?_
  refine wpl_q (q_pure rfl) rfl ?_
  refine wpl_nil ?_
  refine ex_then ?_
  refine wpc_seq ?_
  refine wpc_region ?_
  refine wpl_q (q_pure rfl) rfl ?_
  refine wpl_tp (t_callPT Try.hb35 rfl fun w h => frz (decode av xs w (h.seen_old hav))) rfl (fun b7 p7 => ?_)
  haveI := p7.2.one
  refine wpl_q (q_pure rfl) rfl ?_
  refine wpl_q (q_pure rfl) rfl ?_
  refine wpl_q (q_pure rfl) rfl ?_
  refine wpl_t (t_alloc Try.ti25 HT.z.c rfl) rfl (fun b3 => ?_)
  refine wpl_t0 (t_stA Try.ti25 rfl rfl LenC.h OneC.h LenC.h) (fun _ => ?_)
  refine wpl_q (q_pure rfl) rfl ?_
  refine wpl_nil ?_
  refine ex_then ?_
  refine wpc_seq ?_
  refine wpc_region ?_
  refine wpl_q (q_pure rfl) rfl ?_
  refine wpl_q (q_bt (c := true) (q_eqI rfl rfl) (by rw [hd]; rfl)) rfl ?_
  refine wpl_q (q_pure rfl) rfl ?_
  refine wpl_on rfl rfl ?_
  refine wpl_q (q_ldN Try.underlying25 rfl Try.ti25 rfl LenC.h) rfl ?_
  refine wpl_on rfl rfl ?_
  refine wpl_q (q_build (cs := HT.z.c) rfl built_oz) rfl ?_
  refine wpl_on rfl rfl ?_
  refine wpl_t (t_pur (v := .bool true) Try.hb21 rfl fun w h => by have q := refSame b7 HT.z w (Mem.hseenF h (by simp)) ⟨seen_nil _ 0 _, seen_nil _ 0 _, trivial⟩; rwa [decide_eq_true (show b7.tr = HT.z.tr from p7.1.trans (by rw [hd]; rfl))] at q) rfl (fun b15 => ?_)
  refine wpl_q (q_pure rfl) rfl ?_
  refine wpl_q (q_pure rfl) rfl ?_
  refine wpl_nil ?_
  refine ex_then ?_
  refine wpc_ret ?_
  refine ret1 (.inl rfl) rfl rfl ?_
  exact fun w h => ⟨rfl, h.below⟩

set_option maxRecDepth 100000 in
theorem encodes (t : HT) (av : Value) (xs : List UInt8) (w : World) (ht : HSeen w.cell? t) (hav : Seen w.cell? av xs.length 1 (v8s xs)) (hsm : Sm t.tr) (hc : checkF t.tr = 0) (hx : enc t.tr = xs) :
    Calls Try.prog 60 [.agg t.c.toArray, av].toArray w (Pur w (.bool true)) := by
  haveI := ht.sv.one
  have sav := hav.sv
  have lav := sav.le
  simp only [maxLen] at lav
  refine enter (m := 35) (R := Mem w [] [] []) Try.func60 rfl rfl (Nat.le_of_ble_eq_true rfl) (Mem.start w) ?_
  refine wpc_seq ?_
  refine wpc_region ?_
  refine wpl_t (t_box rfl t.c rfl) rfl (fun b2 => ?_)
  refine wpl_q (q_pure rfl) rfl ?_
  refine wpl_nil ?_
  refine ex_then ?_
  refine wpc_seq ?_
  refine wpc_region ?_
  refine wpl_q (q_ldN Try.underlying25 rfl Try.ti25 rfl LenC.h) rfl ?_
  refine wpl_tp (t_callP1 Try.hb33 rfl fun w h => octEncode t w (ht.old h) hsm (by have := (checkF_ok hc).2.1; omega)) rfl (fun b11 p11 => ?_)
  rw [encF_ok hc] at p11
  refine wpl_q (q_pure rfl) rfl ?_
  refine wpl_q (q_pure rfl) rfl ?_
  refine wpl_q (q_pure rfl) rfl ?_
  refine wpl_q (q_pure rfl) rfl ?_
  refine wpl_q (q_pure rfl) rfl ?_
  refine wpl_nil ?_
  refine ex_then ?_
  refine wpc_seq ?_
  refine wpc_region ?_
  refine wpl_q (q_pure rfl) rfl ?_
  refine wpl_tp (t_callPT Try.hb35 rfl fun w h => frz (decode av xs w (h.seen_old hav))) rfl (fun b16 p16 => ?_)
  haveI := p16.2.one
  refine wpl_q (q_pure rfl) rfl ?_
  refine wpl_q (q_pure rfl) rfl ?_
  refine wpl_q (q_pure rfl) rfl ?_
  refine wpl_t (t_alloc Try.ti25 HT.z.c rfl) rfl (fun b7 => ?_)
  refine wpl_t0 (t_stA Try.ti25 rfl rfl LenC.h OneC.h LenC.h) (fun _ => ?_)
  refine wpl_q (q_pure rfl) rfl ?_
  refine wpl_nil ?_
  refine ex_then ?_
  refine wpc_seq ?_
  refine wpc_region ?_
  refine wpl_q (q_pure rfl) rfl ?_
  refine wpl_q (q_bt (c := true) (q_eqI rfl rfl) (by rw [encF_ok hc]; rfl)) rfl ?_
  refine wpl_q (q_pure rfl) rfl ?_
  refine wpl_on rfl rfl ?_
  refine wpl_q (q_pure rfl) rfl ?_
  refine wpl_on rfl rfl ?_
  refine wpl_q (q_pure rfl) rfl ?_
  refine wpl_on rfl rfl ?_
  refine wpl_t (t_pur (v := .bool true) Try.hb37 rfl fun w h => by have q := sameB b11 (encF t.tr).1 av xs w h.seenV (h.seen_old hav); rwa [decide_eq_true (show (encF t.tr).1 = xs by rw [encF_ok hc]; exact hx)] at q) rfl (fun b24 => ?_)
  refine wpl_q (q_pure rfl) rfl ?_
  refine wpl_q (q_pure rfl) rfl ?_
  refine wpl_on rfl rfl ?_
  refine wpl_q (q_pure rfl) rfl ?_
  refine wpl_on rfl rfl ?_
  refine wpl_q (q_bt (c := true) (q_eqI rfl rfl) (by rw [← hx, dec_enc hsm hc]; rfl)) rfl ?_
  refine wpl_q (q_pure rfl) rfl ?_
  refine wpl_q (q_pure rfl) rfl ?_
  refine wpl_on rfl rfl ?_
  refine wpl_q (q_ldN Try.underlying25 rfl Try.ti25 rfl LenC.h) rfl ?_
  refine wpl_on rfl rfl ?_
  refine wpl_q (q_ldN Try.underlying25 rfl Try.ti25 rfl LenC.h) rfl ?_
  refine wpl_on rfl rfl ?_
  refine wpl_t (t_pur (v := .bool true) Try.hb21 rfl fun w h => by have q := refSame b16 t w (Mem.hseenF h (by simp)) (ht.old h); rwa [decide_eq_true (show b16.tr = t.tr from p16.1.trans (show t.tr = (decF xs).1 by rw [← hx, dec_enc hsm hc]).symm)] at q) rfl (fun b33 => ?_)
  refine wpl_q (q_pure rfl) rfl ?_
  refine wpl_q (q_pure rfl) rfl ?_
  refine wpl_nil ?_
  refine ex_then ?_
  refine wpc_ret ?_
  refine ret1 (.inl rfl) rfl rfl ?_
  exact fun w h => ⟨rfl, h.below⟩

end Go.Proofs.Ytommkigkkeailaa
