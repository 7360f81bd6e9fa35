/- What the statement reaches, in order. -/
import Derived.Test.YtjpfhkjmjnjggaaDoorMSTI
import Derived.Test.YtjpfhkjmjnjggaaDoorMSPLI
import Derived.Test.YtjpfhkjmjnjggaaDoorMSPLZ
import Derived.Test.YtjpfhkjmjnjggaaDoorMSPLL
import Derived.Test.YtjpfhkjmjnjggaaDoorMSPLN
import Derived.Test.YtjpfhkjmjnjggaaDoorMSPLP
import Derived.WalkKit
import Derived.ProofKit
import Derived.OpenShut
import Derived.ChangeOld
import Derived.Below
import Derived.Carry
import Derived.LaidMore
import Derived.Deep.DeepHandedRow
import Derived.Deep.DeepWitnessRowRef
import Derived.Lib.LaidTab
import Derived.Stop.Joined
import Derived.Test.YtjpfhkjmjnjggaaDoorMS4
set_option linter.unusedSimpArgs false
set_option linter.unusedVariables false
set_option maxRecDepth 100000
namespace Go.Proofs.YtjpfhkjmjnjggaaDoor
open Go Go.PL Go.RowKit
theorem refMessage_step (p : Pth) (j : Nat) (w : World) (hp : p.seen w.cell?) (hj : j < p.hs.length) (hlim : SmP p) (ih : ∀ m, m + 1 = j → ∀ w, p.seen w.cell? → Calls Tryd.prog 39 [.agg p.c.toArray, .int .i64 ((m : Nat) : Int)].toArray w (GivesP w (fun v => SV v (msgB p m).length) (fun v => v) (fun v => [.row v (msgB p m).length 5 1 (v8s (msgB p m))]) (fun _ => []))) :
    Calls Tryd.prog 39 [.agg p.c.toArray, .int .i64 ((j : Nat) : Int)].toArray w (GivesP w (fun v => SV v (msgB p j).length) (fun v => v) (fun v => [.row v (msgB p j).length 5 1 (v8s (msgB p j))]) (fun _ => [])) := by
  obtain ⟨pf, pa, pb, pl, hv, hs⟩ := p
  have hh : Seen w.cell? hv hs.length 24 (hcs hs) := hp.1
  have svh := hh.sv
  have lh := svh.le
  simp only [maxLen] at lh
  refine enter (m := 101) (R := Mem w [] [] []) Tryd.func39 rfl rfl (Nat.le_of_ble_eq_true rfl) (Mem.start w) ?_
  refine wpc_seq <| wpc_region ?_
  refine wpl_t (t_box rfl [.int .u8 (pf.toNat : Int), .int .u64 (pa.toNat : Int), .int .u64 (pb.toNat : Int), .int .i64 pl, hv] rfl) rfl (fun b2 => ?_)
  refine wpl_q (q_pure rfl) rfl <| wpl_nil <| ex_then <| wpc_seq ?_
  have hsj := hp.2 _ (getD_memO hj)
  haveI := hsj.sv.one
  refine wpc_region <| wpl_q (q_field Tryd.underlying29 rfl Tryd.ti27 rfl rfl _ rfl) rfl <| wpl_q (q_ld Tryd.underlying27 rfl rfl rfl) rfl <| wpl_q (q_pure rfl) rfl ?_
  refine wpl_q (q_idxW Tryd.underlying27 Tryd.ti68 rfl rfl zz4 zz1) rfl ?_
  refine wpl_q (q_ldWN Tryd.underlying68 rfl Tryd.ti68 rfl (fun w h => h.seen_old hh) (hs.getD j Hop.z).c (cat_part Hop.c_length Hop.z hj) (Hop.c_length _)) rfl ?_
  refine wpl_t (t_alloc Tryd.ti68 Hop.z.c rfl) rfl (fun b5 => ?_)
  refine wpl_t0 (t_stA Tryd.ti68 rfl rfl LenC.h OneC.h LenC.h) (fun _ => ?_)
  refine wpl_nil <| ex_then <| wpc_seq ?_
  refine wpc_draw 99 zz6 (fun _ h => h.drew) ?_
  refine wpd_p 0 rfl zz6 trivial (q_field Tryd.underlying68 rfl Tryd.ti49 rfl rfl _ rfl) rfl sk0 ?_
  refine wpd_q 1 rfl zz6 trivial (q_ld Tryd.underlying49 rfl rfl (Hop.c_to _)) rfl (fun _ h => h) ?_
  refine wpd_p 2 rfl zz6 trivial (q64_conv Tryd.underlying49 Tryd.underlying22 rfl) rfl sk0 ?_
  refine wpd_p 4 rfl zz6 trivial (q_field Tryd.underlying68 rfl Tryd.ti49 rfl rfl _ rfl) rfl sk0 ?_
  refine wpd_q 5 rfl zz6 trivial (q_ld Tryd.underlying49 rfl rfl (Hop.c_sy _)) rfl (fun _ h => h) ?_
  refine wpd_p 6 rfl zz6 trivial (q64_conv Tryd.underlying49 Tryd.underlying22 rfl) rfl sk0 ?_
  refine wpd_p 8 rfl zz6 trivial (q_field Tryd.underlying68 rfl Tryd.ti5 rfl rfl _ rfl) rfl sk0 ?_
  refine wpd_q 9 rfl zz6 trivial (q_ld Tryd.underlying5 rfl rfl (Hop.c_cnt _)) rfl (fun _ h => h) ?_
  refine wpd_p 10 rfl zz6 trivial (q64_conv Tryd.underlying5 Tryd.underlying22 rfl) rfl sk0 ?_
  refine wpd_p 12 rfl zz6 trivial (q_field Tryd.underlying68 rfl Tryd.ti5 rfl rfl _ rfl) rfl sk0 ?_
  refine wpd_q 13 rfl zz6 trivial (q_ld Tryd.underlying5 rfl rfl (Hop.c_fl _)) rfl (fun _ h => h) ?_
  refine wpd_p 14 rfl zz6 trivial (q64_conv Tryd.underlying5 Tryd.underlying22 rfl) rfl sk0 ?_
  refine wpd_tp 3 rfl zz6 trivial (t_callR0 (m' := 0 + 4) (ys := v8s ([] ++ (numK 4 (hs.getD j Hop.z).to.toNat))) 5 1 Tryd.hb56 rfl fun w h hr => numA _ [] (numK 4 (hs.getD j Hop.z).to.toNat) (of64 (((hs.getD j Hop.z).to.toNat : Nat) : Int)) 4 0 w hr rfl SV.nil zz19 zz19 zz19 (hz32 _ 4)) rfl (fun _ => (fun w h => .inr (h.sub SubC.h SubC.h))) (fun b19 p19 => ?_)
  refine wpd_tp 7 rfl zz6 trivial (t_callR (m := 4) (m' := 4 + 4) (xs := v8s (numK 4 (hs.getD j Hop.z).to.toNat)) (ys := v8s ((numK 4 (hs.getD j Hop.z).to.toNat) ++ (numK 4 (hs.getD j Hop.z).sy.toNat))) Tryd.hb56 rfl fun w h hr => numA b19 (numK 4 (hs.getD j Hop.z).to.toNat) (numK 4 (hs.getD j Hop.z).sy.toNat) (of64 (((hs.getD j Hop.z).sy.toNat : Nat) : Int)) 4 (4) w hr (by simp [numK_len, s16l]) p19 zz19 zz19 zz14 (hz32 _ 4)) rfl (fun _ => (fun w h => .inr (h.sub SubC.h SubC.h))) (fun b23 p23 => ?_)
  refine wpd_tp 11 rfl zz6 trivial (t_callR (m := 8) (m' := 8 + 1) (xs := v8s ((numK 4 (hs.getD j Hop.z).to.toNat) ++ numK 4 (hs.getD j Hop.z).sy.toNat)) (ys := v8s (((numK 4 (hs.getD j Hop.z).to.toNat) ++ numK 4 (hs.getD j Hop.z).sy.toNat) ++ [(hs.getD j Hop.z).cnt])) Tryd.hb56 rfl fun w h hr => numA b23 ((numK 4 (hs.getD j Hop.z).to.toNat) ++ numK 4 (hs.getD j Hop.z).sy.toNat) [(hs.getD j Hop.z).cnt] (of64 (((hs.getD j Hop.z).cnt.toNat : Nat) : Int)) 1 (8) w hr (by simp [numK_len, s16l]) p23 zz19 zz19 zz14 (hz8 _)) rfl (fun _ => (fun w h => .inr (h.sub SubC.h SubC.h))) (fun b27 p27 => ?_)
  refine wpd_tp 15 rfl zz6 trivial (t_callR (m := 9) (m' := 9 + 1) (xs := v8s (((numK 4 (hs.getD j Hop.z).to.toNat) ++ numK 4 (hs.getD j Hop.z).sy.toNat) ++ [(hs.getD j Hop.z).cnt])) (ys := v8s ((((numK 4 (hs.getD j Hop.z).to.toNat) ++ numK 4 (hs.getD j Hop.z).sy.toNat) ++ [(hs.getD j Hop.z).cnt]) ++ [(hs.getD j Hop.z).fl])) Tryd.hb56 rfl fun w h hr => numA b27 (((numK 4 (hs.getD j Hop.z).to.toNat) ++ numK 4 (hs.getD j Hop.z).sy.toNat) ++ [(hs.getD j Hop.z).cnt]) [(hs.getD j Hop.z).fl] (of64 (((hs.getD j Hop.z).fl.toNat : Nat) : Int)) 1 (9) w hr (by simp [numK_len, s16l]) p27 zz19 zz19 zz14 (hz8 _)) rfl (fun _ => (fun w h => .inr (h.sub SubC.h SubC.h))) (fun b31 p31 => ?_)
  refine wpd_p 16 rfl zz6 trivial (q_pure rfl) rfl (fun w h => .inr (h.sub SubC.h SubC.h)) ?_
  refine wpd_done zz6 ?_
  refine ex_then <| wpc_seq ?_
  refine wpc_drawM [.blk b5 68 (hs.getD j Hop.z).c] 99 zz6 zz8 ?_
  refine wpd_p 0 rfl zz6 trivial (q_pure rfl) rfl (fun w h => .inr (h.sub SubC.h SubC.h)) ?_
  refine wpd_p 1 rfl zz6 trivial (q_field Tryd.underlying68 rfl Tryd.ti63 rfl rfl _ rfl) rfl (fun w h => .inr (h.sub SubC.h SubC.h)) ?_
  refine wpd_p 2 rfl zz6 trivial (q_field Tryd.underlying63 rfl Tryd.ti61 rfl rfl _ rfl) rfl (fun w h => .inr (h.sub SubC.h SubC.h)) ?_
  refine wpd_q 3 rfl zz6 trivial (q_ldP Tryd.underlying61 rfl Tryd.ti61 rfl (v8s (hs.getD j Hop.z).root.1) (Hop.c_root _) (S16.len _)) rfl (fun w h => h.sub SubC.h SubC.h) ?_
  refine wpd_p 6 rfl zz6 trivial (q_field Tryd.underlying68 rfl Tryd.ti63 rfl rfl _ rfl) rfl (fun w h => .inr (h.sub SubC.h SubC.h)) ?_
  refine wpd_p 7 rfl zz6 trivial (q_field Tryd.underlying63 rfl Tryd.ti3 rfl rfl _ rfl) rfl (fun w h => .inr (h.sub SubC.h SubC.h)) ?_
  refine wpd_q 8 rfl zz6 trivial (q_ld Tryd.underlying3 rfl rfl (Hop.c_ht _)) rfl (fun w h => h.sub SubC.h SubC.h) ?_
  refine wpd_p 9 rfl zz6 trivial (q64_conv Tryd.underlying3 Tryd.underlying22 rfl) rfl (fun w h => .inr (h.sub SubC.h SubC.h)) ?_
  refine wpd_tp 4 rfl zz6 trivial (t_bsS [(hs.getD j Hop.z).root.1] Tryd.underlying64 Tryd.ti61 rfl zz19 rfl zz19 zz19 rfl (all_one (hs.getD j Hop.z).root.2)) rfl (fun _ => (fun w h => .inr (h.sub SubC.h SubC.h))) (fun b36 p36 => ?_)
  refine wpd_tp 5 rfl zz6 trivial (t_callR (m := 10) (m' := 10 + [(hs.getD j Hop.z).root.1].length * 16) (xs := v8s ((((numK 4 (hs.getD j Hop.z).to.toNat) ++ numK 4 (hs.getD j Hop.z).sy.toNat) ++ [(hs.getD j Hop.z).cnt]) ++ [(hs.getD j Hop.z).fl])) (ys := v8s (((((numK 4 (hs.getD j Hop.z).to.toNat) ++ numK 4 (hs.getD j Hop.z).sy.toNat) ++ [(hs.getD j Hop.z).cnt]) ++ [(hs.getD j Hop.z).fl]) ++ [(hs.getD j Hop.z).root.1].flatten)) Tryd.hb57 rfl fun w h hr => shA b31 ((((numK 4 (hs.getD j Hop.z).to.toNat) ++ numK 4 (hs.getD j Hop.z).sy.toNat) ++ [(hs.getD j Hop.z).cnt]) ++ [(hs.getD j Hop.z).fl]) b36 [(hs.getD j Hop.z).root.1] (10) w hr (by simp [numK_len, s16l]) p31 (seen_rowO h (List.mem_cons_self ..) (fun k hk => (List.pairwise_cons.1 h.apart).1 _ zz50 k hk)) (all_one (hs.getD j Hop.z).root.2) (show 1 ≤ 1000 from zz19) zz14) rfl (fun _ => (fun w h => .inr (h.sub SubC.h SubC.h))) (fun b37 p37 => ?_)
  refine wpd_tp 10 rfl zz6 trivial (t_callR (m := 26) (m' := 26 + 1) (xs := v8s (((((numK 4 (hs.getD j Hop.z).to.toNat) ++ numK 4 (hs.getD j Hop.z).sy.toNat) ++ [(hs.getD j Hop.z).cnt]) ++ [(hs.getD j Hop.z).fl]) ++ [(hs.getD j Hop.z).root.1].flatten)) (ys := v8s ((((((numK 4 (hs.getD j Hop.z).to.toNat) ++ numK 4 (hs.getD j Hop.z).sy.toNat) ++ [(hs.getD j Hop.z).cnt]) ++ [(hs.getD j Hop.z).fl]) ++ [(hs.getD j Hop.z).root.1].flatten) ++ [of8 (hs.getD j Hop.z).ht])) Tryd.hb56 rfl fun w h hr => numA b37 (((((numK 4 (hs.getD j Hop.z).to.toNat) ++ numK 4 (hs.getD j Hop.z).sy.toNat) ++ [(hs.getD j Hop.z).cnt]) ++ [(hs.getD j Hop.z).fl]) ++ [(hs.getD j Hop.z).root.1].flatten) [of8 (hs.getD j Hop.z).ht] (of64 (hs.getD j Hop.z).ht) 1 (26) w hr (by simp [numK_len, s16l]) p37 zz19 zz19 zz14 (hzi _)) rfl (fun _ => (fun w h => .inr (h.sub SubC.h SubC.h))) (fun b42 p42 => ?_)
  refine wpd_p 11 rfl zz6 trivial (q_pure rfl) rfl (fun w h => .inr (h.sub SubC.h SubC.h)) ?_
  refine wpd_done zz6 ?_
  refine ex_then <| wpc_seq <| wpc_seq <| wpc_region <| wpl_q (q_pure rfl) rfl <| wpl_q (q_pure rfl) rfl <| wpl_nil <| ex_then ?_
  refine wpc_cond rfl (fun hc44 => ?_) (fun hc44 => ?_)
  ·
   obtain rfl : j = 0 := by simpa using hc44
   refine wpc_seq ?_
   refine wpc_drawM [.blk b2 29 [.int .u8 (pf.toNat : Int), .int .u64 (pa.toNat : Int), .int .u64 (pb.toNat : Int), .int .i64 pl, hv]] 99 zz6 zz8 ?_
   refine wpd_p 0 rfl zz6 trivial (q_pure rfl) rfl (fun w h => .inr (h.sub SubC.h SubC.h)) ?_
   refine wpd_p 1 rfl zz6 trivial (q_field Tryd.underlying29 rfl Tryd.ti26 rfl rfl _ rfl) rfl (fun w h => .inr (h.sub SubC.h SubC.h)) ?_
   refine wpd_p 2 rfl zz6 trivial (q_field Tryd.underlying26 rfl Tryd.ti5 rfl rfl _ rfl) rfl (fun w h => .inr (h.sub SubC.h SubC.h)) ?_
   refine wpd_q 3 rfl zz6 trivial (q_ld Tryd.underlying5 rfl rfl zz38) rfl (fun w h => h.sub SubC.h SubC.h) ?_
   refine wpd_p 4 rfl zz6 trivial (q64_conv Tryd.underlying5 Tryd.underlying22 rfl) rfl (fun w h => .inr (h.sub SubC.h SubC.h)) ?_
   refine wpd_p 6 rfl zz6 trivial (q_field Tryd.underlying29 rfl Tryd.ti26 rfl rfl _ rfl) rfl (fun w h => .inr (h.sub SubC.h SubC.h)) ?_
   refine wpd_p 7 rfl zz6 trivial (q_field Tryd.underlying26 rfl Tryd.ti3 rfl rfl _ rfl) rfl (fun w h => .inr (h.sub SubC.h SubC.h)) ?_
   refine wpd_q 8 rfl zz6 trivial (q_ld Tryd.underlying3 rfl rfl zz34) rfl (fun w h => h.sub SubC.h SubC.h) ?_
   refine wpd_p 9 rfl zz6 trivial (q64_conv Tryd.underlying3 Tryd.underlying22 rfl) rfl (fun w h => .inr (h.sub SubC.h SubC.h)) ?_
   refine wpd_tp 5 rfl zz6 trivial (t_callR (m := 27) (m' := 27 + 1) (xs := v8s ((((((numK 4 (hs.getD 0 Hop.z).to.toNat) ++ numK 4 (hs.getD 0 Hop.z).sy.toNat) ++ [(hs.getD 0 Hop.z).cnt]) ++ [(hs.getD 0 Hop.z).fl]) ++ [(hs.getD 0 Hop.z).root.1].flatten) ++ [of8 (hs.getD 0 Hop.z).ht])) (ys := v8s (((((((numK 4 (hs.getD 0 Hop.z).to.toNat) ++ numK 4 (hs.getD 0 Hop.z).sy.toNat) ++ [(hs.getD 0 Hop.z).cnt]) ++ [(hs.getD 0 Hop.z).fl]) ++ [(hs.getD 0 Hop.z).root.1].flatten) ++ [of8 (hs.getD 0 Hop.z).ht]) ++ [pf])) Tryd.hb56 rfl fun w h hr => numA b42 ((((((numK 4 (hs.getD 0 Hop.z).to.toNat) ++ numK 4 (hs.getD 0 Hop.z).sy.toNat) ++ [(hs.getD 0 Hop.z).cnt]) ++ [(hs.getD 0 Hop.z).fl]) ++ [(hs.getD 0 Hop.z).root.1].flatten) ++ [of8 (hs.getD 0 Hop.z).ht]) [pf] (of64 ((pf.toNat : Nat) : Int)) 1 (27) w hr (by simp [numK_len, s16l]) p42 zz19 zz19 zz14 (hz8 _)) rfl (fun _ => (fun w h => .inr (h.sub SubC.h SubC.h))) (fun b50 p50 => ?_)
   refine wpd_tp 10 rfl zz6 trivial (t_callR (m := 28) (m' := 28 + 1) (xs := v8s (((((((numK 4 (hs.getD 0 Hop.z).to.toNat) ++ numK 4 (hs.getD 0 Hop.z).sy.toNat) ++ [(hs.getD 0 Hop.z).cnt]) ++ [(hs.getD 0 Hop.z).fl]) ++ [(hs.getD 0 Hop.z).root.1].flatten) ++ [of8 (hs.getD 0 Hop.z).ht]) ++ [pf])) (ys := v8s ((((((((numK 4 (hs.getD 0 Hop.z).to.toNat) ++ numK 4 (hs.getD 0 Hop.z).sy.toNat) ++ [(hs.getD 0 Hop.z).cnt]) ++ [(hs.getD 0 Hop.z).fl]) ++ [(hs.getD 0 Hop.z).root.1].flatten) ++ [of8 (hs.getD 0 Hop.z).ht]) ++ [pf]) ++ [of8 pl])) Tryd.hb56 rfl fun w h hr => numA b50 (((((((numK 4 (hs.getD 0 Hop.z).to.toNat) ++ numK 4 (hs.getD 0 Hop.z).sy.toNat) ++ [(hs.getD 0 Hop.z).cnt]) ++ [(hs.getD 0 Hop.z).fl]) ++ [(hs.getD 0 Hop.z).root.1].flatten) ++ [of8 (hs.getD 0 Hop.z).ht]) ++ [pf]) [of8 pl] (of64 pl) 1 (28) w hr (by simp [numK_len, s16l]) p50 zz19 zz19 zz14 (hzi _)) rfl (fun _ => (fun w h => .inr (h.sub SubC.h SubC.h))) (fun b55 p55 => ?_)
   refine wpd_p 11 rfl zz6 trivial (q_pure rfl) rfl (fun w h => .inr (h.sub SubC.h SubC.h)) ?_
   refine wpd_done zz6 ?_
   refine ex_then <| wpc_seq ?_
   refine wpc_drawM [.blk b2 29 [.int .u8 (pf.toNat : Int), .int .u64 (pa.toNat : Int), .int .u64 (pb.toNat : Int), .int .i64 pl, hv]] 99 zz6 zz8 ?_
   refine wpd_p 0 rfl zz6 trivial (q_pure rfl) rfl (fun w h => .inr (h.sub SubC.h SubC.h)) ?_
   refine wpd_p 1 rfl zz6 trivial (q_field Tryd.underlying29 rfl Tryd.ti26 rfl rfl _ rfl) rfl (fun w h => .inr (h.sub SubC.h SubC.h)) ?_
   refine wpd_p 2 rfl zz6 trivial (q_field Tryd.underlying26 rfl Tryd.ti24 rfl rfl _ rfl) rfl (fun w h => .inr (h.sub SubC.h SubC.h)) ?_
   refine wpd_p 3 rfl zz6 trivial (q_field Tryd.underlying24 rfl Tryd.ti22 rfl rfl _ rfl) rfl (fun w h => .inr (h.sub SubC.h SubC.h)) ?_
   refine wpd_q 4 rfl zz6 trivial (q_ld Tryd.underlying22 rfl rfl zz35) rfl (fun w h => h.sub SubC.h SubC.h) ?_
   refine wpd_p 6 rfl zz6 trivial (q_field Tryd.underlying29 rfl Tryd.ti26 rfl rfl _ rfl) rfl (fun w h => .inr (h.sub SubC.h SubC.h)) ?_
   refine wpd_p 7 rfl zz6 trivial (q_field Tryd.underlying26 rfl Tryd.ti24 rfl rfl _ rfl) rfl (fun w h => .inr (h.sub SubC.h SubC.h)) ?_
   refine wpd_p 8 rfl zz6 trivial (q_field Tryd.underlying24 rfl Tryd.ti22 rfl rfl _ rfl) rfl (fun w h => .inr (h.sub SubC.h SubC.h)) ?_
   refine wpd_q 9 rfl zz6 trivial (q_ld Tryd.underlying22 rfl rfl zz35) rfl (fun w h => h.sub SubC.h SubC.h) ?_
   refine wpd_tp 5 rfl zz6 trivial (t_callR (m := 29) (m' := 29 + 8) (xs := v8s ((((((((numK 4 (hs.getD 0 Hop.z).to.toNat) ++ numK 4 (hs.getD 0 Hop.z).sy.toNat) ++ [(hs.getD 0 Hop.z).cnt]) ++ [(hs.getD 0 Hop.z).fl]) ++ [(hs.getD 0 Hop.z).root.1].flatten) ++ [of8 (hs.getD 0 Hop.z).ht]) ++ [pf]) ++ [of8 pl])) (ys := v8s (((((((((numK 4 (hs.getD 0 Hop.z).to.toNat) ++ numK 4 (hs.getD 0 Hop.z).sy.toNat) ++ [(hs.getD 0 Hop.z).cnt]) ++ [(hs.getD 0 Hop.z).fl]) ++ [(hs.getD 0 Hop.z).root.1].flatten) ++ [of8 (hs.getD 0 Hop.z).ht]) ++ [pf]) ++ [of8 pl]) ++ (numK 8 pa.toNat))) Tryd.hb56 rfl fun w h hr => numA b55 ((((((((numK 4 (hs.getD 0 Hop.z).to.toNat) ++ numK 4 (hs.getD 0 Hop.z).sy.toNat) ++ [(hs.getD 0 Hop.z).cnt]) ++ [(hs.getD 0 Hop.z).fl]) ++ [(hs.getD 0 Hop.z).root.1].flatten) ++ [of8 (hs.getD 0 Hop.z).ht]) ++ [pf]) ++ [of8 pl]) (numK 8 pa.toNat) pa 8 (29) w hr (by simp [numK_len, s16l]) p55 zz19 zz19 zz14 rfl) rfl (fun _ => (fun w h => .inr (h.sub SubC.h SubC.h))) (fun b61 p61 => ?_)
   refine wpd_tp 10 rfl zz6 trivial (t_callR (m := 37) (m' := 37 + 8) (xs := v8s (((((((((numK 4 (hs.getD 0 Hop.z).to.toNat) ++ numK 4 (hs.getD 0 Hop.z).sy.toNat) ++ [(hs.getD 0 Hop.z).cnt]) ++ [(hs.getD 0 Hop.z).fl]) ++ [(hs.getD 0 Hop.z).root.1].flatten) ++ [of8 (hs.getD 0 Hop.z).ht]) ++ [pf]) ++ [of8 pl]) ++ numK 8 pa.toNat)) (ys := v8s ((((((((((numK 4 (hs.getD 0 Hop.z).to.toNat) ++ numK 4 (hs.getD 0 Hop.z).sy.toNat) ++ [(hs.getD 0 Hop.z).cnt]) ++ [(hs.getD 0 Hop.z).fl]) ++ [(hs.getD 0 Hop.z).root.1].flatten) ++ [of8 (hs.getD 0 Hop.z).ht]) ++ [pf]) ++ [of8 pl]) ++ numK 8 pa.toNat) ++ (numK 8 pb.toNat))) Tryd.hb56 rfl fun w h hr => numA b61 (((((((((numK 4 (hs.getD 0 Hop.z).to.toNat) ++ numK 4 (hs.getD 0 Hop.z).sy.toNat) ++ [(hs.getD 0 Hop.z).cnt]) ++ [(hs.getD 0 Hop.z).fl]) ++ [(hs.getD 0 Hop.z).root.1].flatten) ++ [of8 (hs.getD 0 Hop.z).ht]) ++ [pf]) ++ [of8 pl]) ++ numK 8 pa.toNat) (numK 8 pb.toNat) pb 8 (37) w hr (by simp [numK_len, s16l]) p61 zz19 zz19 zz14 rfl) rfl (fun _ => (fun w h => .inr (h.sub SubC.h SubC.h))) (fun b66 p66 => ?_)
   refine wpd_p 11 rfl zz6 trivial (q_pure rfl) rfl (fun w h => .inr (h.sub SubC.h SubC.h)) ?_
   refine wpd_done zz6 ?_
   refine ex_then <| wpc_ret ?_
   refine ex_then_ret ?_
   refine ret1 (.inl rfl) rfl rfl ?_
   have hfe := msg0_eq ⟨pf, pa, pb, pl, hv, hs⟩ _ rfl
   have hfl : 45 = (msgB ⟨pf, pa, pb, pl, hv, hs⟩ 0).length := by rw [← hfe]; simp [numK_len, s16l]
   exact fun w h => ⟨b66, hfl ▸ p66, rfl, h.below, by rw [← hfl, ← hfe]; exact h.made SubC.h .nil⟩
  ·
   have hj0 : ¬ j = 0 := by simpa using hc44
   obtain ⟨m, rfl⟩ : ∃ m, j = m + 1 := ⟨j - 1, zz14⟩
   have hjq : m + 1 < hs.length := hj
   have hjm : m < hs.length := by omega
   have hsm : ((hs.getD m Hop.z)).seen w.cell? := hp.2 _ (getD_memO hjm)
   have hlm : (hs.getD m Hop.z).chs.length ≤ 100 ∧ (hs.getD m Hop.z).ps.length ≤ 100 := hlim _ (getD_memO hjm)
   haveI := hsm.sv.sigOne
   have hml := msgB_len ⟨pf, pa, pb, pl, hv, hs⟩ m
   refine wpc_skip <| ex_then <| wpc_seq <| wpc_region <| wpl_q (q_field Tryd.underlying29 rfl Tryd.ti27 rfl rfl _ rfl) rfl <| wpl_q (q_ld Tryd.underlying27 rfl rfl rfl) rfl <| wpl_q (q_pure rfl) rfl ?_
   refine wpl_q (q_subN (b := 1) rfl rfl zz14 zz1) rfl ?_
   refine wpl_q (q_idxW Tryd.underlying27 Tryd.ti68 rfl rfl zz4 zz1) rfl ?_
   refine wpl_q (q_fieldPo 21 Tryd.underlying68 rfl Tryd.ti66 rfl rfl rfl) rfl ?_
   refine wpl_q (q_ldWFN Tryd.underlying66 rfl Tryd.ti66 rfl (fun w h => h.seen_old hh) (hs.getD m Hop.z).sig (hcs_sig hjm) rfl) rfl ?_
   refine wpl_t (t_alloc Tryd.ti66 Hop.z.sig rfl) rfl (fun b7 => ?_)
   refine wpl_t0 (t_stA Tryd.ti66 rfl rfl LenC.h OneC.h LenC.h) (fun _ => ?_)
   refine wpl_nil <| ex_then <| wpc_seq ?_
   refine wpc_draw 99 zz6 (fun _ h => h.drew) ?_
   refine wpd_q 0 rfl zz6 trivial (q_ldN Tryd.underlying29 rfl Tryd.ti29 rfl LenC.h) rfl (fun _ h => h) ?_
   refine wpd_p 1 rfl zz6 trivial (q_pure rfl) rfl sk0 ?_
   refine wpd_p 2 rfl zz6 trivial (q_subN (b := 1) rfl rfl zz14 zz1) rfl sk0 ?_
   refine wpd_p 4 rfl zz6 trivial (q_field Tryd.underlying66 rfl Tryd.ti3 rfl rfl _ rfl) rfl sk0 ?_
   refine wpd_q 5 rfl zz6 trivial (q_ld Tryd.underlying3 rfl rfl zz34) rfl (fun _ h => h) ?_
   refine wpd_p 6 rfl zz6 trivial (q64_conv Tryd.underlying3 Tryd.underlying22 rfl) rfl sk0 ?_
   refine wpd_tp 3 rfl zz6 trivial (t_callP1 Tryd.hb39 rfl fun w h => ih m rfl w (hp.old h)) rfl (fun _ => (fun w h => .inr (h.sub SubC.h SubC.h))) (fun b77 p77 => ?_)
   refine wpd_tp 7 rfl zz6 trivial (t_callR (m := (msgB ⟨pf, pa, pb, pl, hv, hs⟩ m).length) (m' := (msgB ⟨pf, pa, pb, pl, hv, hs⟩ m).length + 4) (xs := v8s (msgB ⟨pf, pa, pb, pl, hv, hs⟩ m)) (ys := v8s ((msgB ⟨pf, pa, pb, pl, hv, hs⟩ m) ++ (numK 4 (of64 (hs.getD m Hop.z).ix).toNat))) Tryd.hb56 rfl fun w h hr => numA b77 (msgB ⟨pf, pa, pb, pl, hv, hs⟩ m) (numK 4 (of64 (hs.getD m Hop.z).ix).toNat) (of64 (hs.getD m Hop.z).ix) 4 ((msgB ⟨pf, pa, pb, pl, hv, hs⟩ m).length) w hr rfl p77 zz19 zz19 zz14 rfl) rfl (fun _ => (fun w h => .inr (h.sub SubC.h SubC.h))) (fun b81 p81 => ?_)
   refine wpd_p 8 rfl zz6 trivial (q_pure rfl) rfl (fun w h => .inr (h.sub SubC.h SubC.h)) ?_
   refine wpd_done zz6 ?_
   refine ex_then <| wpc_seq ?_
   refine wpc_drawM [.blk b7 66 (hs.getD m Hop.z).sig] 9 zz6 zz8 ?_
   refine wpd_p 0 rfl zz6 trivial (q_pure rfl) rfl (fun w h => .inr (h.sub SubC.h SubC.h)) ?_
   refine wpd_p 1 rfl zz6 trivial (q_field Tryd.underlying66 rfl Tryd.ti64 rfl rfl _ rfl) rfl (fun w h => .inr (h.sub SubC.h SubC.h)) ?_
   refine wpd_q 2 rfl zz6 trivial (q_ld Tryd.underlying64 rfl rfl rfl) rfl (fun w h => h.sub SubC.h SubC.h) ?_
   refine wpd_p 4 rfl zz6 trivial (q_field Tryd.underlying66 rfl Tryd.ti64 rfl rfl _ rfl) rfl (fun w h => .inr (h.sub SubC.h SubC.h)) ?_
   refine wpd_q 5 rfl zz6 trivial (q_ld Tryd.underlying64 rfl rfl rfl) rfl (fun w h => h.sub SubC.h SubC.h) ?_
   refine wpd_two 3 8 zz6 ?_ ?_
   ·
    refine wpa_tp 3 rfl trivial (t_callR (m := (msgB ⟨pf, pa, pb, pl, hv, hs⟩ m).length + 4) (m' := (msgB ⟨pf, pa, pb, pl, hv, hs⟩ m).length + 4 + (hs.getD m Hop.z).chs.length * 16) (xs := v8s ((msgB ⟨pf, pa, pb, pl, hv, hs⟩ m) ++ numK 4 (of64 (hs.getD m Hop.z).ix).toNat)) (ys := v8s (((msgB ⟨pf, pa, pb, pl, hv, hs⟩ m) ++ numK 4 (of64 (hs.getD m Hop.z).ix).toNat) ++ (hs.getD m Hop.z).chs.flatten)) Tryd.hb57 rfl fun w h hr => shA b81 ((msgB ⟨pf, pa, pb, pl, hv, hs⟩ m) ++ numK 4 (of64 (hs.getD m Hop.z).ix).toNat) (hs.getD m Hop.z).cv (hs.getD m Hop.z).chs ((msgB ⟨pf, pa, pb, pl, hv, hs⟩ m).length + 4) w hr (by rw [List.length_append, numK_len]) p81 (hsm.1.mono (rdo_nil h zz50)) hsm.2.1 zz14 zz14) rfl (fun _ => (fun w h => .inr (h.sub SubC.h SubC.h))) (fun b85 p85 => ?_)
    refine wpd_two 6 8 zz6 ?_ ?_
    ·
     refine wpa_tp 6 rfl trivial (t_callR (m := (msgB ⟨pf, pa, pb, pl, hv, hs⟩ m).length + 4 + (hs.getD m Hop.z).chs.length * 16) (m' := (msgB ⟨pf, pa, pb, pl, hv, hs⟩ m).length + 4 + (hs.getD m Hop.z).chs.length * 16 + (hs.getD m Hop.z).ps.length * 16) (xs := v8s (((msgB ⟨pf, pa, pb, pl, hv, hs⟩ m) ++ numK 4 (of64 (hs.getD m Hop.z).ix).toNat) ++ (hs.getD m Hop.z).chs.flatten)) (ys := v8s ((((msgB ⟨pf, pa, pb, pl, hv, hs⟩ m) ++ numK 4 (of64 (hs.getD m Hop.z).ix).toNat) ++ (hs.getD m Hop.z).chs.flatten) ++ (hs.getD m Hop.z).ps.flatten)) Tryd.hb57 rfl fun w h hr => shA b85 (((msgB ⟨pf, pa, pb, pl, hv, hs⟩ m) ++ numK 4 (of64 (hs.getD m Hop.z).ix).toNat) ++ (hs.getD m Hop.z).chs.flatten) (hs.getD m Hop.z).pv (hs.getD m Hop.z).ps ((msgB ⟨pf, pa, pb, pl, hv, hs⟩ m).length + 4 + (hs.getD m Hop.z).chs.length * 16) w hr (by rw [List.length_append, List.length_append, numK_len, flat_len16 hsm.2.1]) p85 (hsm.2.2.1.mono (rdo_nil h zz50)) hsm.2.2.2 zz14 zz14) rfl (fun _ => (fun w h => .inr (h.sub SubC.h SubC.h))) (fun b88 p88 => ?_)
     refine wpd_two 7 8 zz6 ?_ ?_
     ·
      refine wpa_t 7 rfl trivial (t_pur Tryd.hb58 rfl fun w h => refSum b88 ((((msgB ⟨pf, pa, pb, pl, hv, hs⟩ m) ++ numK 4 (of64 (hs.getD m Hop.z).ix).toNat) ++ (hs.getD m Hop.z).chs.flatten) ++ (hs.getD m Hop.z).ps.flatten) w (Seen.re8 (show Seen w.cell? b88 ((msgB ⟨pf, pa, pb, pl, hv, hs⟩ m).length + 4 + (hs.getD m Hop.z).chs.length * 16 + (hs.getD m Hop.z).ps.length * 16) 1 (v8s ((((msgB ⟨pf, pa, pb, pl, hv, hs⟩ m) ++ numK 4 (of64 (hs.getD m Hop.z).ix).toNat) ++ (hs.getD m Hop.z).chs.flatten) ++ (hs.getD m Hop.z).ps.flatten)) from h.seen_row zz7)) zz42) rfl (fun _ => (fun w h => .inr (h.sub SubC.h SubC.h))) (fun b89 => ?_)
      refine wpd_t 8 rfl zz6 trivial (t_alloc Tryd.ti113 (v8s (List.replicate 32 0)) rfl) rfl (fun _ => (fun w h => .inr (h.sub SubC.h SubC.h))) (fun b9 => ?_)
      refine wpd_t0 9 rfl zz6 trivial (t_stA Tryd.ti113 rfl rfl zz43 (v8s_one _) zz40) (fun _ => skk rfl) (fun _ => ?_)
      refine wpd_done zz6 ?_
      refine ex_then <| wpc_seq <| wpc_seq <| wpc_region <| wpl_q (q_pure rfl) rfl <| wpl_nil <| ex_then <| wpc_block ?_
      refine wpc_loopc (ι := { x : Nat × Value // (x.1 ≤ 32) ∧ (SV x.2 (27 + x.1)) }) [(9, _)] (fun x Lc => (10, .int .i64 ((x.1.1 : Nat) : Int)) :: (6, x.1.2) :: Lc) (fun x => Mem w [] [.row x.1.2 (27 + x.1.1) 5 1 (v8s (((((((numK 4 (hs.getD (m + 1) Hop.z).to.toNat) ++ numK 4 (hs.getD (m + 1) Hop.z).sy.toNat) ++ [(hs.getD (m + 1) Hop.z).cnt]) ++ [(hs.getD (m + 1) Hop.z).fl]) ++ [(hs.getD (m + 1) Hop.z).root.1].flatten) ++ [of8 (hs.getD (m + 1) Hop.z).ht]) ++ (sumF ((((msgB ⟨pf, pa, pb, pl, hv, hs⟩ m) ++ numK 4 (of64 (hs.getD m Hop.z).ix).toNat) ++ (hs.getD m Hop.z).chs.flatten) ++ (hs.getD m Hop.z).ps.flatten)).take x.1.1)), .blk b9 113 (v8s (sumF ((((msgB ⟨pf, pa, pb, pl, hv, hs⟩ m) ++ numK 4 (of64 (hs.getD m Hop.z).ix).toNat) ++ (hs.getD m Hop.z).chs.flatten) ++ (hs.getD m Hop.z).ps.flatten)))] []) (fun x => 32 - x.1.1) ⟨(0, b42), ⟨Nat.zero_le _, p42⟩⟩ zz10 ?_ ?_
      ·
       exact fun w h => by
         dsimp only
         rw [List.take_zero, List.append_nil]
         exact h.sel
      ·
       rintro ⟨⟨i, v6⟩, ⟨hi0, hi1⟩⟩; try dsimp only
       have hi0 : i ≤ 32 := hi0; have hi1 : SV v6 (27 + i) := hi1
       refine wpc_seq <| wpc_seq <| wpc_region <| wpl_q (q_pure rfl) rfl <| wpl_q (q_pure rfl) rfl <| wpl_nil <| ex_then ?_
       refine wpc_cond rfl (fun hc91 => ?_) (fun hc91 => ?_)
       ·
        simp only [decide_eq_true_eq] at hc91
        have hi32 : i < 32 := by omega
        have hsl := sumF_length ((((msgB ⟨pf, pa, pb, pl, hv, hs⟩ m) ++ numK 4 (of64 (hs.getD m Hop.z).ix).toNat) ++ (hs.getD m Hop.z).chs.flatten) ++ (hs.getD m Hop.z).ps.flatten)
        refine wpc_skip <| ex_then <| wpc_seq <| wpc_block <| wpc_region <| wpl_q (q_pure rfl) rfl <| wpl_q (q_pure rfl) rfl ?_
        refine wpl_q (q_idxA1 Tryd.underlying113 Tryd.ti5 rfl rfl zz14) rfl ?_
        refine wpl_q (q_ld Tryd.underlying5 rfl rfl (v8s_get (by rw [hsl]; exact hi32))) rfl ?_
        refine wpl_tp (t_bsV (v8s [_]) Tryd.underlying32 Tryd.ti5 rfl rfl zz19 zz19 rfl (v8s_one _)) rfl (fun b98 p98 => ?_)
        refine wpl_tp (t_apW Tryd.underlying32 Tryd.ti5 rfl zz19 rfl rfl (fun w h => zz11) OneC.h zz1 zz1 (v8s (((((((numK 4 (hs.getD (m + 1) Hop.z).to.toNat) ++ numK 4 (hs.getD (m + 1) Hop.z).sy.toNat) ++ [(hs.getD (m + 1) Hop.z).cnt]) ++ [(hs.getD (m + 1) Hop.z).fl]) ++ [(hs.getD (m + 1) Hop.z).root.1].flatten) ++ [of8 (hs.getD (m + 1) Hop.z).ht]) ++ (sumF ((((msgB ⟨pf, pa, pb, pl, hv, hs⟩ m) ++ numK 4 (of64 (hs.getD m Hop.z).ix).toNat) ++ (hs.getD m Hop.z).chs.flatten) ++ (hs.getD m Hop.z).ps.flatten)).take (i + 1))) zz48) rfl (fun b99 p99 => ?_)
        refine wpl_q (q_pure rfl) rfl <| wpl_nil <| ex_block <| ex_then <| wpc_region <| wpl_q (q_pure rfl) rfl ?_
        refine wpl_q (q_addN (b := 1) rfl rfl zz1) rfl ?_
        refine wpl_q (q_pure rfl) rfl <| wpl_nil ?_
        refine ex_again ⟨(i + 1, b99), ⟨zz59, p99⟩⟩ ?_ ?_ ?_
        ·
         exact zz10
        ·
         exact fun w h => h.sel
        ·
         (show 32 - (i + 1) < 32 - i); omega
       ·
        simp only [decide_eq_false_iff_not] at hc91
        obtain rfl : i = 32 := by omega
        have hsl := sumF_length ((((msgB ⟨pf, pa, pb, pl, hv, hs⟩ m) ++ numK 4 (of64 (hs.getD m Hop.z).ix).toNat) ++ (hs.getD m Hop.z).chs.flatten) ++ (hs.getD m Hop.z).ps.flatten)
        refine wpc_exit ?_
        refine ex_then_exit ?_
        refine ex_then_exit ?_
        refine ex_block_hit ?_
        refine ex_then <| wpc_seq <| wpc_region <| wpl_q (q_pure rfl) rfl <| wpl_q (q_pure rfl) rfl <| wpl_nil <| ex_then <| wpc_ret ?_
        refine ret1 (.inl rfl) rfl rfl ?_
        have hfe := msgS_eq ⟨pf, pa, pb, pl, hv, hs⟩ m _ _ rfl rfl
        have hfl : 59 = (msgB ⟨pf, pa, pb, pl, hv, hs⟩ (m + 1)).length := by rw [← hfe, List.length_append, a42_len, List.length_take, hsl]; rfl
        exact fun w h => ⟨v6, hfl ▸ hi1, rfl, h.below, by rw [← hfl, ← hfe]; exact h.made SubC.h .nil⟩
     ·
      refine wpa_t 8 rfl trivial (t_alloc Tryd.ti113 (v8s (List.replicate 32 0)) rfl) rfl (fun _ => (fun w h => .inr (h.sub SubC.h SubC.h))) (fun b9 => ?_)
      refine wpd_t 7 rfl zz6 trivial (t_pur Tryd.hb58 rfl fun w h => refSum b88 ((((msgB ⟨pf, pa, pb, pl, hv, hs⟩ m) ++ numK 4 (of64 (hs.getD m Hop.z).ix).toNat) ++ (hs.getD m Hop.z).chs.flatten) ++ (hs.getD m Hop.z).ps.flatten) w (Seen.re8 (show Seen w.cell? b88 ((msgB ⟨pf, pa, pb, pl, hv, hs⟩ m).length + 4 + (hs.getD m Hop.z).chs.length * 16 + (hs.getD m Hop.z).ps.length * 16) 1 (v8s ((((msgB ⟨pf, pa, pb, pl, hv, hs⟩ m) ++ numK 4 (of64 (hs.getD m Hop.z).ix).toNat) ++ (hs.getD m Hop.z).chs.flatten) ++ (hs.getD m Hop.z).ps.flatten)) from h.seen_row zz7)) zz42) rfl (fun _ => (fun w h => .inr (h.sub SubC.h SubC.h))) (fun b89 => ?_)
      refine wpd_t0 9 rfl zz6 trivial (t_stA Tryd.ti113 rfl rfl zz43 (v8s_one _) zz40) (fun _ => skk rfl) (fun _ => ?_)
      refine wpd_done zz6 ?_
      refine ex_then <| wpc_seq <| wpc_seq <| wpc_region <| wpl_q (q_pure rfl) rfl <| wpl_nil <| ex_then <| wpc_block ?_
      refine wpc_loopc (ι := { x : Nat × Value // (x.1 ≤ 32) ∧ (SV x.2 (27 + x.1)) }) [(9, _)] (fun x Lc => (10, .int .i64 ((x.1.1 : Nat) : Int)) :: (6, x.1.2) :: Lc) (fun x => Mem w [] [.row x.1.2 (27 + x.1.1) 5 1 (v8s (((((((numK 4 (hs.getD (m + 1) Hop.z).to.toNat) ++ numK 4 (hs.getD (m + 1) Hop.z).sy.toNat) ++ [(hs.getD (m + 1) Hop.z).cnt]) ++ [(hs.getD (m + 1) Hop.z).fl]) ++ [(hs.getD (m + 1) Hop.z).root.1].flatten) ++ [of8 (hs.getD (m + 1) Hop.z).ht]) ++ (sumF ((((msgB ⟨pf, pa, pb, pl, hv, hs⟩ m) ++ numK 4 (of64 (hs.getD m Hop.z).ix).toNat) ++ (hs.getD m Hop.z).chs.flatten) ++ (hs.getD m Hop.z).ps.flatten)).take x.1.1)), .blk b9 113 (v8s (sumF ((((msgB ⟨pf, pa, pb, pl, hv, hs⟩ m) ++ numK 4 (of64 (hs.getD m Hop.z).ix).toNat) ++ (hs.getD m Hop.z).chs.flatten) ++ (hs.getD m Hop.z).ps.flatten)))] []) (fun x => 32 - x.1.1) ⟨(0, b42), ⟨Nat.zero_le _, p42⟩⟩ zz10 ?_ ?_
      ·
       exact fun w h => by
         dsimp only
         rw [List.take_zero, List.append_nil]
         exact h.sel
      ·
       rintro ⟨⟨i, v6⟩, ⟨hi0, hi1⟩⟩; try dsimp only
       have hi0 : i ≤ 32 := hi0; have hi1 : SV v6 (27 + i) := hi1
       refine wpc_seq <| wpc_seq <| wpc_region <| wpl_q (q_pure rfl) rfl <| wpl_q (q_pure rfl) rfl <| wpl_nil <| ex_then ?_
       refine wpc_cond rfl (fun hc91 => ?_) (fun hc91 => ?_)
       ·
        simp only [decide_eq_true_eq] at hc91
        have hi32 : i < 32 := by omega
        have hsl := sumF_length ((((msgB ⟨pf, pa, pb, pl, hv, hs⟩ m) ++ numK 4 (of64 (hs.getD m Hop.z).ix).toNat) ++ (hs.getD m Hop.z).chs.flatten) ++ (hs.getD m Hop.z).ps.flatten)
        refine wpc_skip <| ex_then <| wpc_seq <| wpc_block <| wpc_region <| wpl_q (q_pure rfl) rfl <| wpl_q (q_pure rfl) rfl ?_
        refine wpl_q (q_idxA1 Tryd.underlying113 Tryd.ti5 rfl rfl zz14) rfl ?_
        refine wpl_q (q_ld Tryd.underlying5 rfl rfl (v8s_get (by rw [hsl]; exact hi32))) rfl ?_
        refine wpl_tp (t_bsV (v8s [_]) Tryd.underlying32 Tryd.ti5 rfl rfl zz19 zz19 rfl (v8s_one _)) rfl (fun b98 p98 => ?_)
        refine wpl_tp (t_apW Tryd.underlying32 Tryd.ti5 rfl zz19 rfl rfl (fun w h => zz11) OneC.h zz1 zz1 (v8s (((((((numK 4 (hs.getD (m + 1) Hop.z).to.toNat) ++ numK 4 (hs.getD (m + 1) Hop.z).sy.toNat) ++ [(hs.getD (m + 1) Hop.z).cnt]) ++ [(hs.getD (m + 1) Hop.z).fl]) ++ [(hs.getD (m + 1) Hop.z).root.1].flatten) ++ [of8 (hs.getD (m + 1) Hop.z).ht]) ++ (sumF ((((msgB ⟨pf, pa, pb, pl, hv, hs⟩ m) ++ numK 4 (of64 (hs.getD m Hop.z).ix).toNat) ++ (hs.getD m Hop.z).chs.flatten) ++ (hs.getD m Hop.z).ps.flatten)).take (i + 1))) zz48) rfl (fun b99 p99 => ?_)
        refine wpl_q (q_pure rfl) rfl <| wpl_nil <| ex_block <| ex_then <| wpc_region <| wpl_q (q_pure rfl) rfl ?_
        refine wpl_q (q_addN (b := 1) rfl rfl zz1) rfl ?_
        refine wpl_q (q_pure rfl) rfl <| wpl_nil ?_
        refine ex_again ⟨(i + 1, b99), ⟨zz59, p99⟩⟩ ?_ ?_ ?_
        ·
         exact zz10
        ·
         exact fun w h => h.sel
        ·
         (show 32 - (i + 1) < 32 - i); omega
       ·
        simp only [decide_eq_false_iff_not] at hc91
        obtain rfl : i = 32 := by omega
        have hsl := sumF_length ((((msgB ⟨pf, pa, pb, pl, hv, hs⟩ m) ++ numK 4 (of64 (hs.getD m Hop.z).ix).toNat) ++ (hs.getD m Hop.z).chs.flatten) ++ (hs.getD m Hop.z).ps.flatten)
        refine wpc_exit ?_
        refine ex_then_exit ?_
        refine ex_then_exit ?_
        refine ex_block_hit ?_
        refine ex_then <| wpc_seq <| wpc_region <| wpl_q (q_pure rfl) rfl <| wpl_q (q_pure rfl) rfl <| wpl_nil <| ex_then <| wpc_ret ?_
        refine ret1 (.inl rfl) rfl rfl ?_
        have hfe := msgS_eq ⟨pf, pa, pb, pl, hv, hs⟩ m _ _ rfl rfl
        have hfl : 59 = (msgB ⟨pf, pa, pb, pl, hv, hs⟩ (m + 1)).length := by rw [← hfe, List.length_append, a42_len, List.length_take, hsl]; rfl
        exact fun w h => ⟨v6, hfl ▸ hi1, rfl, h.below, by rw [← hfl, ← hfe]; exact h.made SubC.h .nil⟩
    ·
     refine wpa_t 8 rfl trivial (t_alloc Tryd.ti113 (v8s (List.replicate 32 0)) rfl) rfl (fun _ => (fun w h => .inr (h.sub SubC.h SubC.h))) (fun b9 => ?_)
     refine wpd_tp 6 rfl zz6 trivial (t_callR (m := (msgB ⟨pf, pa, pb, pl, hv, hs⟩ m).length + 4 + (hs.getD m Hop.z).chs.length * 16) (m' := (msgB ⟨pf, pa, pb, pl, hv, hs⟩ m).length + 4 + (hs.getD m Hop.z).chs.length * 16 + (hs.getD m Hop.z).ps.length * 16) (xs := v8s (((msgB ⟨pf, pa, pb, pl, hv, hs⟩ m) ++ numK 4 (of64 (hs.getD m Hop.z).ix).toNat) ++ (hs.getD m Hop.z).chs.flatten)) (ys := v8s ((((msgB ⟨pf, pa, pb, pl, hv, hs⟩ m) ++ numK 4 (of64 (hs.getD m Hop.z).ix).toNat) ++ (hs.getD m Hop.z).chs.flatten) ++ (hs.getD m Hop.z).ps.flatten)) Tryd.hb57 rfl fun w h hr => shA b85 (((msgB ⟨pf, pa, pb, pl, hv, hs⟩ m) ++ numK 4 (of64 (hs.getD m Hop.z).ix).toNat) ++ (hs.getD m Hop.z).chs.flatten) (hs.getD m Hop.z).pv (hs.getD m Hop.z).ps ((msgB ⟨pf, pa, pb, pl, hv, hs⟩ m).length + 4 + (hs.getD m Hop.z).chs.length * 16) w hr (by rw [List.length_append, List.length_append, numK_len, flat_len16 hsm.2.1]) p85 (hsm.2.2.1.mono (rdo_nil h zz50)) hsm.2.2.2 zz14 zz14) rfl (fun _ => (fun w h => .inr (h.sub SubC.h SubC.h))) (fun b88 p88 => ?_)
     refine wpd_t 7 rfl zz6 trivial (t_pur Tryd.hb58 rfl fun w h => refSum b88 ((((msgB ⟨pf, pa, pb, pl, hv, hs⟩ m) ++ numK 4 (of64 (hs.getD m Hop.z).ix).toNat) ++ (hs.getD m Hop.z).chs.flatten) ++ (hs.getD m Hop.z).ps.flatten) w (Seen.re8 (show Seen w.cell? b88 ((msgB ⟨pf, pa, pb, pl, hv, hs⟩ m).length + 4 + (hs.getD m Hop.z).chs.length * 16 + (hs.getD m Hop.z).ps.length * 16) 1 (v8s ((((msgB ⟨pf, pa, pb, pl, hv, hs⟩ m) ++ numK 4 (of64 (hs.getD m Hop.z).ix).toNat) ++ (hs.getD m Hop.z).chs.flatten) ++ (hs.getD m Hop.z).ps.flatten)) from h.seen_row zz7)) zz42) rfl (fun _ => (fun w h => .inr (h.sub SubC.h SubC.h))) (fun b89 => ?_)
     refine wpd_t0 9 rfl zz6 trivial (t_stA Tryd.ti113 rfl rfl zz43 (v8s_one _) zz40) (fun _ => skk rfl) (fun _ => ?_)
     refine wpd_done zz6 ?_
     refine ex_then <| wpc_seq <| wpc_seq <| wpc_region <| wpl_q (q_pure rfl) rfl <| wpl_nil <| ex_then <| wpc_block ?_
     refine wpc_loopc (ι := { x : Nat × Value // (x.1 ≤ 32) ∧ (SV x.2 (27 + x.1)) }) [(9, _)] (fun x Lc => (10, .int .i64 ((x.1.1 : Nat) : Int)) :: (6, x.1.2) :: Lc) (fun x => Mem w [] [.row x.1.2 (27 + x.1.1) 5 1 (v8s (((((((numK 4 (hs.getD (m + 1) Hop.z).to.toNat) ++ numK 4 (hs.getD (m + 1) Hop.z).sy.toNat) ++ [(hs.getD (m + 1) Hop.z).cnt]) ++ [(hs.getD (m + 1) Hop.z).fl]) ++ [(hs.getD (m + 1) Hop.z).root.1].flatten) ++ [of8 (hs.getD (m + 1) Hop.z).ht]) ++ (sumF ((((msgB ⟨pf, pa, pb, pl, hv, hs⟩ m) ++ numK 4 (of64 (hs.getD m Hop.z).ix).toNat) ++ (hs.getD m Hop.z).chs.flatten) ++ (hs.getD m Hop.z).ps.flatten)).take x.1.1)), .blk b9 113 (v8s (sumF ((((msgB ⟨pf, pa, pb, pl, hv, hs⟩ m) ++ numK 4 (of64 (hs.getD m Hop.z).ix).toNat) ++ (hs.getD m Hop.z).chs.flatten) ++ (hs.getD m Hop.z).ps.flatten)))] []) (fun x => 32 - x.1.1) ⟨(0, b42), ⟨Nat.zero_le _, p42⟩⟩ zz10 ?_ ?_
     ·
      exact fun w h => by
        dsimp only
        rw [List.take_zero, List.append_nil]
        exact h.sel
     ·
      rintro ⟨⟨i, v6⟩, ⟨hi0, hi1⟩⟩; try dsimp only
      have hi0 : i ≤ 32 := hi0; have hi1 : SV v6 (27 + i) := hi1
      refine wpc_seq <| wpc_seq <| wpc_region <| wpl_q (q_pure rfl) rfl <| wpl_q (q_pure rfl) rfl <| wpl_nil <| ex_then ?_
      refine wpc_cond rfl (fun hc91 => ?_) (fun hc91 => ?_)
      ·
       simp only [decide_eq_true_eq] at hc91
       have hi32 : i < 32 := by omega
       have hsl := sumF_length ((((msgB ⟨pf, pa, pb, pl, hv, hs⟩ m) ++ numK 4 (of64 (hs.getD m Hop.z).ix).toNat) ++ (hs.getD m Hop.z).chs.flatten) ++ (hs.getD m Hop.z).ps.flatten)
       refine wpc_skip <| ex_then <| wpc_seq <| wpc_block <| wpc_region <| wpl_q (q_pure rfl) rfl <| wpl_q (q_pure rfl) rfl ?_
       refine wpl_q (q_idxA1 Tryd.underlying113 Tryd.ti5 rfl rfl zz14) rfl ?_
       refine wpl_q (q_ld Tryd.underlying5 rfl rfl (v8s_get (by rw [hsl]; exact hi32))) rfl ?_
       refine wpl_tp (t_bsV (v8s [_]) Tryd.underlying32 Tryd.ti5 rfl rfl zz19 zz19 rfl (v8s_one _)) rfl (fun b98 p98 => ?_)
       refine wpl_tp (t_apW Tryd.underlying32 Tryd.ti5 rfl zz19 rfl rfl (fun w h => zz11) OneC.h zz1 zz1 (v8s (((((((numK 4 (hs.getD (m + 1) Hop.z).to.toNat) ++ numK 4 (hs.getD (m + 1) Hop.z).sy.toNat) ++ [(hs.getD (m + 1) Hop.z).cnt]) ++ [(hs.getD (m + 1) Hop.z).fl]) ++ [(hs.getD (m + 1) Hop.z).root.1].flatten) ++ [of8 (hs.getD (m + 1) Hop.z).ht]) ++ (sumF ((((msgB ⟨pf, pa, pb, pl, hv, hs⟩ m) ++ numK 4 (of64 (hs.getD m Hop.z).ix).toNat) ++ (hs.getD m Hop.z).chs.flatten) ++ (hs.getD m Hop.z).ps.flatten)).take (i + 1))) zz48) rfl (fun b99 p99 => ?_)
       refine wpl_q (q_pure rfl) rfl <| wpl_nil <| ex_block <| ex_then <| wpc_region <| wpl_q (q_pure rfl) rfl ?_
       refine wpl_q (q_addN (b := 1) rfl rfl zz1) rfl ?_
       refine wpl_q (q_pure rfl) rfl <| wpl_nil ?_
       refine ex_again ⟨(i + 1, b99), ⟨zz59, p99⟩⟩ ?_ ?_ ?_
       ·
        exact zz10
       ·
        exact fun w h => h.sel
       ·
        (show 32 - (i + 1) < 32 - i); omega
      ·
       simp only [decide_eq_false_iff_not] at hc91
       obtain rfl : i = 32 := by omega
       have hsl := sumF_length ((((msgB ⟨pf, pa, pb, pl, hv, hs⟩ m) ++ numK 4 (of64 (hs.getD m Hop.z).ix).toNat) ++ (hs.getD m Hop.z).chs.flatten) ++ (hs.getD m Hop.z).ps.flatten)
       refine wpc_exit ?_
       refine ex_then_exit ?_
       refine ex_then_exit ?_
       refine ex_block_hit ?_
       refine ex_then <| wpc_seq <| wpc_region <| wpl_q (q_pure rfl) rfl <| wpl_q (q_pure rfl) rfl <| wpl_nil <| ex_then <| wpc_ret ?_
       refine ret1 (.inl rfl) rfl rfl ?_
       have hfe := msgS_eq ⟨pf, pa, pb, pl, hv, hs⟩ m _ _ rfl rfl
       have hfl : 59 = (msgB ⟨pf, pa, pb, pl, hv, hs⟩ (m + 1)).length := by rw [← hfe, List.length_append, a42_len, List.length_take, hsl]; rfl
       exact fun w h => ⟨v6, hfl ▸ hi1, rfl, h.below, by rw [← hfl, ← hfe]; exact h.made SubC.h .nil⟩
   ·
    refine wpa_t 8 rfl trivial (t_alloc Tryd.ti113 (v8s (List.replicate 32 0)) rfl) rfl (fun _ => (fun w h => .inr (h.sub SubC.h SubC.h))) (fun b9 => ?_)
    refine wpd_tp 3 rfl zz6 trivial (t_callR (m := (msgB ⟨pf, pa, pb, pl, hv, hs⟩ m).length + 4) (m' := (msgB ⟨pf, pa, pb, pl, hv, hs⟩ m).length + 4 + (hs.getD m Hop.z).chs.length * 16) (xs := v8s ((msgB ⟨pf, pa, pb, pl, hv, hs⟩ m) ++ numK 4 (of64 (hs.getD m Hop.z).ix).toNat)) (ys := v8s (((msgB ⟨pf, pa, pb, pl, hv, hs⟩ m) ++ numK 4 (of64 (hs.getD m Hop.z).ix).toNat) ++ (hs.getD m Hop.z).chs.flatten)) Tryd.hb57 rfl fun w h hr => shA b81 ((msgB ⟨pf, pa, pb, pl, hv, hs⟩ m) ++ numK 4 (of64 (hs.getD m Hop.z).ix).toNat) (hs.getD m Hop.z).cv (hs.getD m Hop.z).chs ((msgB ⟨pf, pa, pb, pl, hv, hs⟩ m).length + 4) w hr (by rw [List.length_append, numK_len]) p81 (hsm.1.mono (rdo_nil h zz50)) hsm.2.1 zz14 zz14) rfl (fun _ => (fun w h => .inr (h.sub SubC.h SubC.h))) (fun b85 p85 => ?_)
    refine wpd_tp 6 rfl zz6 trivial (t_callR (m := (msgB ⟨pf, pa, pb, pl, hv, hs⟩ m).length + 4 + (hs.getD m Hop.z).chs.length * 16) (m' := (msgB ⟨pf, pa, pb, pl, hv, hs⟩ m).length + 4 + (hs.getD m Hop.z).chs.length * 16 + (hs.getD m Hop.z).ps.length * 16) (xs := v8s (((msgB ⟨pf, pa, pb, pl, hv, hs⟩ m) ++ numK 4 (of64 (hs.getD m Hop.z).ix).toNat) ++ (hs.getD m Hop.z).chs.flatten)) (ys := v8s ((((msgB ⟨pf, pa, pb, pl, hv, hs⟩ m) ++ numK 4 (of64 (hs.getD m Hop.z).ix).toNat) ++ (hs.getD m Hop.z).chs.flatten) ++ (hs.getD m Hop.z).ps.flatten)) Tryd.hb57 rfl fun w h hr => shA b85 (((msgB ⟨pf, pa, pb, pl, hv, hs⟩ m) ++ numK 4 (of64 (hs.getD m Hop.z).ix).toNat) ++ (hs.getD m Hop.z).chs.flatten) (hs.getD m Hop.z).pv (hs.getD m Hop.z).ps ((msgB ⟨pf, pa, pb, pl, hv, hs⟩ m).length + 4 + (hs.getD m Hop.z).chs.length * 16) w hr (by rw [List.length_append, List.length_append, numK_len, flat_len16 hsm.2.1]) p85 (hsm.2.2.1.mono (rdo_nil h zz50)) hsm.2.2.2 zz14 zz14) rfl (fun _ => (fun w h => .inr (h.sub SubC.h SubC.h))) (fun b88 p88 => ?_)
    refine wpd_t 7 rfl zz6 trivial (t_pur Tryd.hb58 rfl fun w h => refSum b88 ((((msgB ⟨pf, pa, pb, pl, hv, hs⟩ m) ++ numK 4 (of64 (hs.getD m Hop.z).ix).toNat) ++ (hs.getD m Hop.z).chs.flatten) ++ (hs.getD m Hop.z).ps.flatten) w (Seen.re8 (show Seen w.cell? b88 ((msgB ⟨pf, pa, pb, pl, hv, hs⟩ m).length + 4 + (hs.getD m Hop.z).chs.length * 16 + (hs.getD m Hop.z).ps.length * 16) 1 (v8s ((((msgB ⟨pf, pa, pb, pl, hv, hs⟩ m) ++ numK 4 (of64 (hs.getD m Hop.z).ix).toNat) ++ (hs.getD m Hop.z).chs.flatten) ++ (hs.getD m Hop.z).ps.flatten)) from h.seen_row zz7)) zz42) rfl (fun _ => (fun w h => .inr (h.sub SubC.h SubC.h))) (fun b89 => ?_)
    refine wpd_t0 9 rfl zz6 trivial (t_stA Tryd.ti113 rfl rfl zz43 (v8s_one _) zz40) (fun _ => skk rfl) (fun _ => ?_)
    refine wpd_done zz6 ?_
    refine ex_then <| wpc_seq <| wpc_seq <| wpc_region <| wpl_q (q_pure rfl) rfl <| wpl_nil <| ex_then <| wpc_block ?_
    refine wpc_loopc (ι := { x : Nat × Value // (x.1 ≤ 32) ∧ (SV x.2 (27 + x.1)) }) [(9, _)] (fun x Lc => (10, .int .i64 ((x.1.1 : Nat) : Int)) :: (6, x.1.2) :: Lc) (fun x => Mem w [] [.row x.1.2 (27 + x.1.1) 5 1 (v8s (((((((numK 4 (hs.getD (m + 1) Hop.z).to.toNat) ++ numK 4 (hs.getD (m + 1) Hop.z).sy.toNat) ++ [(hs.getD (m + 1) Hop.z).cnt]) ++ [(hs.getD (m + 1) Hop.z).fl]) ++ [(hs.getD (m + 1) Hop.z).root.1].flatten) ++ [of8 (hs.getD (m + 1) Hop.z).ht]) ++ (sumF ((((msgB ⟨pf, pa, pb, pl, hv, hs⟩ m) ++ numK 4 (of64 (hs.getD m Hop.z).ix).toNat) ++ (hs.getD m Hop.z).chs.flatten) ++ (hs.getD m Hop.z).ps.flatten)).take x.1.1)), .blk b9 113 (v8s (sumF ((((msgB ⟨pf, pa, pb, pl, hv, hs⟩ m) ++ numK 4 (of64 (hs.getD m Hop.z).ix).toNat) ++ (hs.getD m Hop.z).chs.flatten) ++ (hs.getD m Hop.z).ps.flatten)))] []) (fun x => 32 - x.1.1) ⟨(0, b42), ⟨Nat.zero_le _, p42⟩⟩ zz10 ?_ ?_
    ·
     exact fun w h => by
       dsimp only
       rw [List.take_zero, List.append_nil]
       exact h.sel
    ·
     rintro ⟨⟨i, v6⟩, ⟨hi0, hi1⟩⟩; try dsimp only
     have hi0 : i ≤ 32 := hi0; have hi1 : SV v6 (27 + i) := hi1
     refine wpc_seq <| wpc_seq <| wpc_region <| wpl_q (q_pure rfl) rfl <| wpl_q (q_pure rfl) rfl <| wpl_nil <| ex_then ?_
     refine wpc_cond rfl (fun hc91 => ?_) (fun hc91 => ?_)
     ·
      simp only [decide_eq_true_eq] at hc91
      have hi32 : i < 32 := by omega
      have hsl := sumF_length ((((msgB ⟨pf, pa, pb, pl, hv, hs⟩ m) ++ numK 4 (of64 (hs.getD m Hop.z).ix).toNat) ++ (hs.getD m Hop.z).chs.flatten) ++ (hs.getD m Hop.z).ps.flatten)
      refine wpc_skip <| ex_then <| wpc_seq <| wpc_block <| wpc_region <| wpl_q (q_pure rfl) rfl <| wpl_q (q_pure rfl) rfl ?_
      refine wpl_q (q_idxA1 Tryd.underlying113 Tryd.ti5 rfl rfl zz14) rfl ?_
      refine wpl_q (q_ld Tryd.underlying5 rfl rfl (v8s_get (by rw [hsl]; exact hi32))) rfl ?_
      refine wpl_tp (t_bsV (v8s [_]) Tryd.underlying32 Tryd.ti5 rfl rfl zz19 zz19 rfl (v8s_one _)) rfl (fun b98 p98 => ?_)
      refine wpl_tp (t_apW Tryd.underlying32 Tryd.ti5 rfl zz19 rfl rfl (fun w h => zz11) OneC.h zz1 zz1 (v8s (((((((numK 4 (hs.getD (m + 1) Hop.z).to.toNat) ++ numK 4 (hs.getD (m + 1) Hop.z).sy.toNat) ++ [(hs.getD (m + 1) Hop.z).cnt]) ++ [(hs.getD (m + 1) Hop.z).fl]) ++ [(hs.getD (m + 1) Hop.z).root.1].flatten) ++ [of8 (hs.getD (m + 1) Hop.z).ht]) ++ (sumF ((((msgB ⟨pf, pa, pb, pl, hv, hs⟩ m) ++ numK 4 (of64 (hs.getD m Hop.z).ix).toNat) ++ (hs.getD m Hop.z).chs.flatten) ++ (hs.getD m Hop.z).ps.flatten)).take (i + 1))) zz48) rfl (fun b99 p99 => ?_)
      refine wpl_q (q_pure rfl) rfl <| wpl_nil <| ex_block <| ex_then <| wpc_region <| wpl_q (q_pure rfl) rfl ?_
      refine wpl_q (q_addN (b := 1) rfl rfl zz1) rfl ?_
      refine wpl_q (q_pure rfl) rfl <| wpl_nil ?_
      refine ex_again ⟨(i + 1, b99), ⟨zz59, p99⟩⟩ ?_ ?_ ?_
      ·
       exact zz10
      ·
       exact fun w h => h.sel
      ·
       (show 32 - (i + 1) < 32 - i); omega
     ·
      simp only [decide_eq_false_iff_not] at hc91
      obtain rfl : i = 32 := by omega
      have hsl := sumF_length ((((msgB ⟨pf, pa, pb, pl, hv, hs⟩ m) ++ numK 4 (of64 (hs.getD m Hop.z).ix).toNat) ++ (hs.getD m Hop.z).chs.flatten) ++ (hs.getD m Hop.z).ps.flatten)
      refine wpc_exit ?_
      refine ex_then_exit ?_
      refine ex_then_exit ?_
      refine ex_block_hit ?_
      refine ex_then <| wpc_seq <| wpc_region <| wpl_q (q_pure rfl) rfl <| wpl_q (q_pure rfl) rfl <| wpl_nil <| ex_then <| wpc_ret ?_
      refine ret1 (.inl rfl) rfl rfl ?_
      have hfe := msgS_eq ⟨pf, pa, pb, pl, hv, hs⟩ m _ _ rfl rfl
      have hfl : 59 = (msgB ⟨pf, pa, pb, pl, hv, hs⟩ (m + 1)).length := by rw [← hfe, List.length_append, a42_len, List.length_take, hsl]; rfl
      exact fun w h => ⟨v6, hfl ▸ hi1, rfl, h.below, by rw [← hfl, ← hfe]; exact h.made SubC.h .nil⟩
end Go.Proofs.YtjpfhkjmjnjggaaDoor
namespace Go.Proofs.YtjpfhkjmjnjggaaDoor
open Go Go.PL Go.RowKit
theorem refMessage (p : Pth) (hlim : SmP p) : ∀ (j : Nat) (w : World) (hp : p.seen w.cell?) (hj : j < p.hs.length), Calls Tryd.prog 39 [.agg p.c.toArray, .int .i64 ((j : Nat) : Int)].toArray w (GivesP w (fun v => SV v (msgB p j).length) (fun v => v) (fun v => [.row v (msgB p j).length 5 1 (v8s (msgB p j))]) (fun _ => []))
  | 0, w, hp, hj => refMessage_step p 0 w hp hj hlim fun m hm => by cases hm
  | j + 1, w, hp, hj => refMessage_step p (j + 1) w hp hj hlim fun m hm w hp => by
    cases hm
    exact refMessage p hlim j w hp zz14
end Go.Proofs.YtjpfhkjmjnjggaaDoor
namespace Go.Proofs.YtjpfhkjmjnjggaaDoor
open Go Go.PL Go.RowKit
abbrev HopS := { h : Hop // h.sv }
def HopS.z : HopS := ⟨Hop.z, SV.nil, SV.nil⟩
def HopS.c (h : HopS) : List Value := h.1.c
end Go.Proofs.YtjpfhkjmjnjggaaDoor
namespace Go.Proofs.YtjpfhkjmjnjggaaDoor
open Go Go.PL Go.RowKit
theorem eqk : EqC Tryd.prog 3 63 true 17 (fun cs => cs.length = 17 ∧ ((((cs.drop 0).take 16).length = 16 ∧ ∀ i, i < 16 → IntCell .u8 ((((cs.drop 0).take 16).drop (i * 1)).take 1)) ∧ (IntCell .i64 ((cs.drop (0 + 16)).take 1) ∧ True))) :=
by
  refine eqc_struct Tryd.underlying63 Tryd.ti63 zz6 ?_
  refine EqFs.cons (sz := 16) (W := fun c => c.length = 16 ∧ ∀ i, i < 16 → IntCell .u8 ((c.drop (i * 1)).take 1)) (W' := fun cs => IntCell .i64 ((cs.drop (0 + 16)).take 1) ∧ True) zz6 rfl eq8_61 ?_
  refine EqFs.cons (sz := 1) (W := IntCell .i64) (W' := fun _ => True) zz6 rfl (eqc_up (dp' := 2) (eqc_int Tryd.underlying3 Tryd.ti3) zz19) ?_
  exact EqFs.nil _
theorem wkey {xs : List UInt8} (a : Int) (h : xs.length = 16) : (v8s xs ++ [Value.int .i64 a]).length = 17 ∧ (((((v8s xs ++ [Value.int .i64 a]).drop 0).take 16).length = 16 ∧ ∀ i, i < 16 → IntCell .u8 (((((v8s xs ++ [Value.int .i64 a]).drop 0).take 16).drop (i * 1)).take 1)) ∧ (IntCell .i64 (((v8s xs ++ [Value.int .i64 a]).drop (0 + 16)).take 1) ∧ True)) := by
  refine ⟨key_len xs a h, ?_, ⟨a, ?_⟩, trivial⟩
  · rw [key_root xs a h]; exact w8s h
  · rw [List.drop_left' (by rw [v8s_length, h])]; rfl
theorem q_neK {n : Cx} {R : World → Prop} {L : Slots} {t' : TypeId} {x y : Operand} {xs ys : List UInt8} {a b : Int} (hx : ev L x = some (.agg (v8s xs ++ [Value.int .i64 a]).toArray)) (hy : ev L y = some (.agg (v8s ys ++ [Value.int .i64 b]).toArray)) (h1 : xs.length = 16) (h2 : ys.length = 16) :
    QOp Tryd.prog n R L (.binOp .neq 63 x y t') (.bool (!decide (xs = ys ∧ a = b))) :=
  q_neA eqk zz19 zz6 hx hy (wkey a h1) (wkey b h2) _ (by
    simp only [Bool.not_eq_true', decide_eq_false_iff_not]
    constructor
    · intro h e
      obtain ⟨e1, e2⟩ := List.append_inj e (by rw [v8s_length, v8s_length, h1, h2])
      exact h ⟨v8s_inj e1, by simpa using e2⟩
    · rintro h ⟨rfl, rfl⟩; exact h rfl)
def Hop.eqv (a b : Hop) : Prop := a.sy = b.sy ∧ a.cnt = b.cnt ∧ a.fl = b.fl ∧ a.to = b.to ∧ (a.root.1 = b.root.1 ∧ a.ht = b.ht) ∧ (a.ix = b.ix ∧ a.chs = b.chs ∧ a.ps = b.ps)
instance {a b : Hop} : Decidable (a.eqv b) := by unfold Hop.eqv; exact inferInstance
def HsEqv (l k : List Hop) : Prop := l.length = k.length ∧ ∀ i, i < l.length → Hop.eqv (l.getD i Hop.z) (k.getD i Hop.z)
instance {a b : List Hop} : Decidable (HsEqv a b) := by unfold HsEqv; exact inferInstance
def Pth.eqv (p q : Pth) : Prop := (p.pf = q.pf ∧ p.pa = q.pa ∧ p.pb = q.pb ∧ p.pl = q.pl) ∧ HsEqv p.hs q.hs
instance {a b : Pth} : Decidable (a.eqv b) := by unfold Pth.eqv; exact inferInstance
def bigH (h : Hop) : Prop := 100 < h.chs.length ∨ 100 < h.ps.length
instance {h : Hop} : Decidable (bigH h) := by unfold bigH; exact inferInstance
def GreatP (p : Pth) : Prop := (4 < p.hs.length ∧ p.hs.length ≤ 30) ∨ 35 < p.hs.length ∨ ¬ (∀ i, i < p.hs.length → ¬ bigH (p.hs.getD i Hop.z))
instance {p : Pth} : Decidable (GreatP p) := by unfold GreatP; exact inferInstance
theorem great_1 {p : Pth} (h : 4 < p.hs.length) (h2 : p.hs.length ≤ 30) : GreatP p := .inl ⟨h, h2⟩
theorem great_2 {p : Pth} (h : 35 < p.hs.length) : GreatP p := .inr (.inl h)
theorem great_3 {p : Pth} {i : Nat} (h : i < p.hs.length) (h2 : bigH (p.hs.getD i Hop.z)) : GreatP p := .inr (.inr fun f => f i h h2)
theorem great_4 {p : Pth} (h : ¬ (4 < p.hs.length ∧ p.hs.length ≤ 30)) (h2 : ¬ 35 < p.hs.length) (h3 : ∀ i, i < p.hs.length → ¬ bigH (p.hs.getD i Hop.z)) : ¬ GreatP p := by
  rintro (h1 | h1 | h1)
  · exact h h1
  · exact h2 h1
  · exact h1 h3
theorem great_no {p : Pth} (h : ¬ GreatP p) : SmP p ∧ p.hs.length ≤ 35 := by
  unfold GreatP at h
  rw [not_or, not_or, Decidable.not_not] at h
  refine ⟨fun x hx => ?_, zz14⟩
  obtain ⟨i, hi, rfl⟩ := List.mem_iff_getElem.1 hx
  have := h.2.2 i hi
  rw [List.getD_eq_getElem?_getD, List.getElem?_eq_getElem hi] at this
  unfold bigH at this
  rw [not_or] at this
  exact ⟨Nat.not_lt.1 this.1, Nat.not_lt.1 this.2⟩
theorem refGreat42 (p : Pth) (w : World) (hp : p.seen w.cell?)  :
    Calls Tryd.prog 11 [.agg p.c.toArray].toArray w (Pur w (.bool (decide (GreatP p)))) := by
  obtain ⟨pf, pa, pb, pl, hv, hs⟩ := p
  have hh : Seen w.cell? hv hs.length 24 (hcs hs) := hp.1
  have hq : ∀ h ∈ hs, h.seen w.cell? := hp.2
  have svh := hh.sv
  have lh := svh.le
  simp only [maxLen] at lh
  refine enter (m := 34) (R := Mem w [] [] []) Tryd.func11 rfl rfl (Nat.le_of_ble_eq_true rfl) (Mem.start w) ?_
  refine wpc_seq <| wpc_region ?_
  refine wpl_t (t_box rfl [.int .u8 (pf.toNat : Int), .int .u64 (pa.toNat : Int), .int .u64 (pb.toNat : Int), .int .i64 pl, hv] rfl) rfl (fun b1 => ?_)
  refine wpl_q (q_pure rfl) rfl <| wpl_nil <| ex_then <| wpc_seq <| wpc_seq <| wpc_region <| wpl_q (q_field Tryd.underlying29 rfl Tryd.ti27 rfl rfl _ rfl) rfl <| wpl_q (q_ld Tryd.underlying27 rfl rfl rfl) rfl ?_
  refine wpl_q (q_lenW Tryd.underlying27 rfl zz4) rfl ?_
  refine wpl_q (q_pure rfl) rfl <| wpl_q (q_pure rfl) rfl ?_
  refine wpl_bool2 8 7 rfl rfl (fun hb8 => ?_) (fun hb8 => ?_)
  ·
   try simp only [decide_eq_true_eq] at hb8
   have h4 : 4 < hs.length := by omega
   refine wpl_on rfl rfl <| wpl_q (q_field Tryd.underlying29 rfl Tryd.ti27 rfl rfl _ rfl) rfl <| wpl_on rfl rfl <| wpl_q (q_ld Tryd.underlying27 rfl rfl rfl) rfl <| wpl_on rfl rfl ?_
   refine wpl_q (q_lenW Tryd.underlying27 rfl zz4) rfl ?_
   refine wpl_on rfl rfl <| wpl_q (q_pure rfl) rfl <| wpl_q (q_pure rfl) rfl <| wpl_q (q_pure rfl) rfl ?_
   refine wpl_bool2 14 12 rfl rfl (fun hb14 => ?_) (fun hb14 => ?_)
   ·
    try simp only [decide_eq_true_eq] at hb14
    have hR : GreatP ⟨pf, pa, pb, pl, hv, hs⟩ := great_1 (p := ⟨pf, pa, pb, pl, hv, hs⟩) h4 (by show hs.length ≤ 30; omega)
    refine wpl_off rfl rfl rfl rfl <| wpl_off rfl rfl rfl rfl <| wpl_off rfl rfl rfl rfl <| wpl_off rfl rfl rfl rfl <| wpl_q (q_pure rfl) rfl <| wpl_nil <| ex_then ?_
    refine wpc_cond_t rfl ?_
    refine wpc_seq <| wpc_region <| wpl_q (q_pure rfl) rfl <| wpl_nil <| ex_then <| wpc_ret ?_
    refine ex_then_ret ?_
    refine ret1 (.inl rfl) rfl rfl ?_
    exact fun w h => ⟨by rw [decide_eq_true hR], h.below⟩
   ·
    try simp only [decide_eq_false_iff_not] at hb14
    have h4 : ¬ (4 < hs.length ∧ hs.length ≤ 30) := by omega
    refine wpl_on rfl rfl <| wpl_q (q_field Tryd.underlying29 rfl Tryd.ti27 rfl rfl _ rfl) rfl <| wpl_on rfl rfl <| wpl_q (q_ld Tryd.underlying27 rfl rfl rfl) rfl <| wpl_on rfl rfl ?_
    refine wpl_q (q_lenW Tryd.underlying27 rfl zz4) rfl ?_
    refine wpl_on rfl rfl <| wpl_q (q_pure rfl) rfl <| wpl_q (q_pure rfl) rfl <| wpl_nil <| ex_then ?_
    refine wpc_cond rfl (fun hc19 => ?_) (fun hc19 => ?_)
    ·
     simp only [decide_eq_true_eq] at hc19
     have hR : GreatP ⟨pf, pa, pb, pl, hv, hs⟩ := great_2 (p := ⟨pf, pa, pb, pl, hv, hs⟩) (by show 35 < hs.length; omega)
     refine wpc_seq <| wpc_region <| wpl_q (q_pure rfl) rfl <| wpl_nil <| ex_then <| wpc_ret ?_
     refine ex_then_ret ?_
     refine ret1 (.inl rfl) rfl rfl ?_
     exact fun w h => ⟨by rw [decide_eq_true hR], h.below⟩
    ·
     simp only [decide_eq_false_iff_not] at hc19
     have h35 : ¬ 35 < hs.length := by omega
     refine wpc_skip <| ex_then <| wpc_seq <| wpc_seq <| wpc_region <| wpl_q (q_pure rfl) rfl <| wpl_nil <| ex_then <| wpc_block ?_
     refine wpc_loopc (ι := { x : Nat // (x ≤ hs.length) ∧ (∀ j, j < x → ¬ bigH (hs.getD j Hop.z)) }) [(1, _)] (fun x Lc => (3, .int .i64 ((x.1 : Nat) : Int)) :: Lc) (fun x => Mem w [] [.blk b1 29 [.int .u8 (pf.toNat : Int), .int .u64 (pa.toNat : Int), .int .u64 (pb.toNat : Int), .int .i64 pl, hv]] []) (fun x => hs.length - x.1) ⟨0, ⟨Nat.zero_le _, fun j hj => zz14⟩⟩ zz10 ?_ ?_
     ·
      exact fun w h => h
     ·
      rintro ⟨i, ⟨hi0, hi1⟩⟩; try dsimp only
      have hi0 : i ≤ hs.length := hi0; have hi1 : ∀ j, j < i → ¬ bigH (hs.getD j Hop.z) := hi1
      refine wpc_seq <| wpc_seq <| wpc_region <| wpl_q (q_pure rfl) rfl <| wpl_q (q_field Tryd.underlying29 rfl Tryd.ti27 rfl rfl _ rfl) rfl <| wpl_q (q_ld Tryd.underlying27 rfl rfl rfl) rfl ?_
      refine wpl_q (q_lenW Tryd.underlying27 rfl zz4) rfl ?_
      refine wpl_q (q_pure rfl) rfl <| wpl_nil <| ex_then ?_
      refine wpc_cond rfl (fun hc24 => ?_) (fun hc24 => ?_)
      ·
       simp only [decide_eq_true_eq] at hc24
       have hil : i < hs.length := by omega
       have hsi := hq _ (getD_memO hil)
       refine wpc_skip <| ex_then <| wpc_seq <| wpc_block <| wpc_seq <| wpc_region <| wpl_q (q_field Tryd.underlying29 rfl Tryd.ti27 rfl rfl _ rfl) rfl <| wpl_q (q_ld Tryd.underlying27 rfl rfl rfl) rfl <| wpl_q (q_pure rfl) rfl ?_
       refine wpl_q (q_idxW Tryd.underlying27 Tryd.ti68 rfl rfl zz4 zz1) rfl ?_
       refine wpl_q (q_fieldPo 21 Tryd.underlying68 rfl Tryd.ti66 rfl rfl rfl) rfl ?_
       refine wpl_q (q_ldWFN Tryd.underlying66 rfl Tryd.ti66 rfl (fun w h => h.seen_old hh) (hs.getD i Hop.z).sig (hcs_sig hil) rfl) rfl ?_
       refine wpl_t (t_pur Tryd.hb36 rfl fun w h => refGreat7 _ _ _ _ _ w (hsi.old h).1 (hsi.old h).2.1 (hsi.old h).2.2.1 (hsi.old h).2.2.2) rfl (fun b33 => ?_)
       refine wpl_nil <| ex_then ?_
       refine wpc_cond rfl (fun hc33 => ?_) (fun hc33 => ?_)
       ·
        have hbg : bigH (hs.getD i Hop.z) := of_decide_eq_true hc33
        have hR : GreatP ⟨pf, pa, pb, pl, hv, hs⟩ := great_3 (p := ⟨pf, pa, pb, pl, hv, hs⟩) hil hbg
        refine wpc_seq <| wpc_region <| wpl_q (q_pure rfl) rfl <| wpl_nil <| ex_then <| wpc_ret ?_
        refine ex_block_ret ?_
        refine ex_then_ret ?_
        refine ex_then_ret ?_
        refine ex_block_ret ?_
        refine ex_then_ret ?_
        refine ret1 (.inl rfl) rfl rfl ?_
        exact fun w h => ⟨by rw [decide_eq_true hR], h.below⟩
       ·
        have hok : ¬ bigH (hs.getD i Hop.z) := of_decide_eq_false hc33
        refine wpc_skip <| ex_block <| ex_then <| wpc_region <| wpl_q (q_pure rfl) rfl ?_
        refine wpl_q (q_addN (b := 1) rfl rfl zz1) rfl ?_
        refine wpl_q (q_pure rfl) rfl <| wpl_nil ?_
        refine ex_again ⟨i + 1, ⟨zz47, fun j hj => zz52⟩⟩ ?_ ?_ ?_
        ·
         exact zz10
        ·
         exact fun w h => by first | exact h | exact h.sub SubC.h SubC.h | exact h.sub zz8 zz8
        ·
         (show hs.length - (i + 1) < hs.length - i); omega
      ·
       simp only [decide_eq_false_iff_not] at hc24
       obtain rfl : i = hs.length := by omega
       have hR : ¬ GreatP ⟨pf, pa, pb, pl, hv, hs⟩ := great_4 (p := ⟨pf, pa, pb, pl, hv, hs⟩) h4 h35 hi1
       refine wpc_exit ?_
       refine ex_then_exit ?_
       refine ex_then_exit ?_
       refine ex_block_hit ?_
       refine ex_then <| wpc_seq <| wpc_region <| wpl_q (q_pure rfl) rfl <| wpl_nil <| ex_then <| wpc_ret ?_
       refine ret1 (.inl rfl) rfl rfl ?_
       exact fun w h => ⟨by rw [decide_eq_false hR], h.below⟩
  ·
   try simp only [decide_eq_false_iff_not] at hb8
   have h4 : ¬ (4 < hs.length ∧ hs.length ≤ 30) := by omega
   refine wpl_off rfl rfl rfl rfl <| wpl_off rfl rfl rfl rfl <| wpl_off rfl rfl rfl rfl <| wpl_off rfl rfl rfl rfl <| wpl_q (q_pure rfl) rfl <| wpl_q (q_pure rfl) rfl <| wpl_on rfl rfl <| wpl_q (q_field Tryd.underlying29 rfl Tryd.ti27 rfl rfl _ rfl) rfl <| wpl_on rfl rfl <| wpl_q (q_ld Tryd.underlying27 rfl rfl rfl) rfl <| wpl_on rfl rfl ?_
   refine wpl_q (q_lenW Tryd.underlying27 rfl zz4) rfl ?_
   refine wpl_on rfl rfl <| wpl_q (q_pure rfl) rfl <| wpl_q (q_pure rfl) rfl <| wpl_nil <| ex_then ?_
   refine wpc_cond rfl (fun hc19 => ?_) (fun hc19 => ?_)
   ·
    simp only [decide_eq_true_eq] at hc19
    have hR : GreatP ⟨pf, pa, pb, pl, hv, hs⟩ := great_2 (p := ⟨pf, pa, pb, pl, hv, hs⟩) (by show 35 < hs.length; omega)
    refine wpc_seq <| wpc_region <| wpl_q (q_pure rfl) rfl <| wpl_nil <| ex_then <| wpc_ret ?_
    refine ex_then_ret ?_
    refine ret1 (.inl rfl) rfl rfl ?_
    exact fun w h => ⟨by rw [decide_eq_true hR], h.below⟩
   ·
    simp only [decide_eq_false_iff_not] at hc19
    have h35 : ¬ 35 < hs.length := by omega
    refine wpc_skip <| ex_then <| wpc_seq <| wpc_seq <| wpc_region <| wpl_q (q_pure rfl) rfl <| wpl_nil <| ex_then <| wpc_block ?_
    refine wpc_loopc (ι := { x : Nat // (x ≤ hs.length) ∧ (∀ j, j < x → ¬ bigH (hs.getD j Hop.z)) }) [(1, _)] (fun x Lc => (3, .int .i64 ((x.1 : Nat) : Int)) :: Lc) (fun x => Mem w [] [.blk b1 29 [.int .u8 (pf.toNat : Int), .int .u64 (pa.toNat : Int), .int .u64 (pb.toNat : Int), .int .i64 pl, hv]] []) (fun x => hs.length - x.1) ⟨0, ⟨Nat.zero_le _, fun j hj => zz14⟩⟩ zz10 ?_ ?_
    ·
     exact fun w h => h
    ·
     rintro ⟨i, ⟨hi0, hi1⟩⟩; try dsimp only
     have hi0 : i ≤ hs.length := hi0; have hi1 : ∀ j, j < i → ¬ bigH (hs.getD j Hop.z) := hi1
     refine wpc_seq <| wpc_seq <| wpc_region <| wpl_q (q_pure rfl) rfl <| wpl_q (q_field Tryd.underlying29 rfl Tryd.ti27 rfl rfl _ rfl) rfl <| wpl_q (q_ld Tryd.underlying27 rfl rfl rfl) rfl ?_
     refine wpl_q (q_lenW Tryd.underlying27 rfl zz4) rfl ?_
     refine wpl_q (q_pure rfl) rfl <| wpl_nil <| ex_then ?_
     refine wpc_cond rfl (fun hc24 => ?_) (fun hc24 => ?_)
     ·
      simp only [decide_eq_true_eq] at hc24
      have hil : i < hs.length := by omega
      have hsi := hq _ (getD_memO hil)
      refine wpc_skip <| ex_then <| wpc_seq <| wpc_block <| wpc_seq <| wpc_region <| wpl_q (q_field Tryd.underlying29 rfl Tryd.ti27 rfl rfl _ rfl) rfl <| wpl_q (q_ld Tryd.underlying27 rfl rfl rfl) rfl <| wpl_q (q_pure rfl) rfl ?_
      refine wpl_q (q_idxW Tryd.underlying27 Tryd.ti68 rfl rfl zz4 zz1) rfl ?_
      refine wpl_q (q_fieldPo 21 Tryd.underlying68 rfl Tryd.ti66 rfl rfl rfl) rfl ?_
      refine wpl_q (q_ldWFN Tryd.underlying66 rfl Tryd.ti66 rfl (fun w h => h.seen_old hh) (hs.getD i Hop.z).sig (hcs_sig hil) rfl) rfl ?_
      refine wpl_t (t_pur Tryd.hb36 rfl fun w h => refGreat7 _ _ _ _ _ w (hsi.old h).1 (hsi.old h).2.1 (hsi.old h).2.2.1 (hsi.old h).2.2.2) rfl (fun b33 => ?_)
      refine wpl_nil <| ex_then ?_
      refine wpc_cond rfl (fun hc33 => ?_) (fun hc33 => ?_)
      ·
       have hbg : bigH (hs.getD i Hop.z) := of_decide_eq_true hc33
       have hR : GreatP ⟨pf, pa, pb, pl, hv, hs⟩ := great_3 (p := ⟨pf, pa, pb, pl, hv, hs⟩) hil hbg
       refine wpc_seq <| wpc_region <| wpl_q (q_pure rfl) rfl <| wpl_nil <| ex_then <| wpc_ret ?_
       refine ex_block_ret ?_
       refine ex_then_ret ?_
       refine ex_then_ret ?_
       refine ex_block_ret ?_
       refine ex_then_ret ?_
       refine ret1 (.inl rfl) rfl rfl ?_
       exact fun w h => ⟨by rw [decide_eq_true hR], h.below⟩
      ·
       have hok : ¬ bigH (hs.getD i Hop.z) := of_decide_eq_false hc33
       refine wpc_skip <| ex_block <| ex_then <| wpc_region <| wpl_q (q_pure rfl) rfl ?_
       refine wpl_q (q_addN (b := 1) rfl rfl zz1) rfl ?_
       refine wpl_q (q_pure rfl) rfl <| wpl_nil ?_
       refine ex_again ⟨i + 1, ⟨zz47, fun j hj => zz52⟩⟩ ?_ ?_ ?_
       ·
        exact zz10
       ·
        exact fun w h => by first | exact h | exact h.sub SubC.h SubC.h | exact h.sub zz8 zz8
       ·
        (show hs.length - (i + 1) < hs.length - i); omega
     ·
      simp only [decide_eq_false_iff_not] at hc24
      obtain rfl : i = hs.length := by omega
      have hR : ¬ GreatP ⟨pf, pa, pb, pl, hv, hs⟩ := great_4 (p := ⟨pf, pa, pb, pl, hv, hs⟩) h4 h35 hi1
      refine wpc_exit ?_
      refine ex_then_exit ?_
      refine ex_then_exit ?_
      refine ex_block_hit ?_
      refine ex_then <| wpc_seq <| wpc_region <| wpl_q (q_pure rfl) rfl <| wpl_nil <| ex_then <| wpc_ret ?_
      refine ret1 (.inl rfl) rfl rfl ?_
      exact fun w h => ⟨by rw [decide_eq_false hR], h.below⟩
end Go.Proofs.YtjpfhkjmjnjggaaDoor
namespace Go.Proofs.YtjpfhkjmjnjggaaDoor
open Go Go.PL Go.RowKit
theorem refSame42 (p : Pth) (q : Pth) (w : World) (hp : p.seen w.cell?) (hqp : q.seen w.cell?)  :
    Calls Tryd.prog 21 [.agg p.c.toArray, .agg q.c.toArray].toArray w (Pur w (.bool (decide (Pth.eqv p q)))) := by
  obtain ⟨pf, pa, pb, pl, hv, hs⟩ := p
  have hh : Seen w.cell? hv hs.length 24 (hcs hs) := hp.1
  have hq : ∀ h ∈ hs, h.seen w.cell? := hp.2
  have svh := hh.sv
  have lh := svh.le
  simp only [maxLen] at lh
  obtain ⟨pf2, pa2, pb2, pl2, hv2, hs2⟩ := q
  have hh2 : Seen w.cell? hv2 hs2.length 24 (hcs hs2) := hqp.1
  have hq2 : ∀ h ∈ hs2, h.seen w.cell? := hqp.2
  have svh2 := hh2.sv
  have lh2 := svh2.le
  simp only [maxLen] at lh2
  refine enter (m := 80) (R := Mem w [] [] []) Tryd.func21 rfl rfl (Nat.le_of_ble_eq_true rfl) (Mem.start w) ?_
  refine wpc_seq <| wpc_region ?_
  refine wpl_t (t_box rfl [.int .u8 (pf.toNat : Int), .int .u64 (pa.toNat : Int), .int .u64 (pb.toNat : Int), .int .i64 pl, hv] rfl) rfl (fun b2 => ?_)
  refine wpl_t (t_box rfl [.int .u8 (pf2.toNat : Int), .int .u64 (pa2.toNat : Int), .int .u64 (pb2.toNat : Int), .int .i64 pl2, hv2] rfl) rfl (fun b3 => ?_)
  refine wpl_q (q_pure rfl) rfl <| wpl_nil <| ex_then <| wpc_seq <| wpc_seq <| wpc_region <| wpl_q (q_field Tryd.underlying29 rfl Tryd.ti26 rfl rfl _ rfl) rfl ?_
  refine wpl_q (q_ldP Tryd.underlying26 rfl Tryd.ti26 rfl (pfL pf pa pb pl) rfl zz2) rfl ?_
  refine wpl_q (q_field Tryd.underlying29 rfl Tryd.ti26 rfl rfl _ rfl) rfl ?_
  refine wpl_q (q_ldP Tryd.underlying26 rfl Tryd.ti26 rfl (pfL pf2 pa2 pb2 pl2) rfl zz2) rfl ?_
  refine wpl_q (q_nePfx rfl rfl) rfl <| wpl_q (q_pure rfl) rfl ?_
  refine wpl_bool2 13 12 rfl rfl (fun hb13 => ?_) (fun hb13 => ?_)
  ·
   have hdd : ¬ (pf = pf2 ∧ pa = pa2 ∧ pb = pb2 ∧ pl = pl2) := by simpa only [Bool.not_eq_true', decide_eq_false_iff_not] using hb13
   have hne : ¬ Pth.eqv ⟨pf, pa, pb, pl, hv, hs⟩ ⟨pf2, pa2, pb2, pl2, hv2, hs2⟩ := fun e => hdd e.1
   refine wpl_off rfl rfl rfl rfl <| wpl_off rfl rfl rfl rfl <| wpl_off rfl rfl rfl rfl <| wpl_off rfl rfl rfl rfl <| wpl_off rfl rfl rfl rfl <| wpl_off rfl rfl rfl rfl <| wpl_off rfl rfl rfl rfl <| wpl_q (q_pure rfl) rfl <| wpl_nil <| ex_then ?_
   refine wpc_cond_t rfl ?_
   refine wpc_seq <| wpc_region <| wpl_q (q_pure rfl) rfl <| wpl_nil <| ex_then <| wpc_ret ?_
   refine ex_then_ret ?_
   refine ret1 (.inl rfl) rfl rfl ?_
   first | exact fun w h => ⟨by rw [decide_eq_false hne], h.below⟩ | exact fun w h => ⟨by rw [decide_eq_true hR], h.below⟩
  ·
   have hpx : pf = pf2 ∧ pa = pa2 ∧ pb = pb2 ∧ pl = pl2 := by simpa only [Bool.not_eq_false', decide_eq_true_eq] using hb13
   refine wpl_on rfl rfl <| wpl_q (q_field Tryd.underlying29 rfl Tryd.ti27 rfl rfl _ rfl) rfl <| wpl_on rfl rfl <| wpl_q (q_ld Tryd.underlying27 rfl rfl rfl) rfl <| wpl_on rfl rfl ?_
   refine wpl_q (q_lenW Tryd.underlying27 rfl zz4) rfl ?_
   refine wpl_on rfl rfl <| wpl_q (q_field Tryd.underlying29 rfl Tryd.ti27 rfl rfl _ rfl) rfl <| wpl_on rfl rfl <| wpl_q (q_ld Tryd.underlying27 rfl rfl rfl) rfl <| wpl_on rfl rfl ?_
   refine wpl_q (q_lenW Tryd.underlying27 rfl zz4) rfl ?_
   refine wpl_on rfl rfl <| wpl_q (q_pure rfl) rfl <| wpl_q (q_pure rfl) rfl <| wpl_nil <| ex_then ?_
   refine wpc_cond rfl (fun hc21 => ?_) (fun hc21 => ?_)
   ·
    have hdd : ¬ ((hs.length : Nat) : Int) = ((hs2.length : Nat) : Int) := by simpa using hc21
    have hne : ¬ Pth.eqv ⟨pf, pa, pb, pl, hv, hs⟩ ⟨pf2, pa2, pb2, pl2, hv2, hs2⟩ := fun e => hdd (congrArg _ e.2.1)
    refine wpc_seq <| wpc_region <| wpl_q (q_pure rfl) rfl <| wpl_nil <| ex_then <| wpc_ret ?_
    refine ex_then_ret ?_
    refine ret1 (.inl rfl) rfl rfl ?_
    first | exact fun w h => ⟨by rw [decide_eq_false hne], h.below⟩ | exact fun w h => ⟨by rw [decide_eq_true hR], h.below⟩
   ·
    have hdd : ((hs.length : Nat) : Int) = ((hs2.length : Nat) : Int) := by simpa using hc21
    have hl : hs.length = hs2.length := by omega
    refine wpc_skip <| ex_then <| wpc_seq <| wpc_seq <| wpc_region <| wpl_q (q_pure rfl) rfl <| wpl_nil <| ex_then <| wpc_block ?_
    refine wpc_loopc (ι := { x : Nat // (x ≤ hs.length) ∧ (∀ j, j < x → Hop.eqv (hs.getD j Hop.z) (hs2.getD j Hop.z)) }) [(2, _), (3, _)] (fun x Lc => (5, .int .i64 ((x.1 : Nat) : Int)) :: Lc) (fun x => Mem w [] [.blk b3 29 [.int .u8 (pf2.toNat : Int), .int .u64 (pa2.toNat : Int), .int .u64 (pb2.toNat : Int), .int .i64 pl2, hv2], .blk b2 29 [.int .u8 (pf.toNat : Int), .int .u64 (pa.toNat : Int), .int .u64 (pb.toNat : Int), .int .i64 pl, hv]] []) (fun x => hs.length - x.1) ⟨0, ⟨Nat.zero_le _, fun j hj => zz14⟩⟩ zz10 ?_ ?_
    ·
     exact fun w h => h
    ·
     rintro ⟨i, ⟨hi0, hi1⟩⟩; try dsimp only
     have hi0 : i ≤ hs.length := hi0; have hi1 : ∀ j, j < i → Hop.eqv (hs.getD j Hop.z) (hs2.getD j Hop.z) := hi1
     refine wpc_seq <| wpc_seq <| wpc_region <| wpl_q (q_pure rfl) rfl <| wpl_q (q_field Tryd.underlying29 rfl Tryd.ti27 rfl rfl _ rfl) rfl <| wpl_q (q_ld Tryd.underlying27 rfl rfl rfl) rfl ?_
     refine wpl_q (q_lenW Tryd.underlying27 rfl zz4) rfl ?_
     refine wpl_q (q_pure rfl) rfl <| wpl_nil <| ex_then ?_
     refine wpc_cond rfl (fun hc26 => ?_) (fun hc26 => ?_)
     ·
      simp only [decide_eq_true_eq] at hc26
      have hil : i < hs.length := by omega
      have hil2 : i < hs2.length := by omega
      have hsi := hq _ (getD_memO hil)
      have hsi2 := hq2 _ (getD_memO hil2)
      haveI := hsi.sv.one
      haveI := hsi2.sv.one
      refine wpc_skip <| ex_then <| wpc_seq <| wpc_block ?_
      refine wpc_cutc ({ x : Nat × Nat // True }) [(2, .pointer (some ⟨b2, 0, none⟩)), (3, .pointer (some ⟨b3, 0, none⟩)), (5, .int .i64 ((i : Nat) : Int))] (fun x Lc => (6, .pointer (some ⟨x.1.1, 0, none⟩)) :: (7, .pointer (some ⟨x.1.2, 0, none⟩)) :: Lc) (fun x => Mem w [] [.blk x.1.1 68 (hs.getD i Hop.z).c, .blk x.1.2 68 (hs2.getD i Hop.z).c, .blk b3 29 [.int .u8 (pf2.toNat : Int), .int .u64 (pa2.toNat : Int), .int .u64 (pb2.toNat : Int), .int .i64 pl2, hv2], .blk b2 29 [.int .u8 (pf.toNat : Int), .int .u64 (pa.toNat : Int), .int .u64 (pb.toNat : Int), .int .i64 pl, hv]] []) ?_ ?_
      ·
       refine wpc_draw 99 zz6 (fun _ h => h.drew) ?_
       refine wpd_p 0 rfl zz6 trivial (q_field Tryd.underlying29 rfl Tryd.ti27 rfl rfl _ rfl) rfl sk0 ?_
       refine wpd_q 1 rfl zz6 trivial (q_ld Tryd.underlying27 rfl rfl rfl) rfl (fun _ h => h) ?_
       refine wpd_p 2 rfl zz6 trivial (q_pure rfl) rfl sk0 ?_
       refine wpd_p 3 rfl zz6 trivial (q_idxW Tryd.underlying27 Tryd.ti68 rfl rfl zz4 zz1) rfl sk0 ?_
       refine wpd_q 4 rfl zz6 trivial (q_ldWN Tryd.underlying68 rfl Tryd.ti68 rfl (fun w h => h.seen_old hh) (hs.getD i Hop.z).c (cat_part Hop.c_length Hop.z hil) (Hop.c_length _)) rfl (fun _ h => h) ?_
       refine wpd_p 5 rfl zz6 trivial (q_field Tryd.underlying29 rfl Tryd.ti27 rfl rfl _ rfl) rfl sk0 ?_
       refine wpd_q 6 rfl zz6 trivial (q_ld Tryd.underlying27 rfl rfl rfl) rfl (fun _ h => h) ?_
       refine wpd_p 7 rfl zz6 trivial (q_pure rfl) rfl sk0 ?_
       refine wpd_p 8 rfl zz6 trivial (q_idxW Tryd.underlying27 Tryd.ti68 rfl rfl zz4 zz1) rfl sk0 ?_
       refine wpd_q 9 rfl zz6 trivial (q_ldWN Tryd.underlying68 rfl Tryd.ti68 rfl (fun w h => h.seen_old hh2) (hs2.getD i Hop.z).c (cat_part Hop.c_length Hop.z hil2) (Hop.c_length _)) rfl (fun _ h => h) ?_
       refine wpd_two 10 11 zz6 ?_ ?_
       ·
        refine wpa_t 10 rfl trivial (t_alloc Tryd.ti68 Hop.z.c rfl) rfl (fun _ => (fun w h => .inr (h.sub SubC.h SubC.h))) (fun b6 => ?_)
        refine wpd_t 11 rfl zz6 trivial (t_alloc Tryd.ti68 Hop.z.c rfl) rfl (fun _ => (fun w h => .inr (h.sub SubC.h SubC.h))) (fun b7 => ?_)
        refine wpd_t0 12 rfl zz6 trivial (t_stA Tryd.ti68 rfl rfl LenC.h OneC.h LenC.h) (fun _ => (fun w h => .inr (h.sub SubC.h SubC.h))) (fun _ => ?_)
        refine wpd_t0 13 rfl zz6 trivial (t_stA Tryd.ti68 rfl rfl LenC.h OneC.h LenC.h) (fun _ => (fun w h => .inr (h.sub SubC.h SubC.h))) (fun _ => ?_)
        refine wpd_done zz6 ?_
        refine ex_mid ⟨(b6, b7), trivial⟩ ?_ ?_
        ·
         exact zz10
        ·
         exact fun w h => h.sel
       ·
        refine wpa_t 11 rfl trivial (t_alloc Tryd.ti68 Hop.z.c rfl) rfl (fun _ => (fun w h => .inr (h.sub SubC.h SubC.h))) (fun b7 => ?_)
        refine wpd_t 10 rfl zz6 trivial (t_alloc Tryd.ti68 Hop.z.c rfl) rfl (fun _ => (fun w h => .inr (h.sub SubC.h SubC.h))) (fun b6 => ?_)
        refine wpd_t0 12 rfl zz6 trivial (t_stA Tryd.ti68 rfl rfl LenC.h OneC.h LenC.h) (fun _ => (fun w h => .inr (h.sub SubC.h SubC.h))) (fun _ => ?_)
        refine wpd_t0 13 rfl zz6 trivial (t_stA Tryd.ti68 rfl rfl LenC.h OneC.h LenC.h) (fun _ => (fun w h => .inr (h.sub SubC.h SubC.h))) (fun _ => ?_)
        refine wpd_done zz6 ?_
        refine ex_mid ⟨(b6, b7), trivial⟩ ?_ ?_
        ·
         exact zz10
        ·
         exact fun w h => h.sel
      ·
       rintro ⟨⟨a6, a7⟩, _⟩; try dsimp only
       refine wpc_seq <| wpc_region <| wpl_q (q_field Tryd.underlying68 rfl Tryd.ti49 rfl rfl _ rfl) rfl <| wpl_q (q_ld Tryd.underlying49 rfl rfl (Hop.c_sy _)) rfl <| wpl_q (q_field Tryd.underlying68 rfl Tryd.ti49 rfl rfl _ rfl) rfl <| wpl_q (q_ld Tryd.underlying49 rfl rfl (Hop.c_sy _)) rfl <| wpl_q (q32_neq rfl rfl) rfl <| wpl_q (q_pure rfl) rfl ?_
       refine wpl_bool2 44 43 rfl rfl (fun hb44 => ?_) (fun hb44 => ?_)
       ·
        have hdd : ¬ (hs.getD i Hop.z).sy = (hs2.getD i Hop.z).sy := by simpa using hb44
        have hne : ¬ Pth.eqv ⟨pf, pa, pb, pl, hv, hs⟩ ⟨pf2, pa2, pb2, pl2, hv2, hs2⟩ := fun e => hdd (e.2.2 i hil).1
        refine wpl_off rfl rfl rfl rfl <| wpl_off rfl rfl rfl rfl <| wpl_off rfl rfl rfl rfl <| wpl_off rfl rfl rfl rfl <| wpl_off rfl rfl rfl rfl <| wpl_q (q_pure rfl) rfl <| wpl_q (q_pure rfl) rfl <| wpl_off rfl rfl rfl rfl <| wpl_off rfl rfl rfl rfl <| wpl_off rfl rfl rfl rfl <| wpl_off rfl rfl rfl rfl <| wpl_off rfl rfl rfl rfl ?_
        refine wpl_q (q_pure rfl) rfl <| wpl_q (q_pure rfl) rfl <| wpl_off rfl rfl rfl rfl <| wpl_off rfl rfl rfl rfl <| wpl_off rfl rfl rfl rfl <| wpl_off rfl rfl rfl rfl <| wpl_off rfl rfl rfl rfl <| wpl_q (q_pure rfl) rfl <| wpl_q (q_pure rfl) rfl <| wpl_off rfl rfl rfl rfl <| wpl_off rfl rfl rfl rfl <| wpl_off rfl rfl rfl rfl ?_
        refine wpl_off rfl rfl rfl rfl <| wpl_off rfl rfl rfl rfl <| wpl_q (q_pure rfl) rfl <| wpl_q (q_pure rfl) rfl <| wpl_off rfl rfl rfl rfl <| wpl_off rfl rfl rfl rfl <| wpl_off rfl rfl rfl rfl <| wpl_off rfl rfl rfl rfl <| wpl_off rfl rfl rfl rfl <| wpl_off rfl rfl rfl rfl <| wpl_q (q_pure rfl) rfl <| wpl_nil ?_
        refine ex_then ?_
        refine wpc_cond_t rfl ?_
        refine wpc_seq <| wpc_region <| wpl_q (q_pure rfl) rfl <| wpl_nil <| ex_then <| wpc_ret ?_
        refine ex_block_ret ?_
        refine ex_then_ret ?_
        refine ex_then_ret ?_
        refine ex_block_ret ?_
        refine ex_then_ret ?_
        refine ret1 (.inl rfl) rfl rfl ?_
        first | exact fun w h => ⟨by rw [decide_eq_false hne], h.below⟩ | exact fun w h => ⟨by rw [decide_eq_true hR], h.below⟩
       ·
        have hd44 : (hs.getD i Hop.z).sy = (hs2.getD i Hop.z).sy := by simpa using hb44
        refine wpl_on rfl rfl <| wpl_q (q_field Tryd.underlying68 rfl Tryd.ti5 rfl rfl _ rfl) rfl <| wpl_on rfl rfl <| wpl_q (q_ld Tryd.underlying5 rfl rfl (Hop.c_cnt _)) rfl <| wpl_on rfl rfl <| wpl_q (q_field Tryd.underlying68 rfl Tryd.ti5 rfl rfl _ rfl) rfl <| wpl_on rfl rfl <| wpl_q (q_ld Tryd.underlying5 rfl rfl (Hop.c_cnt _)) rfl <| wpl_on rfl rfl <| wpl_q (q8_neq rfl rfl) rfl <| wpl_q (q_pure rfl) rfl <| wpl_q (q_pure rfl) rfl ?_
        refine wpl_bool2 51 49 rfl rfl (fun hb51 => ?_) (fun hb51 => ?_)
        ·
         have hdd : ¬ (hs.getD i Hop.z).cnt = (hs2.getD i Hop.z).cnt := by simpa using hb51
         have hne : ¬ Pth.eqv ⟨pf, pa, pb, pl, hv, hs⟩ ⟨pf2, pa2, pb2, pl2, hv2, hs2⟩ := fun e => hdd (e.2.2 i hil).2.1
         refine wpl_off rfl rfl rfl rfl <| wpl_off rfl rfl rfl rfl <| wpl_off rfl rfl rfl rfl <| wpl_off rfl rfl rfl rfl <| wpl_off rfl rfl rfl rfl <| wpl_q (q_pure rfl) rfl <| wpl_q (q_pure rfl) rfl <| wpl_off rfl rfl rfl rfl <| wpl_off rfl rfl rfl rfl <| wpl_off rfl rfl rfl rfl <| wpl_off rfl rfl rfl rfl <| wpl_off rfl rfl rfl rfl ?_
         refine wpl_q (q_pure rfl) rfl <| wpl_q (q_pure rfl) rfl <| wpl_off rfl rfl rfl rfl <| wpl_off rfl rfl rfl rfl <| wpl_off rfl rfl rfl rfl <| wpl_off rfl rfl rfl rfl <| wpl_off rfl rfl rfl rfl <| wpl_q (q_pure rfl) rfl <| wpl_q (q_pure rfl) rfl <| wpl_off rfl rfl rfl rfl <| wpl_off rfl rfl rfl rfl <| wpl_off rfl rfl rfl rfl ?_
         refine wpl_off rfl rfl rfl rfl <| wpl_off rfl rfl rfl rfl <| wpl_off rfl rfl rfl rfl <| wpl_q (q_pure rfl) rfl <| wpl_nil <| ex_then ?_
         refine wpc_cond_t rfl ?_
         refine wpc_seq <| wpc_region <| wpl_q (q_pure rfl) rfl <| wpl_nil <| ex_then <| wpc_ret ?_
         refine ex_block_ret ?_
         refine ex_then_ret ?_
         refine ex_then_ret ?_
         refine ex_block_ret ?_
         refine ex_then_ret ?_
         refine ret1 (.inl rfl) rfl rfl ?_
         first | exact fun w h => ⟨by rw [decide_eq_false hne], h.below⟩ | exact fun w h => ⟨by rw [decide_eq_true hR], h.below⟩
        ·
         have hd51 : (hs.getD i Hop.z).cnt = (hs2.getD i Hop.z).cnt := by simpa using hb51
         refine wpl_on rfl rfl <| wpl_q (q_field Tryd.underlying68 rfl Tryd.ti5 rfl rfl _ rfl) rfl <| wpl_on rfl rfl <| wpl_q (q_ld Tryd.underlying5 rfl rfl (Hop.c_fl _)) rfl <| wpl_on rfl rfl <| wpl_q (q_field Tryd.underlying68 rfl Tryd.ti5 rfl rfl _ rfl) rfl <| wpl_on rfl rfl <| wpl_q (q_ld Tryd.underlying5 rfl rfl (Hop.c_fl _)) rfl <| wpl_on rfl rfl <| wpl_q (q8_neq rfl rfl) rfl <| wpl_q (q_pure rfl) rfl <| wpl_q (q_pure rfl) rfl ?_
         refine wpl_bool2 58 56 rfl rfl (fun hb58 => ?_) (fun hb58 => ?_)
         ·
          have hdd : ¬ (hs.getD i Hop.z).fl = (hs2.getD i Hop.z).fl := by simpa using hb58
          have hne : ¬ Pth.eqv ⟨pf, pa, pb, pl, hv, hs⟩ ⟨pf2, pa2, pb2, pl2, hv2, hs2⟩ := fun e => hdd (e.2.2 i hil).2.2.1
          refine wpl_off rfl rfl rfl rfl <| wpl_off rfl rfl rfl rfl <| wpl_off rfl rfl rfl rfl <| wpl_off rfl rfl rfl rfl <| wpl_off rfl rfl rfl rfl <| wpl_q (q_pure rfl) rfl <| wpl_q (q_pure rfl) rfl <| wpl_off rfl rfl rfl rfl <| wpl_off rfl rfl rfl rfl <| wpl_off rfl rfl rfl rfl <| wpl_off rfl rfl rfl rfl <| wpl_off rfl rfl rfl rfl ?_
          refine wpl_q (q_pure rfl) rfl <| wpl_q (q_pure rfl) rfl <| wpl_off rfl rfl rfl rfl <| wpl_off rfl rfl rfl rfl <| wpl_off rfl rfl rfl rfl <| wpl_off rfl rfl rfl rfl <| wpl_off rfl rfl rfl rfl <| wpl_off rfl rfl rfl rfl <| wpl_q (q_pure rfl) rfl <| wpl_nil <| ex_then ?_
          refine wpc_cond_t rfl ?_
          refine wpc_seq <| wpc_region <| wpl_q (q_pure rfl) rfl <| wpl_nil <| ex_then <| wpc_ret ?_
          refine ex_block_ret ?_
          refine ex_then_ret ?_
          refine ex_then_ret ?_
          refine ex_block_ret ?_
          refine ex_then_ret ?_
          refine ret1 (.inl rfl) rfl rfl ?_
          first | exact fun w h => ⟨by rw [decide_eq_false hne], h.below⟩ | exact fun w h => ⟨by rw [decide_eq_true hR], h.below⟩
         ·
          have hd58 : (hs.getD i Hop.z).fl = (hs2.getD i Hop.z).fl := by simpa using hb58
          refine wpl_on rfl rfl <| wpl_q (q_field Tryd.underlying68 rfl Tryd.ti49 rfl rfl _ rfl) rfl <| wpl_on rfl rfl <| wpl_q (q_ld Tryd.underlying49 rfl rfl (Hop.c_to _)) rfl <| wpl_on rfl rfl <| wpl_q (q_field Tryd.underlying68 rfl Tryd.ti49 rfl rfl _ rfl) rfl <| wpl_on rfl rfl <| wpl_q (q_ld Tryd.underlying49 rfl rfl (Hop.c_to _)) rfl <| wpl_on rfl rfl <| wpl_q (q32_neq rfl rfl) rfl <| wpl_q (q_pure rfl) rfl <| wpl_q (q_pure rfl) rfl ?_
          refine wpl_bool2 65 63 rfl rfl (fun hb65 => ?_) (fun hb65 => ?_)
          ·
           have hdd : ¬ (hs.getD i Hop.z).to = (hs2.getD i Hop.z).to := by simpa using hb65
           have hne : ¬ Pth.eqv ⟨pf, pa, pb, pl, hv, hs⟩ ⟨pf2, pa2, pb2, pl2, hv2, hs2⟩ := fun e => hdd (e.2.2 i hil).2.2.2.1
           refine wpl_off rfl rfl rfl rfl <| wpl_off rfl rfl rfl rfl <| wpl_off rfl rfl rfl rfl <| wpl_off rfl rfl rfl rfl <| wpl_off rfl rfl rfl rfl <| wpl_q (q_pure rfl) rfl <| wpl_q (q_pure rfl) rfl <| wpl_off rfl rfl rfl rfl <| wpl_off rfl rfl rfl rfl <| wpl_off rfl rfl rfl rfl <| wpl_off rfl rfl rfl rfl <| wpl_off rfl rfl rfl rfl ?_
           refine wpl_off rfl rfl rfl rfl <| wpl_q (q_pure rfl) rfl <| wpl_nil <| ex_then ?_
           refine wpc_cond_t rfl ?_
           refine wpc_seq <| wpc_region <| wpl_q (q_pure rfl) rfl <| wpl_nil <| ex_then <| wpc_ret ?_
           refine ex_block_ret ?_
           refine ex_then_ret ?_
           refine ex_then_ret ?_
           refine ex_block_ret ?_
           refine ex_then_ret ?_
           refine ret1 (.inl rfl) rfl rfl ?_
           first | exact fun w h => ⟨by rw [decide_eq_false hne], h.below⟩ | exact fun w h => ⟨by rw [decide_eq_true hR], h.below⟩
          ·
           have hd65 : (hs.getD i Hop.z).to = (hs2.getD i Hop.z).to := by simpa using hb65
           refine wpl_on rfl rfl <| wpl_q (q_field Tryd.underlying68 rfl Tryd.ti63 rfl rfl _ rfl) rfl <| wpl_on rfl rfl <| wpl_q (q_ldP Tryd.underlying63 rfl Tryd.ti63 rfl (hs.getD i Hop.z).key (Hop.c_key _) (Hop.key_length _)) rfl <| wpl_on rfl rfl <| wpl_q (q_field Tryd.underlying68 rfl Tryd.ti63 rfl rfl _ rfl) rfl <| wpl_on rfl rfl <| wpl_q (q_ldP Tryd.underlying63 rfl Tryd.ti63 rfl (hs2.getD i Hop.z).key (Hop.c_key _) (Hop.key_length _)) rfl <| wpl_on rfl rfl <| wpl_q (q_neK rfl rfl (hs.getD i Hop.z).root.2 (hs2.getD i Hop.z).root.2) rfl <| wpl_q (q_pure rfl) rfl <| wpl_q (q_pure rfl) rfl ?_
           refine wpl_bool2 72 70 rfl rfl (fun hb72 => ?_) (fun hb72 => ?_)
           ·
            have hdd : ¬ ((hs.getD i Hop.z).root.1 = (hs2.getD i Hop.z).root.1 ∧ (hs.getD i Hop.z).ht = (hs2.getD i Hop.z).ht) := by simpa only [Bool.not_eq_true', decide_eq_false_iff_not] using hb72
            have hne : ¬ Pth.eqv ⟨pf, pa, pb, pl, hv, hs⟩ ⟨pf2, pa2, pb2, pl2, hv2, hs2⟩ := fun e => hdd (e.2.2 i hil).2.2.2.2.1
            refine wpl_off rfl rfl rfl rfl <| wpl_off rfl rfl rfl rfl <| wpl_off rfl rfl rfl rfl <| wpl_off rfl rfl rfl rfl <| wpl_off rfl rfl rfl rfl <| wpl_off rfl rfl rfl rfl <| wpl_q (q_pure rfl) rfl <| wpl_nil <| ex_then ?_
            refine wpc_cond_t rfl ?_
            refine wpc_seq <| wpc_region <| wpl_q (q_pure rfl) rfl <| wpl_nil <| ex_then <| wpc_ret ?_
            refine ex_block_ret ?_
            refine ex_then_ret ?_
            refine ex_then_ret ?_
            refine ex_block_ret ?_
            refine ex_then_ret ?_
            refine ret1 (.inl rfl) rfl rfl ?_
            first | exact fun w h => ⟨by rw [decide_eq_false hne], h.below⟩ | exact fun w h => ⟨by rw [decide_eq_true hR], h.below⟩
           ·
            have hd72 : (hs.getD i Hop.z).root.1 = (hs2.getD i Hop.z).root.1 ∧ (hs.getD i Hop.z).ht = (hs2.getD i Hop.z).ht := by simpa only [Bool.not_eq_false', decide_eq_true_eq] using hb72
            refine wpl_on rfl rfl <| wpl_q (q_field Tryd.underlying68 rfl Tryd.ti66 rfl rfl _ rfl) rfl <| wpl_on rfl rfl <| wpl_q (q_ldP Tryd.underlying66 rfl Tryd.ti66 rfl (hs.getD i Hop.z).sig (Hop.c_sig _) rfl) rfl <| wpl_on rfl rfl <| wpl_q (q_field Tryd.underlying68 rfl Tryd.ti66 rfl rfl _ rfl) rfl <| wpl_on rfl rfl <| wpl_q (q_ldP Tryd.underlying66 rfl Tryd.ti66 rfl (hs2.getD i Hop.z).sig (Hop.c_sig _) rfl) rfl <| wpl_on rfl rfl ?_
            refine wpl_t (t_pur Tryd.hb46 rfl fun w h => refSame7 _ _ _ _ _ _ _ _ _ _ w (hsi.old h).1 (hsi.old h).2.1 (hsi.old h).2.2.1 (hsi.old h).2.2.2 (hsi2.old h).1 (hsi2.old h).2.1 (hsi2.old h).2.2.1 (hsi2.old h).2.2.2) rfl (fun b77 => ?_)
            refine wpl_on rfl rfl <| wpl_q (q_pure rfl) rfl <| wpl_q (q_pure rfl) rfl <| wpl_nil <| ex_then ?_
            refine wpc_cond rfl (fun hc79 => ?_) (fun hc79 => ?_)
            ·
             have hdd : ¬ ((hs.getD i Hop.z).ix = (hs2.getD i Hop.z).ix ∧ (hs.getD i Hop.z).chs = (hs2.getD i Hop.z).chs ∧ (hs.getD i Hop.z).ps = (hs2.getD i Hop.z).ps) := by simpa only [Bool.not_eq_true', decide_eq_false_iff_not] using hc79
             have hne : ¬ Pth.eqv ⟨pf, pa, pb, pl, hv, hs⟩ ⟨pf2, pa2, pb2, pl2, hv2, hs2⟩ := fun e => hdd (e.2.2 i hil).2.2.2.2.2
             refine wpc_seq <| wpc_region <| wpl_q (q_pure rfl) rfl <| wpl_nil <| ex_then <| wpc_ret ?_
             refine ex_block_ret ?_
             refine ex_then_ret ?_
             refine ex_then_ret ?_
             refine ex_block_ret ?_
             refine ex_then_ret ?_
             refine ret1 (.inl rfl) rfl rfl ?_
             first | exact fun w h => ⟨by rw [decide_eq_false hne], h.below⟩ | exact fun w h => ⟨by rw [decide_eq_true hR], h.below⟩
            ·
             have hd79 : (hs.getD i Hop.z).ix = (hs2.getD i Hop.z).ix ∧ (hs.getD i Hop.z).chs = (hs2.getD i Hop.z).chs ∧ (hs.getD i Hop.z).ps = (hs2.getD i Hop.z).ps := by simpa only [Bool.not_eq_false', decide_eq_true_eq] using hc79
             have hok : Hop.eqv (hs.getD i Hop.z) (hs2.getD i Hop.z) := ⟨hd44, hd51, hd58, hd65, hd72, hd79⟩
             refine wpc_skip <| ex_block <| ex_then <| wpc_region <| wpl_q (q_pure rfl) rfl ?_
             refine wpl_q (q_addN (b := 1) rfl rfl zz1) rfl ?_
             refine wpl_q (q_pure rfl) rfl <| wpl_nil ?_
             refine ex_again ⟨i + 1, ⟨zz47, fun j hj => zz52⟩⟩ ?_ ?_ ?_
             ·
              exact zz10
             ·
              exact fun w h => h.sel
             ·
              (show hs.length - (i + 1) < hs.length - i); omega
     ·
      simp only [decide_eq_false_iff_not] at hc26
      obtain rfl : i = hs.length := by omega
      have hR : Pth.eqv ⟨pf, pa, pb, pl, hv, hs⟩ ⟨pf2, pa2, pb2, pl2, hv2, hs2⟩ := ⟨hpx, hl, hi1⟩
      refine wpc_exit ?_
      refine ex_then_exit ?_
      refine ex_then_exit ?_
      refine ex_block_hit ?_
      refine ex_then <| wpc_seq <| wpc_region <| wpl_q (q_pure rfl) rfl <| wpl_nil <| ex_then <| wpc_ret ?_
      refine ret1 (.inl rfl) rfl rfl ?_
      first | exact fun w h => ⟨by rw [decide_eq_false hne], h.below⟩ | exact fun w h => ⟨by rw [decide_eq_true hR], h.below⟩
end Go.Proofs.YtjpfhkjmjnjggaaDoor
namespace Go.Proofs.YtjpfhkjmjnjggaaDoor
open Go Go.PL Go.RowKit
instance lenC_pthz : LenC Pth.z.c 5 := ⟨rfl⟩
def hopsF (qs : List Hop) : Fact := ⟨fun r => ∀ h ∈ qs, h.seen r, fun _ _ hr h q hq => (h q hq).mono hr⟩
theorem hopsF_at {w0 w : World} {Ln : List Nat} {M : List Ent} {S : List Fact} (h : Mem w0 Ln M S w) {qs : List Hop} (hs : hopsF qs ∈ S) : ∀ q ∈ qs, q.seen w.cell? := h.fact hs
def Hop.re (h : Hop) (x : Value × Value) : Hop := { h with cv := x.1, pv := x.2 }
theorem Hop.re_set (h : Hop) (x : Value × Value) : h.c.take 21 ++ [.int .i64 h.ix, x.1, x.2] ++ h.c.drop (21 + 3) = (h.re x).c := by
  have e : h.c = (.int .u32 (h.sy.toNat : Int) :: .int .u8 (h.cnt.toNat : Int) :: .int .u8 (h.fl.toNat : Int) :: .int .u32 (h.to.toNat : Int) :: (v8s h.root.1 ++ [.int .i64 h.ht])) ++ [.int .i64 h.ix, h.cv, h.pv] := by simp [Hop.c]
  have l : (.int .u32 (h.sy.toNat : Int) :: .int .u8 (h.cnt.toNat : Int) :: .int .u8 (h.fl.toNat : Int) :: .int .u32 (h.to.toNat : Int) :: (v8s h.root.1 ++ [Value.int .i64 h.ht])).length = 21 := by simp [v8s_length, h.root.2]
  rw [e, List.take_left' l, List.drop_of_length_le (by rw [List.length_append, l]; exact Nat.le_refl _)]
  simp [Hop.c, Hop.re]
theorem twin_fact {r : Rd} {qs : List Hop} {h : Hop} {x : Value × Value} (h1 : ∀ q ∈ qs, q.seen r) (h2 : Seen r x.1 h.chs.length 16 (v8s h.chs.flatten)) (h3 : Seen r x.2 h.ps.length 16 (v8s h.ps.flatten)) (ha : ∀ y ∈ h.chs, y.length = 16) (hb : ∀ y ∈ h.ps, y.length = 16) : ∀ q ∈ qs ++ [h.re x], q.seen r := fun q hq => by
  rcases List.mem_append.1 hq with hq | hq
  · exact h1 q hq
  · rw [List.mem_singleton] at hq; subst hq
    exact ⟨h2, ha, h3, hb⟩
theorem eqv_re (h : Hop) (x : Value × Value) : h.eqv (h.re x) := ⟨rfl, rfl, rfl, rfl, ⟨rfl, rfl⟩, rfl, rfl, rfl⟩
theorem getD_app {qs : List Hop} {a : Hop} {i : Nat} (h : qs.length = i) : (qs ++ [a]).getD i Hop.z = a := by
  rw [List.getD_eq_getElem?_getD, List.getElem?_append_right zz14, h, Nat.sub_self]; rfl
theorem getD_left {qs : List Hop} {a : Hop} {i j : Nat} (h : qs.length = i) (hj : j < i) : (qs ++ [a]).getD j Hop.z = qs.getD j Hop.z := by
  rw [List.getD_eq_getElem?_getD, List.getD_eq_getElem?_getD, List.getElem?_append_left zz14]
theorem hcs_snoc (qs : List Hop) (a : Hop) : hcs qs ++ a.c = hcs (qs ++ [a]) := cat_snoc Hop.c qs a
theorem built_pre (f : UInt8) (a b : UInt64) (n : Int) : Tryd.prog.built 29 [(0, .agg (pfL f a b n).toArray)] = some #[.int .u8 (f.toNat : Int), .int .u64 (a.toNat : Int), .int .u64 (b.toNat : Int), .int .i64 n, .slice none 0 0] := by kernel_rfl
theorem refTwin42 (p : Pth) (w : World) (hp : p.seen w.cell?) (hlim : SmP p) (hn35 : p.hs.length ≤ 35) :
    Calls Tryd.prog 12 [.agg p.c.toArray].toArray w (GivesP w (fun x : Value × List Hop => SV x.1 p.hs.length ∧ HsEqv p.hs x.2) (fun x => .agg (Pth.mk p.pf p.pa p.pb p.pl x.1 x.2).c.toArray) (fun x => [.row x.1 p.hs.length 68 24 (hcs x.2)]) (fun x => [hopsF x.2])) := by
  obtain ⟨pf, pa, pb, pl, hv, hs⟩ := p
  have hh : Seen w.cell? hv hs.length 24 (hcs hs) := hp.1
  have hq : ∀ h ∈ hs, h.seen w.cell? := hp.2
  have svh := hh.sv
  have lh := svh.le
  simp only [maxLen] at lh
  have hn35 : hs.length ≤ 35 := hn35
  refine enter (m := 32) (R := Mem w [] [] []) Tryd.func12 rfl rfl (Nat.le_of_ble_eq_true rfl) (Mem.start w) ?_
  refine wpc_seq <| wpc_region ?_
  refine wpl_t (t_box rfl [.int .u8 (pf.toNat : Int), .int .u64 (pa.toNat : Int), .int .u64 (pb.toNat : Int), .int .i64 pl, hv] rfl) rfl (fun b1 => ?_)
  refine wpl_t (t_alloc Tryd.ti29 Pth.z.c rfl) rfl (fun b2 => ?_)
  refine wpl_nil <| ex_then <| wpc_seq <| wpc_region <| wpl_q (q_field Tryd.underlying29 rfl Tryd.ti26 rfl rfl _ rfl) rfl ?_
  refine wpl_q (q_ldP Tryd.underlying26 rfl Tryd.ti26 rfl (pfL pf pa pb pl) rfl zz2) rfl ?_
  refine wpl_q (q_build (cs := [.int .u8 (pf.toNat : Int), .int .u64 (pa.toNat : Int), .int .u64 (pb.toNat : Int), .int .i64 pl, .slice none 0 0]) rfl (built_pre pf pa pb pl)) rfl ?_
  refine wpl_t (t_alloc Tryd.ti29 Pth.z.c rfl) rfl (fun b3 => ?_)
  refine wpl_t0 (t_stA Tryd.ti29 rfl rfl LenC.h OneC.h LenC.h) (fun _ => ?_)
  refine wpl_nil <| ex_then <| wpc_seq <| wpc_seq <| wpc_region <| wpl_q (q_pure rfl) rfl <| wpl_nil <| ex_then <| wpc_block ?_
  refine wpc_loopc (ι := { x : Nat × Value × List Hop // (x.1 ≤ hs.length) ∧ (SV x.2.1 x.1) ∧ (x.2.2.length = x.1) ∧ (∀ j, j < x.1 → Hop.eqv (hs.getD j Hop.z) (x.2.2.getD j Hop.z)) }) [(1, _), (2, _), (3, _)] (fun x Lc => (4, .int .i64 ((x.1.1 : Nat) : Int)) :: Lc) (fun x => Mem w [] [.row x.1.2.1 x.1.1 68 24 (hcs x.1.2.2), .blk b3 29 [.int .u8 (pf.toNat : Int), .int .u64 (pa.toNat : Int), .int .u64 (pb.toNat : Int), .int .i64 pl, x.1.2.1], .blk b2 29 Pth.z.c, .blk b1 29 [.int .u8 (pf.toNat : Int), .int .u64 (pa.toNat : Int), .int .u64 (pb.toNat : Int), .int .i64 pl, hv]] [hopsF x.1.2.2]) (fun x => hs.length - x.1.1) ⟨(0, .slice none 0 0, []), ⟨Nat.zero_le _, SV.nil, rfl, fun j hj => zz14⟩⟩ zz10 ?_ ?_
  ·
   exact fun w h => Mem.imp (h.nilRow 68 24) (fun r _ t ht => zz60)
  ·
   rintro ⟨⟨i, v, qs⟩, ⟨hi0, hi1, hi2, hi3⟩⟩; try dsimp only
   have hi0 : i ≤ hs.length := hi0; have hi1 : SV v i := hi1; have hi2 : qs.length = i := hi2; have hi3 : ∀ j, j < i → Hop.eqv (hs.getD j Hop.z) (qs.getD j Hop.z) := hi3
   refine wpc_seq <| wpc_seq <| wpc_region <| wpl_q (q_pure rfl) rfl <| wpl_q (q_field Tryd.underlying29 rfl Tryd.ti27 rfl rfl _ rfl) rfl <| wpl_q (q_ld Tryd.underlying27 rfl rfl rfl) rfl ?_
   refine wpl_q (q_lenW Tryd.underlying27 rfl zz4) rfl ?_
   refine wpl_q (q_pure rfl) rfl <| wpl_nil <| ex_then ?_
   refine wpc_cond rfl (fun hc13 => ?_) (fun hc13 => ?_)
   ·
    simp only [decide_eq_true_eq] at hc13
    have hil : i < hs.length := by omega
    have hsi := hq _ (getD_memO hil)
    haveI := hsi.sv.one
    have hlm : (hs.getD i Hop.z).chs.length ≤ 100 ∧ (hs.getD i Hop.z).ps.length ≤ 100 := hlim _ (getD_memO hil)
    refine wpc_skip <| ex_then <| wpc_seq <| wpc_block <| wpc_seq <| wpc_region <| wpl_q (q_field Tryd.underlying29 rfl Tryd.ti27 rfl rfl _ rfl) rfl <| wpl_q (q_ld Tryd.underlying27 rfl rfl rfl) rfl <| wpl_q (q_pure rfl) rfl ?_
    refine wpl_q (q_idxW Tryd.underlying27 Tryd.ti68 rfl rfl zz4 zz1) rfl ?_
    refine wpl_q (q_ldWN Tryd.underlying68 rfl Tryd.ti68 rfl (fun w h => h.seen_old hh) (hs.getD i Hop.z).c (cat_part Hop.c_length Hop.z hil) (Hop.c_length _)) rfl ?_
    refine wpl_t (t_alloc Tryd.ti68 Hop.z.c rfl) rfl (fun b5 => ?_)
    refine wpl_t0 (t_stA Tryd.ti68 rfl rfl LenC.h OneC.h LenC.h) (fun _ => ?_)
    refine wpl_nil <| ex_then <| wpc_seq <| wpc_region <| wpl_q (q_field Tryd.underlying68 rfl Tryd.ti66 rfl rfl _ rfl) rfl <| wpl_q (q_ldP Tryd.underlying66 rfl Tryd.ti66 rfl (hs.getD i Hop.z).sig (Hop.c_sig _) rfl) rfl ?_
    refine wpl_tp (t_callP2 Tryd.hb37 rfl fun w h => refTwin7 (hs.getD i Hop.z).cv (hs.getD i Hop.z).pv (hs.getD i Hop.z).chs (hs.getD i Hop.z).ps (hs.getD i Hop.z).ix w (hsi.old h).1 (hsi.old h).2.1 (hsi.old h).2.2.1 (hsi.old h).2.2.2 zz14 zz14) rfl (fun b23 p23 => ?_)
    haveI : OneC (((hs.getD i Hop.z).re b23)).c := Hop.sv.one ⟨p23.1, p23.2⟩
    refine wpl_q (q_field Tryd.underlying68 rfl Tryd.ti66 rfl rfl _ rfl) rfl ?_
    refine wpl_t0 (t_stP Tryd.ti66 rfl rfl zz2 (OneC.cons rfl (OneC.cons (SV.one p23.1) (OneC.cons (SV.one p23.2) oneC_nil))).h (by rw [Hop.c_length]; exact Nat.le_refl _) ((hs.getD i Hop.z).re b23).c (Hop.re_set _ _)) (fun _ => ?_)
    refine wpl_nil <| ex_then <| wpc_region <| wpl_q (q_field Tryd.underlying29 rfl Tryd.ti27 rfl rfl _ rfl) rfl <| wpl_q (q_ld Tryd.underlying27 rfl rfl rfl) rfl <| wpl_q (q_ldN Tryd.underlying68 rfl Tryd.ti68 rfl LenC.h) rfl ?_
    refine wpl_tp (t_bsG [.agg ((hs.getD i Hop.z).re b23).c.toArray] ((hs.getD i Hop.z).re b23).c Tryd.underlying27 Tryd.ti68 rfl zz19 rfl zz19 zz19 rfl zz58 (List.append_nil _)) rfl (fun b28 p28 => ?_)
    refine wpl_tp (t_apW Tryd.underlying27 Tryd.ti68 rfl zz19 rfl rfl (fun w h => zz11) OneC.h zz1 zz1 (hcs (qs ++ [((hs.getD i Hop.z).re b23)])) (hcs_snoc _ _)) rfl (fun b29 p29 => ?_)
    refine wpl_q (q_field Tryd.underlying29 rfl Tryd.ti27 rfl rfl _ rfl) rfl ?_
    refine wpl_t0 (t_st1 Tryd.ti27 rfl rfl (SV.one zz4) zz5 [.int .u8 (pf.toNat : Int), .int .u64 (pa.toNat : Int), .int .u64 (pb.toNat : Int), .int .i64 pl, b29] rfl) (fun _ => ?_)
    refine wpl_nil <| ex_block <| ex_then <| wpc_region <| wpl_q (q_pure rfl) rfl ?_
    refine wpl_q (q_addN (b := 1) rfl rfl zz1) rfl ?_
    refine wpl_q (q_pure rfl) rfl <| wpl_nil ?_
    refine ex_again ⟨(i + 1, b29, qs ++ [((hs.getD i Hop.z).re b23)]), ⟨zz47, p29, by show (qs ++ [((hs.getD i Hop.z).re b23)]).length = i + 1; rw [List.length_append, hi2]; rfl, fun j hj => by
      dsimp only
      rcases Nat.lt_or_ge j i with h | h
      · rw [getD_left hi2 h]; exact hi3 j h
      · obtain rfl : j = i := (by have hj : j < i + 1 := hj; omega)
        rw [getD_app hi2]; exact eqv_re _ _⟩⟩ ?_ ?_ ?_
    ·
     exact zz10
    ·
     exact fun w h => by
       have h1 := h.sel (M' := .row b23.1 (hs.getD i Hop.z).chs.length 61 16 (v8s (hs.getD i Hop.z).chs.flatten) :: .row b23.2 (hs.getD i Hop.z).ps.length 61 16 (v8s (hs.getD i Hop.z).ps.flatten) :: [.row b29 (i + 1) 68 24 (hcs (qs ++ [((hs.getD i Hop.z).re b23)])), .blk b3 29 [.int .u8 (pf.toNat : Int), .int .u64 (pa.toNat : Int), .int .u64 (pb.toNat : Int), .int .i64 pl, b29], .blk b2 29 Pth.z.c, .blk b1 29 [.int .u8 (pf.toNat : Int), .int .u64 (pa.toNat : Int), .int .u64 (pb.toNat : Int), .int .i64 pl, hv]])
       have h2 := (h1.freezeRow .here).freezeRow .here
       exact h2.imp fun r hr t ht => by
         rw [List.mem_singleton] at ht
         subst ht
         exact twin_fact (hr (hopsF qs) zz50) (hr (Go.PL.seen b23.1 (hs.getD i Hop.z).chs.length 16 (v8s (hs.getD i Hop.z).chs.flatten)) zz50) (hr (Go.PL.seen b23.2 (hs.getD i Hop.z).ps.length 16 (v8s (hs.getD i Hop.z).ps.flatten)) zz50) hsi.2.1 hsi.2.2.2
    ·
     (show hs.length - (i + 1) < hs.length - i); omega
   ·
    simp only [decide_eq_false_iff_not] at hc13
    obtain rfl : i = hs.length := by omega
    have svv := hi1
    haveI : OneC [.int .u8 (pf.toNat : Int), .int .u64 (pa.toNat : Int), .int .u64 (pb.toNat : Int), .int .i64 pl, v] := Pth.sv.one (p := ⟨pf, pa, pb, pl, v, hs⟩) svv
    refine wpc_exit ?_
    refine ex_then_exit ?_
    refine ex_then_exit ?_
    refine ex_block_hit ?_
    refine ex_then <| wpc_seq <| wpc_region <| wpl_q (q_ldN Tryd.underlying29 rfl Tryd.ti29 rfl LenC.h) rfl ?_
    refine wpl_t0 (t_stA Tryd.ti29 rfl rfl LenC.h OneC.h LenC.h) (fun _ => ?_)
    refine wpl_nil <| ex_then <| wpc_ret ?_
    refine retv1 (.inl rfl) rfl (rv_agg Tryd.underlying29 rfl Tryd.ti29 rfl (fun w h => h.atB) zz2) ?_
    exact fun w h => ⟨(v, qs), ⟨svv, hi2.symm, hi3⟩, rfl, h.below, h.made zz8 zz8⟩
end Go.Proofs.YtjpfhkjmjnjggaaDoor
namespace Go.Proofs.YtjpfhkjmjnjggaaDoor
open Go Go.PL Go.RowKit
theorem cl_nil {a : Option Addr} {cap : Nat} {sz : Nat} {n : Nat} {cs : List Value} {r : Rd} (h : Seen r (.slice a n cap) n sz cs) (hn : a.isNone = true) : n = 0 := by
  obtain ⟨a', cap', e, h1, h2, h3⟩ := h.sv
  simp only [Value.slice.injEq] at e
  obtain ⟨rfl, _, rfl⟩ := e
  have := h3 (by simpa using hn)
  omega
theorem cloneS0 (a : Option Addr) (cap : Nat) (l : List (List UInt8)) (w : World) (hav : Seen w.cell? (.slice a l.length cap) l.length 16 (v8s l.flatten)) (hll : ∀ x ∈ l, x.length = 16) (hl : l.length ≤ 1000) :
    Calls Tryd.prog 96 [.slice a l.length cap].toArray w (GivesP w (fun v => SV v l.length) (fun v => v) (fun v => [.row v l.length 61 16 (v8s l.flatten)]) (fun _ => [])) := by
  have sav := hav.sv
  refine enter (m := 8) (R := Mem w [] [] []) Tryd.func96 rfl rfl (Nat.le_of_ble_eq_true rfl) (Mem.start w) ?_
  refine wpc_seq <| wpc_region <| wpl_q (q_pure rfl) rfl <| wpl_nil <| ex_then <| wpc_seq <| wpc_seq <| wpc_region <| wpl_q (q_pure rfl) rfl ?_
  refine wpl_q (q_slNil Tryd.underlying64 rfl rfl zz6) rfl ?_
  refine wpl_nil <| ex_then ?_
  refine wpc_cond rfl (fun hc4 => ?_) (fun hc4 => ?_)
  ·
   have h0 := cl_nil hav hc4
   have hx0 := List.eq_nil_of_length_eq_zero h0
   subst hx0
   refine wpc_seq <| wpc_region <| wpl_q (q_pure rfl) rfl <| wpl_nil <| ex_then <| wpc_ret ?_
   refine ex_then_ret ?_
   refine ret1 (.inl rfl) rfl rfl ?_
   exact fun w h => ⟨.slice none 0 0, SV.nil, rfl, h.below, (h.nilRow 61 16).made zz8 .nil⟩
  ·
   refine wpc_skip <| ex_then <| wpc_seq <| wpc_region ?_
   refine wpl_tp (t_bs0W Tryd.underlying64 Tryd.ti61) rfl (fun b5 p5 => ?_)
   refine wpl_q (q_pure rfl) rfl ?_
   refine wpl_tp (t_ap0 Tryd.underlying64 Tryd.ti61 rfl zz19 rfl rfl (fun w h => h.seen_old hav) (v8s_one _) zz1 zz1) rfl (fun b7 p7 => ?_)
   refine wpl_q (q_pure rfl) rfl <| wpl_nil <| ex_then <| wpc_ret ?_
   refine ret1 (.inl rfl) rfl rfl ?_
   exact fun w h => ⟨b7, p7, rfl, h.below, h.made SubC.h .nil⟩
theorem cloneS (v : Value) (l : List (List UInt8)) (w : World) (h : Seen w.cell? v l.length 16 (v8s l.flatten)) (hll : ∀ x ∈ l, x.length = 16) (hl : l.length ≤ 1000) : Calls Tryd.prog 96 [v].toArray w (GivesP w (fun v => SV v l.length) (fun v => v) (fun v => [.row v l.length 61 16 (v8s l.flatten)]) (fun _ => [])) := by
  obtain ⟨a, cap, rfl, _⟩ := h.sv
  exact cloneS0 a cap l w h hll hl
def Hop.wc (h : Hop) (v : Value) : Hop := { h with cv := v }
def Hop.wp (h : Hop) (v : Value) : Hop := { h with pv := v }
theorem Hop.c_split (h : Hop) : h.c = (.int .u32 (h.sy.toNat : Int) :: .int .u8 (h.cnt.toNat : Int) :: .int .u8 (h.fl.toNat : Int) :: .int .u32 (h.to.toNat : Int) :: (v8s h.root.1 ++ [.int .i64 h.ht])) ++ [.int .i64 h.ix, h.cv, h.pv] := by simp [Hop.c]
theorem Hop.c_pre (h : Hop) : (.int .u32 (h.sy.toNat : Int) :: .int .u8 (h.cnt.toNat : Int) :: .int .u8 (h.fl.toNat : Int) :: .int .u32 (h.to.toNat : Int) :: (v8s h.root.1 ++ [Value.int .i64 h.ht])).length = 21 := by simp [v8s_length, h.root.2]
theorem Hop.c_set22 (h : Hop) (v : Value) : h.c.set 22 v = (h.wc v).c := by
  rw [h.c_split, List.set_append_right _ _ (by rw [h.c_pre]; decide), h.c_pre, (h.wc v).c_split]; rfl
theorem Hop.c_set23 (h : Hop) (v : Value) : h.c.set 23 v = (h.wp v).c := by
  rw [h.c_split, List.set_append_right _ _ (by rw [h.c_pre]; decide), h.c_pre, (h.wp v).c_split]; rfl
theorem twin (hp : Hop) (w : World) (hs : hp.seen w.cell?) (hlc : hp.chs.length ≤ 1000) (hlp : hp.ps.length ≤ 1000) :
    Calls Tryd.prog 79 [.agg hp.c.toArray].toArray w (GivesP w (fun x : Value × Value => SV x.1 hp.chs.length ∧ SV x.2 hp.ps.length) (fun x => .agg (hp.re x).c.toArray) (fun x => [.row x.1 hp.chs.length 61 16 (v8s hp.chs.flatten), .row x.2 hp.ps.length 61 16 (v8s hp.ps.flatten)]) (fun _ => [])) := by
  haveI := hs.sv.one
  refine enter (m := 16) (R := Mem w [] [] []) Tryd.func79 rfl rfl (Nat.le_of_ble_eq_true rfl) (Mem.start w) ?_
  refine wpc_seq <| wpc_region ?_
  refine wpl_t (t_box rfl hp.c rfl) rfl (fun b1 => ?_)
  refine wpl_t (t_alloc Tryd.ti68 Hop.z.c rfl) rfl (fun b2 => ?_)
  refine wpl_nil <| ex_then <| wpc_seq ?_
  refine wpc_draw 10 zz6 (fun _ h => h.drew) ?_
  refine wpd_p 0 rfl zz6 trivial (q_field Tryd.underlying68 rfl Tryd.ti66 rfl rfl _ rfl) rfl sk0 ?_
  refine wpd_p 1 rfl zz6 trivial (q_field Tryd.underlying66 rfl Tryd.ti64 rfl rfl _ rfl) rfl sk0 ?_
  refine wpd_q 2 rfl zz6 trivial (q_ld Tryd.underlying64 rfl rfl hp.c_cv) rfl (fun _ h => h) ?_
  refine wpd_p 4 rfl zz6 trivial (q_field Tryd.underlying68 rfl Tryd.ti66 rfl rfl _ rfl) rfl sk0 ?_
  refine wpd_p 5 rfl zz6 trivial (q_field Tryd.underlying66 rfl Tryd.ti64 rfl rfl _ rfl) rfl sk0 ?_
  refine wpd_q 6 rfl zz6 trivial (q_ld Tryd.underlying64 rfl rfl hp.c_pv) rfl (fun _ h => h) ?_
  refine wpd_tp 3 rfl zz6 trivial (t_callP1 Tryd.hb96 rfl fun w h => cloneS hp.cv hp.chs w (hs.old h).1 hs.2.1 zz14) rfl (fun _ => (fun w h => .inr (h.sub SubC.h SubC.h))) (fun b6 p6 => ?_)
  refine wpd_p 8 rfl zz6 trivial (q_field Tryd.underlying68 rfl Tryd.ti66 rfl rfl _ rfl) rfl (fun w h => .inr (h.sub SubC.h SubC.h)) ?_
  refine wpd_p 9 rfl zz6 trivial (q_field Tryd.underlying66 rfl Tryd.ti64 rfl rfl _ rfl) rfl (fun w h => .inr (h.sub SubC.h SubC.h)) ?_
  refine wpd_tp 7 rfl zz6 trivial (t_callP1 Tryd.hb96 rfl fun w h => cloneS hp.pv hp.ps w (hs.old h).2.2.1 hs.2.2.2 zz14) rfl (fun _ => (fun w h => .inr (h.sub SubC.h SubC.h))) (fun b10 p10 => ?_)
  refine wpd_t0 10 rfl zz6 trivial (t_st1 Tryd.ti64 rfl rfl (SV.one p6) (by rw [Hop.c_length]; decide) _ (Hop.c_set22 _ _)) (fun _ => skk rfl) (fun _ => ?_)
  refine wpd_p 11 rfl zz6 trivial (q_field Tryd.underlying68 rfl Tryd.ti66 rfl rfl _ rfl) rfl (skk rfl) ?_
  refine wpd_p 12 rfl zz6 trivial (q_field Tryd.underlying66 rfl Tryd.ti64 rfl rfl _ rfl) rfl (skk rfl) ?_
  refine wpd_t0 13 rfl zz6 trivial (t_st1 Tryd.ti64 rfl rfl (SV.one p10) (by rw [Hop.c_length]; decide) _ (Hop.c_set23 _ _)) (fun _ => skk rfl) (fun _ => ?_)
  refine wpd_done zz6 ?_
  refine ex_then <| wpc_seq ?_
  haveI : OneC ((hp.wc b6).wp b10).c := Hop.sv.one ⟨p6, p10⟩
  haveI : OneC ((hp.wp b10).wc b6).c := Hop.sv.one ⟨p6, p10⟩
  refine wpc_region <| wpl_q (q_ldN Tryd.underlying68 rfl Tryd.ti68 rfl LenC.h) rfl ?_
  refine wpl_t0 (t_stA Tryd.ti68 rfl rfl LenC.h OneC.h LenC.h) (fun _ => ?_)
  refine wpl_nil <| ex_then <| wpc_ret ?_
  refine retv1 (.inl rfl) rfl (rv_agg Tryd.underlying68 rfl Tryd.ti68 rfl (fun w h => h.atB) (Hop.c_length _)) ?_
  exact fun w1 h => ⟨(b6, b10), ⟨p6, p10⟩, rfl, h.below, (h.sel : Mem w [] [.row b6 hp.chs.length 61 16 (v8s hp.chs.flatten), .row b10 hp.ps.length 61 16 (v8s hp.ps.flatten)] [] w1).made (Sub.refl _) .nil⟩
theorem headB_eqv {a b : Hop} (h : a.eqv b) : headB a = headB b := by
  obtain ⟨h1, h2, h3, h4, ⟨h5, h6⟩, _⟩ := h
  unfold headB
  rw [h1, h2, h3, h4, h5, h6]
theorem tailH_eqv {a b : Hop} (h : a.eqv b) : tailH a = tailH b := by
  obtain ⟨_, _, _, _, _, h7, h8, h9⟩ := h
  unfold tailH
  rw [h7, h8, h9]
theorem restF_eqv {p q : Pth} (h : p.eqv q) : ∀ i, i ≤ p.hs.length → restF p i = restF q i
  | 0, _ => by
    obtain ⟨⟨h1, h2, h3, h4⟩, _⟩ := h
    show rest0 p = rest0 q
    unfold rest0
    rw [h1, h2, h3, h4]
  | i + 1, hi => by
    have e := h.2.2 i zz14
    show sumF ((headB (p.hs.getD i Hop.z) ++ restF p i) ++ tailH (p.hs.getD i Hop.z)) = sumF ((headB (q.hs.getD i Hop.z) ++ restF q i) ++ tailH (q.hs.getD i Hop.z))
    rw [headB_eqv e, tailH_eqv e, restF_eqv h i zz14]
theorem msgB_eqv {p q : Pth} (h : p.eqv q) {i : Nat} (hi : i < p.hs.length) : msgB p i = msgB q i := by
  unfold msgB
  rw [headB_eqv (h.2.2 i hi), restF_eqv h i zz14]
end Go.Proofs.YtjpfhkjmjnjggaaDoor
namespace Go.Proofs.YtjpfhkjmjnjggaaDoor
open Go Go.PL Go.RowKit
theorem t_stWFN {P : Program} {Q : Exit → Act → World → Prop} {n : Cx} {L : Slots} {w0 : World} {Ln : List Nat} {M : List Ent} {S : List Fact} {t : TypeId} {x y : Operand} {v u : Value} {m j k : Nat} {e : TypeId} {s' : Nat} {xs vs : List Value} {f : Ent → List Ent} {z : Value} {sz by_ : Nat} (ht : TyI P t z sz by_)
    (hx : ev L x = some (.pointer (some (((sa v).add j).add k)))) (hy : ev L y = some u) [hr : ReplV M v m e s' xs f] (hu : u.cells.toList = vs) (hl : vs.length = sz) (h1 : ∀ u ∈ vs, u.oneCell' = true) (hin : j + k + vs.length ≤ xs.length) (hpos : 0 < xs.length) (ys : List Value)
    (hys : xs.take (j + k) ++ vs ++ xs.drop (j + k + vs.length) = ys) :
    TOp P Q n (Mem w0 Ln M S) L (.store t x y) Unit (fun _ => undef) (fun _ => Mem w0 Ln (f (.row v m e s' ys)) S) := by
  rw [addr_add_add] at hx
  exact t_stWN ht hx hy hu hl h1 hin hpos ys hys
theorem keyR_l (s : S16) (ht : Int) : (keyR s.1 ht).length = 16 := keyR_length _ _
def newH (h : Hop) (s : S16) (ht : Int) : Hop := ⟨h.sy, h.cnt, h.fl, h.to, ⟨keyR s.1 ht, keyR_l s ht⟩, keyH ht, 0, .slice none 0 0, [], .slice none 0 0, []⟩
def newO (p : Pth) (h : Hop) (s : S16) (ht : Int) : Pth := ⟨p.pf, p.pa, p.pb, p.pl, .slice none 0 0, p.hs ++ [newH h s ht]⟩
def sgM (p : Pth) (h : Hop) (s : S16) (ht : Int) : List UInt8 := msgB (newO p h s ht) p.hs.length
def newS (p : Pth) (h : Hop) (s : S16) (ht idx : Int) (x : Value × Value) : Hop := ⟨h.sy, h.cnt, h.fl, h.to, ⟨keyR s.1 ht, keyR_l s ht⟩, keyH ht, sigI ht idx, x.1, sigC s.1 ht idx (sgM p h s ht), x.2, sigP s.1 ht idx⟩
def nl2 : Value × Value := (.slice none 0 0, .slice none 0 0)
def sgE (h : Hop) (ht idx : Int) : Int := if 1 < h.fl.toNat then 2 else if keyE ht ≠ 0 then keyE ht else sigE ht idx
def sgP (p : Pth) (h : Hop) (s : S16) (ht idx : Int) : Pth := if sgE h ht idx = 0 then ⟨p.pf, p.pa, p.pb, p.pl, .slice none 0 0, p.hs ++ [newS p h s ht idx nl2]⟩ else Pth.z
theorem sgE_fl {h : Hop} {ht idx : Int} (h1 : 1 < h.fl.toNat) : sgE h ht idx = 2 := if_pos h1
theorem sgE_key {h : Hop} {ht idx : Int} (h1 : ¬ 1 < h.fl.toNat) (h2 : keyE ht ≠ 0) : sgE h ht idx = keyE ht := (if_neg h1).trans (if_pos h2)
theorem sgE_sig {h : Hop} {ht idx : Int} (h1 : ¬ 1 < h.fl.toNat) (h2 : ¬ keyE ht ≠ 0) : sgE h ht idx = sigE ht idx := (if_neg h1).trans (if_neg h2)
theorem sgP_no {p : Pth} {h : Hop} {s : S16} {ht idx : Int} (h1 : sgE h ht idx ≠ 0) : sgP p h s ht idx = Pth.z := if_neg h1
theorem sgP_ok {p : Pth} {h : Hop} {s : S16} {ht idx : Int} (h1 : sgE h ht idx = 0) : sgP p h s ht idx = ⟨p.pf, p.pa, p.pb, p.pl, .slice none 0 0, p.hs ++ [newS p h s ht idx nl2]⟩ := if_pos h1
theorem newO_eqv {p : Pth} {h : Hop} {s : S16} {ht : Int} {qs : List Hop} {v : Value} (hl : qs.length = p.hs.length) (hq : ∀ j, j < p.hs.length → Hop.eqv (p.hs.getD j Hop.z) (qs.getD j Hop.z)) : (newO p h s ht).eqv ⟨p.pf, p.pa, p.pb, p.pl, v, qs ++ [newH h s ht]⟩ := by
  refine ⟨⟨rfl, rfl, rfl, rfl⟩, by show (p.hs ++ [newH h s ht]).length = (qs ++ [newH h s ht]).length; rw [List.length_append, List.length_append, hl], fun i hi => ?_⟩
  show Hop.eqv ((p.hs ++ [newH h s ht]).getD i Hop.z) ((qs ++ [newH h s ht]).getD i Hop.z)
  have hi : i < (p.hs ++ [newH h s ht]).length := hi
  rw [List.length_append, List.length_singleton] at hi
  rcases Nat.lt_or_ge i p.hs.length with h1 | h1
  · rw [getD_left rfl h1, getD_left hl h1]; exact hq i h1
  · obtain rfl : i = p.hs.length := by omega
    rw [getD_app rfl, getD_app hl]; exact ⟨rfl, rfl, rfl, rfl, ⟨rfl, rfl⟩, rfl, rfl, rfl⟩
theorem newS_eqv {p : Pth} {h : Hop} {s : S16} {ht idx : Int} {qs : List Hop} {x : Value × Value} (hl : qs.length = p.hs.length) (hq : ∀ j, j < p.hs.length → Hop.eqv (p.hs.getD j Hop.z) (qs.getD j Hop.z)) : HsEqv (p.hs ++ [newS p h s ht idx nl2]) (qs ++ [newS p h s ht idx x]) := by
  refine ⟨by rw [List.length_append, List.length_append, hl]; rfl, fun i hi => ?_⟩
  rw [List.length_append, List.length_singleton] at hi
  rcases Nat.lt_or_ge i p.hs.length with h1 | h1
  · rw [getD_left rfl h1, getD_left hl h1]; exact hq i h1
  · obtain rfl : i = p.hs.length := by omega
    rw [getD_app rfl, getD_app hl]; exact ⟨rfl, rfl, rfl, rfl, ⟨rfl, rfl⟩, rfl, rfl, rfl⟩
theorem Hop.c_setkey (h : Hop) (r : S16) (t : Int) : h.c.take 4 ++ (v8s r.1 ++ [.int .i64 t]) ++ h.c.drop (4 + 17) = (Hop.mk h.sy h.cnt h.fl h.to r t h.ix h.cv h.chs h.pv h.ps).c := by
  have e : h.c.drop (4 + 17) = [.int .i64 h.ix, h.cv, h.pv] := by rw [h.c_split, show 4 + 17 = 21 from rfl, List.drop_left' h.c_pre]
  rw [e]
  simp [Hop.c]
theorem Hop.c_setsig (h : Hop) (i : Int) (a b : Value) (l m : List (List UInt8)) : h.c.take 21 ++ [.int .i64 i, a, b] ++ h.c.drop (21 + 3) = (Hop.mk h.sy h.cnt h.fl h.to h.root h.ht i a l b m).c := by
  rw [h.c_split, List.take_left' h.c_pre, List.drop_of_length_le (by rw [List.length_append, h.c_pre]; exact Nat.le_refl _)]
  simp [Hop.c]
theorem hcs_setsig {qs : List Hop} {a : Hop} {n : Nat} (hn : qs.length = n) (i : Int) (u v : Value) (l m : List (List UInt8)) : (hcs (qs ++ [a])).take (n * 24 + 21) ++ [.int .i64 i, u, v] ++ (hcs (qs ++ [a])).drop (n * 24 + 21 + [Value.int .i64 i, u, v].length) = hcs (qs ++ [Hop.mk a.sy a.cnt a.fl a.to a.root a.ht i u l v m]) := by
  have hq : (hcs qs).length = n * 24 := by rw [hcs, cat_len Hop.c_length, hn]
  rw [← hcs_snoc, ← hcs_snoc, ← Hop.c_setsig a i u v l m, ← hq, List.take_append, List.drop_append]
  simp only [List.length_cons, List.length_nil]
  rw [List.take_of_length_le zz14, List.drop_of_length_le zz14, List.append_assoc, List.append_assoc, List.append_assoc, List.nil_append, show (hcs qs).length + 21 - (hcs qs).length = 21 from zz14, show (hcs qs).length + 21 + (0 + 1 + 1 + 1) - (hcs qs).length = 21 + 3 from zz14]
end Go.Proofs.YtjpfhkjmjnjggaaDoor
namespace Go.Proofs.YtjpfhkjmjnjggaaDoor
open Go Go.PL Go.RowKit
theorem built_pz : Tryd.prog.built 29 [] = some Pth.z.c.toArray := by kernel_rfl
theorem built_sz : Tryd.prog.built 66 [] = some #[.int .i64 0, .slice none 0 0, .slice none 0 0] := by kernel_rfl
theorem key_rl (s : S16) (ht : Int) : (v8s (keyR s.1 ht) ++ [Value.int .i64 (keyH ht)]).length = 17 := by rw [List.length_append, v8s_length, keyR_l]; rfl
theorem key_ro (s : S16) (ht : Int) : ∀ u ∈ v8s (keyR s.1 ht) ++ [Value.int .i64 (keyH ht)], u.oneCell' = true := fun u hu => by
  rcases List.mem_append.1 hu with hu | hu
  · exact v8s_one _ u hu
  · rw [List.mem_singleton] at hu; subst hu; rfl
instance lenC_keyR {s : S16} {ht : Int} : LenC (v8s (keyR s.1 ht) ++ [Value.int .i64 (keyH ht)]) 17 := ⟨key_rl s ht⟩
theorem Hop.setkey {h : Hop} {s : S16} {ht : Int} : h.c.take 4 ++ (v8s (keyR s.1 ht) ++ [Value.int .i64 (keyH ht)]) ++ h.c.drop (4 + (v8s (keyR s.1 ht) ++ [Value.int .i64 (keyH ht)]).length) = (Hop.mk h.sy h.cnt h.fl h.to ⟨keyR s.1 ht, keyR_l s ht⟩ (keyH ht) h.ix h.cv h.chs h.pv h.ps).c := by
  rw [key_rl]; exact h.c_setkey ⟨keyR s.1 ht, keyR_l s ht⟩ (keyH ht)
instance lenC_s16 {s : S16} : LenC (v8s s.1) 16 := ⟨S16.len s⟩
theorem newH_sv (h : Hop) (s : S16) (ht : Int) : (newH h s ht).sv := ⟨SV.nil, SV.nil⟩
instance oneC_newH {h : Hop} {s : S16} {ht : Int} : OneC (newH h s ht).c := (newH_sv h s ht).one
theorem newH_seen (r : Rd) (h : Hop) (s : S16) (ht : Int) : (newH h s ht).seen r := ⟨seen_nil _ _, fun x hx => (by cases hx), seen_nil _ _, fun x hx => (by cases hx)⟩
def reP (q : Pth) (x : Value × List Hop) : Pth := ⟨q.pf, q.pa, q.pb, q.pl, x.1, x.2⟩
theorem so_seen {r : Rd} {f : UInt8} {a b : UInt64} {l : Int} {v : Value} {qs : List Hop} {n : Nat} {h : Hop} {s : S16} {ht : Int} (hl : qs.length = n) (h1 : Seen r v (n + 1) 24 (hcs (qs ++ [newH h s ht]))) (h2 : ∀ q ∈ qs, q.seen r) : (Pth.mk f a b l v (qs ++ [newH h s ht])).seen r := by
  refine ⟨?_, fun q hq => ?_⟩
  · show Seen r v (qs ++ [newH h s ht]).length 24 (hcs (qs ++ [newH h s ht]))
    rw [List.length_append, hl]; exact h1
  · rcases List.mem_append.1 hq with hq | hq
    · exact h2 q hq
    · rw [List.mem_singleton] at hq; subst hq; exact newH_seen _ _ _ _
theorem so_small {f : UInt8} {a b : UInt64} {l : Int} {v : Value} {hs qs : List Hop} {h : Hop} {s : S16} {ht : Int} (hl : qs.length = hs.length) (hq : ∀ j, j < hs.length → Hop.eqv (hs.getD j Hop.z) (qs.getD j Hop.z)) (hm : ∀ x ∈ hs, x.chs.length ≤ 100 ∧ x.ps.length ≤ 100) : SmP (Pth.mk f a b l v (qs ++ [newH h s ht])) := fun x hx => by
  rcases List.mem_append.1 hx with hx | hx
  · obtain ⟨i, hi, rfl⟩ := List.mem_iff_getElem.1 hx
    have e := hq i zz14
    rw [List.getD_eq_getElem?_getD (l := qs), List.getElem?_eq_getElem hi] at e
    have m := hm _ (getD_memO (show i < hs.length from zz14))
    obtain ⟨_, _, _, _, _, _, e8, e9⟩ := e
    rw [e8, e9] at m
    exact m
  · rw [List.mem_singleton] at hx; subst hx; exact ⟨Nat.zero_le _, Nat.zero_le _⟩
theorem sg_made {w0 w : World} {M : List Ent} {p : Pth} {h : Hop} {s : S16} {ht idx : Int} {x : Value × Value} {v : Value} {qs : List Hop} {n : Nat} (hn : n = p.hs.length) (hok : sgE h ht idx = 0) (hm : Mem w0 [] (.row x.1 (sigC s.1 ht idx (sgM p h s ht)).length 61 16 (v8s (sigC s.1 ht idx (sgM p h s ht)).flatten) :: .row x.2 (sigP s.1 ht idx).length 61 16 (v8s (sigP s.1 ht idx).flatten) :: .row v (n + 1) 68 24 (hcs (qs ++ [newS p h s ht idx x])) :: M) [hopsF qs] w) : New w0.heap.size [.row v (sgP p h s ht idx).hs.length 68 24 (hcs (qs ++ [newS p h s ht idx x]))] [hopsF (qs ++ [newS p h s ht idx x])] w := by
  rw [sgP_ok hok]
  show New w0.heap.size [.row v (p.hs ++ [newS p h s ht idx nl2]).length 68 24 _] _ w
  rw [List.length_append, ← hn]
  have h2 := (hm.freezeRow .here).freezeRow .here
  have h3 : Mem w0 [] (.row v (n + 1) 68 24 (hcs (qs ++ [newS p h s ht idx x])) :: M) [hopsF (qs ++ [newS p h s ht idx x])] w := h2.imp fun r hr t htm => by
    rw [List.mem_singleton] at htm
    subst htm
    intro q hq
    rcases List.mem_append.1 hq with hq | hq
    · exact hr (hopsF qs) zz50 q hq
    · rw [List.mem_singleton] at hq; subst hq
      exact ⟨hr (Go.PL.seen x.1 (sigC s.1 ht idx (sgM p h s ht)).length 16 (v8s (sigC s.1 ht idx (sgM p h s ht)).flatten)) zz50, sigC_all _ _ _ _, hr (Go.PL.seen x.2 (sigP s.1 ht idx).length 16 (v8s (sigP s.1 ht idx).flatten)) zz50, sigP_all _ _ _⟩
  exact h3.made (.keep .nil) (Sub.refl _)
theorem sg_err {w0 w : World} {M : List Ent} {S : List Fact} {p : Pth} {h : Hop} {s : S16} {ht idx : Int} (hm : Mem w0 [] M S w) (he : sgE h ht idx ≠ 0) : New w0.heap.size [.row (.slice none 0 0) (sgP p h s ht idx).hs.length 68 24 (hcs [])] [hopsF []] w := by
  rw [sgP_no he]
  have h1 : Mem w0 [] (.row (.slice none 0 0) 0 68 24 [] :: M) [hopsF []] w := Mem.imp (hm.nilRow 68 24) (fun r _ t ht => zz60)
  exact h1.made (.keep .nil) (Sub.refl _)
end Go.Proofs.YtjpfhkjmjnjggaaDoor
namespace Go.Proofs.YtjpfhkjmjnjggaaDoor
open Go Go.PL Go.RowKit
theorem signP (p : Pth) (hp : Hop) (s : S16) (ht : Int) (idx : Int) (w : World) (hpp : p.seen w.cell?) (hsvh : hp.sv) (hlim : SmP p) (hG : Glb w) (hn35 : p.hs.length ≤ 35) :
    Calls Tryd.prog 52 [.agg p.c.toArray, .agg hp.c.toArray, .agg (v8s s.1).toArray, .int .i64 ht, .int .i64 idx].toArray w (GivesP w (fun x : Value × List Hop => SV x.1 (sgP p hp s ht idx).hs.length ∧ HsEqv (sgP p hp s ht idx).hs x.2) (fun x => .tuple #[.agg (reP (sgP p hp s ht idx) x).c.toArray, .int .i64 (sgE hp ht idx)]) (fun x => [.row x.1 (sgP p hp s ht idx).hs.length 68 24 (hcs x.2)]) (fun x => [hopsF x.2])) := by
  obtain ⟨pf, pa, pb, pl, hv, hs⟩ := p
  have hh : Seen w.cell? hv hs.length 24 (hcs hs) := hpp.1
  have svh := hh.sv
  have lh := svh.le
  simp only [maxLen] at lh
  have hn35 : hs.length ≤ 35 := hn35
  haveI := hsvh.one
  refine enter (m := 86) (R := Mem w [] [] []) Tryd.func52 rfl rfl (Nat.le_of_ble_eq_true rfl) (Mem.start w) ?_
  refine wpc_seq <| wpc_region ?_
  refine wpl_t (t_box rfl [.int .u8 (pf.toNat : Int), .int .u64 (pa.toNat : Int), .int .u64 (pb.toNat : Int), .int .i64 pl, hv] rfl) rfl (fun b5 => ?_)
  refine wpl_t (t_box rfl hp.c rfl) rfl (fun b6 => ?_)
  refine wpl_t (t_box rfl (v8s s.1) rfl) rfl (fun b7 => ?_)
  refine wpl_t (t_alloc Tryd.ti29 Pth.z.c rfl) rfl (fun b10 => ?_)
  refine wpl_q (q_pure rfl) rfl <| wpl_nil <| ex_then <| wpc_seq <| wpc_seq <| wpc_region <| wpl_q (q_field Tryd.underlying68 rfl Tryd.ti5 rfl rfl _ rfl) rfl <| wpl_q (q_ld Tryd.underlying5 rfl rfl hp.c_fl) rfl <| wpl_q (q_pure rfl) rfl <| wpl_nil <| ex_then ?_
  refine wpc_cond rfl (fun hc21 => ?_) (fun hc21 => ?_)
  ·
   have hfl : 1 < hp.fl.toNat := by simp only [decide_eq_true_eq] at hc21; omega
   have hV : sgE hp ht idx = 2 := sgE_fl hfl
   have hE0 : sgE hp ht idx ≠ 0 := by rw [hV]; decide
   refine wpc_seq <| wpc_region ?_
   refine wpl_q (q_build (cs := Pth.z.c) rfl built_pz) rfl ?_
   refine wpl_t0 (t_stA Tryd.ti29 rfl rfl LenC.h OneC.h LenC.h) (fun _ => ?_)
   refine wpl_q (q_pure rfl) rfl <| wpl_nil <| ex_then <| wpc_ret ?_
   refine ex_then_ret ?_
   refine retv2 (.inl rfl) rfl (rv_agg Tryd.underlying29 rfl Tryd.ti29 rfl (fun w h => h.atB) zz2) (rv_tmp rfl) ?_
   exact fun w1 h => ⟨(.slice none 0 0, []), ⟨zz56, zz39⟩, by rw [sgP_no hE0, hV]; rfl, h.below, sg_err h hE0⟩
  ·
   have hfl : ¬ 1 < hp.fl.toNat := by simp only [decide_eq_false_iff_not] at hc21; omega
   refine wpc_skip <| ex_then <| wpc_seq <| wpc_region <| wpl_q (q_ldN Tryd.underlying61 rfl Tryd.ti61 rfl LenC.h) rfl <| wpl_q (q_pure rfl) rfl ?_
   refine wpl_t (t_pur Tryd.hb54 rfl fun w h => key7 s.1 ht w s.2 (glob h hG)) rfl (fun b26 => ?_)
   refine wpl_q (q_pure rfl) rfl <| wpl_q (q_pure rfl) rfl <| wpl_q (q_pure rfl) rfl ?_
   refine wpl_t (t_alloc Tryd.ti63 (v8s (List.replicate 16 0) ++ [.int .i64 0]) rfl) rfl (fun b12 => ?_)
   refine wpl_t0 (t_stA Tryd.ti63 rfl rfl LenC.h (key_ro s ht) rfl) (fun _ => ?_)
   refine wpl_q (q_pure rfl) rfl <| wpl_nil <| ex_then <| wpc_seq <| wpc_seq <| wpc_region <| wpl_q (q_pure rfl) rfl <| wpl_q (q_pure rfl) rfl <| wpl_nil <| ex_then ?_
   refine wpc_cond rfl (fun hc30 => ?_) (fun hc30 => ?_)
   ·
    have hke : keyE ht ≠ 0 := by simpa using hc30
    have hV : sgE hp ht idx = keyE ht := sgE_key hfl hke
    have hE0 : sgE hp ht idx ≠ 0 := by rw [hV]; exact hke
    refine wpc_seq <| wpc_region ?_
    refine wpl_q (q_build (cs := Pth.z.c) rfl built_pz) rfl ?_
    refine wpl_q (q_pure rfl) rfl ?_
    refine wpl_t0 (t_stA Tryd.ti29 rfl rfl LenC.h OneC.h LenC.h) (fun _ => ?_)
    refine wpl_q (q_pure rfl) rfl <| wpl_nil <| ex_then <| wpc_ret ?_
    refine ex_then_ret ?_
    refine retv2 (.inl rfl) rfl (rv_agg Tryd.underlying29 rfl Tryd.ti29 rfl (fun w h => h.atB) zz2) (rv_tmp rfl) ?_
    exact fun w1 h => ⟨(.slice none 0 0, []), ⟨zz56, zz39⟩, by rw [sgP_no hE0, hV]; rfl, h.below, sg_err h hE0⟩
   ·
    have hke : ¬ keyE ht ≠ 0 := by simpa using hc30
    have hES : sgE hp ht idx = sigE ht idx := sgE_sig hfl hke
    refine wpc_skip <| ex_then <| wpc_seq <| wpc_region <| wpl_q (q_field Tryd.underlying29 rfl Tryd.ti26 rfl rfl _ rfl) rfl ?_
    refine wpl_q (q_ldP Tryd.underlying26 rfl Tryd.ti26 rfl (pfL pf pa pb pl) rfl zz2) rfl ?_
    refine wpl_q (q_build (cs := [.int .u8 (pf.toNat : Int), .int .u64 (pa.toNat : Int), .int .u64 (pb.toNat : Int), .int .i64 pl, .slice none 0 0]) rfl (built_pre pf pa pb pl)) rfl ?_
    refine wpl_t (t_alloc Tryd.ti29 Pth.z.c rfl) rfl (fun b14 => ?_)
    refine wpl_t0 (t_stA Tryd.ti29 rfl rfl LenC.h OneC.h LenC.h) (fun _ => ?_)
    refine wpl_nil <| ex_then <| wpc_seq <| wpc_seq <| wpc_region <| wpl_q (q_field Tryd.underlying29 rfl Tryd.ti27 rfl rfl _ rfl) rfl <| wpl_q (q_ld Tryd.underlying27 rfl rfl rfl) rfl ?_
    refine wpl_q (q_lenW Tryd.underlying27 rfl zz4) rfl ?_
    refine wpl_q (q_pure rfl) rfl <| wpl_nil <| ex_then <| wpc_block ?_
    refine wpc_loopc (ι := { x : Nat × Value × List Hop // (x.1 ≤ hs.length) ∧ (SV x.2.1 x.1) ∧ (x.2.2.length = x.1) ∧ (∀ j, j < x.1 → Hop.eqv (hs.getD j Hop.z) (x.2.2.getD j Hop.z)) }) [(3, _), (4, _), (6, _), (7, _), (10, _), (12, _), (14, _), (37, _), (38, _)] (fun x Lc => (39, .int .i64 ((x.1.1 : Nat) : Int)) :: Lc) (fun x => Mem w [] [.row x.1.2.1 x.1.1 68 24 (hcs x.1.2.2), .blk b14 29 [.int .u8 (pf.toNat : Int), .int .u64 (pa.toNat : Int), .int .u64 (pb.toNat : Int), .int .i64 pl, x.1.2.1], .blk b12 63 (v8s (keyR s.1 ht) ++ [Value.int .i64 (keyH ht)]), .blk b10 29 Pth.z.c, .blk b7 61 (v8s s.1), .blk b6 68 hp.c, .blk b5 29 [.int .u8 (pf.toNat : Int), .int .u64 (pa.toNat : Int), .int .u64 (pb.toNat : Int), .int .i64 pl, hv]] [hopsF x.1.2.2]) (fun x => hs.length - x.1.1) ⟨(0, .slice none 0 0, []), ⟨Nat.zero_le _, SV.nil, rfl, fun j hj => zz14⟩⟩ zz10 ?_ ?_
    ·
     exact fun w h => Mem.imp (h.nilRow 68 24) (fun r _ t ht => zz60)
    ·
     rintro ⟨⟨i, v, qs⟩, ⟨hi0, hi1, hi2, hi3⟩⟩; try dsimp only
     have hi0 : i ≤ hs.length := hi0; have hi1 : SV v i := hi1; have hi2 : qs.length = i := hi2; have hi3 : ∀ j, j < i → Hop.eqv (hs.getD j Hop.z) (qs.getD j Hop.z) := hi3
     refine wpc_seq <| wpc_region <| wpl_q (q_pure rfl) rfl <| wpl_nil <| ex_then <| wpc_seq ?_
     refine wpc_cond rfl (fun hc40 => ?_) (fun hc40 => ?_)
     ·
      simp only [decide_eq_true_eq] at hc40
      have hil : i < hs.length := by omega
      have hsi : ((hs.getD i Hop.z)).seen w.cell? := hpp.2 _ (getD_memO hil)
      haveI := hsi.sv.one
      have hlm : (hs.getD i Hop.z).chs.length ≤ 100 ∧ (hs.getD i Hop.z).ps.length ≤ 100 := hlim _ (getD_memO hil)
      refine wpc_skip <| ex_then <| wpc_seq <| wpc_block <| wpc_seq <| wpc_region ?_
      refine wpl_q (q_idxW Tryd.underlying27 Tryd.ti68 rfl rfl zz4 zz1) rfl ?_
      refine wpl_q (q_ldWN Tryd.underlying68 rfl Tryd.ti68 rfl (fun w h => h.seen_old hh) (hs.getD i Hop.z).c (cat_part Hop.c_length Hop.z hil) (Hop.c_length _)) rfl ?_
      refine wpl_t (t_alloc Tryd.ti68 Hop.z.c rfl) rfl (fun b16 => ?_)
      refine wpl_t0 (t_stA Tryd.ti68 rfl rfl LenC.h OneC.h LenC.h) (fun _ => ?_)
      refine wpl_nil <| ex_then ?_
      refine wpc_draw 5 zz6 (fun _ h => h.drew) ?_
      refine wpd_p 0 rfl zz6 trivial (q_field Tryd.underlying29 rfl Tryd.ti27 rfl rfl _ rfl) rfl sk0 ?_
      refine wpd_q 1 rfl zz6 trivial (q_ld Tryd.underlying27 rfl rfl rfl) rfl (fun _ h => h) ?_
      refine wpd_qB 2 [3, 4, 5] rfl zz6 trivial (q_ldN Tryd.underlying68 rfl Tryd.ti68 rfl LenC.h) rfl (fun _ h => h) ?_
      refine wpd_tp 3 rfl zz6 trivial (t_callP2 Tryd.hb79 rfl fun w h => twin (hs.getD i Hop.z) w (hsi.old h) zz14 zz14) rfl (fun _ => (fun w h => .inr (h.sub SubC.h SubC.h))) (fun b46 p46 => ?_)
      haveI : OneC (((hs.getD i Hop.z).re b46)).c := Hop.sv.one ⟨p46.1, p46.2⟩
      refine wpd_tp 4 rfl zz6 trivial (t_bsG [.agg ((hs.getD i Hop.z).re b46).c.toArray] ((hs.getD i Hop.z).re b46).c Tryd.underlying27 Tryd.ti68 rfl zz19 rfl zz19 zz19 rfl zz58 (List.append_nil _)) rfl (fun _ => (fun w h => .inr (h.sub SubC.h SubC.h))) (fun b47 p47 => ?_)
      refine wpd_tp 5 rfl zz6 trivial (t_apW Tryd.underlying27 Tryd.ti68 rfl zz19 rfl rfl (fun w h => zz11) OneC.h zz1 zz1 (hcs (qs ++ [((hs.getD i Hop.z).re b46)])) (hcs_snoc _ _)) rfl (fun _ => skk rfl) (fun b48 p48 => ?_)
      refine wpd_p 6 rfl zz6 trivial (q_field Tryd.underlying29 rfl Tryd.ti27 rfl rfl _ rfl) rfl (skk rfl) ?_
      refine wpd_t0 7 rfl zz6 trivial (t_st1 Tryd.ti27 rfl rfl (SV.one zz4) zz5 [.int .u8 (pf.toNat : Int), .int .u64 (pa.toNat : Int), .int .u64 (pb.toNat : Int), .int .i64 pl, b48] rfl) (fun _ => skk rfl) (fun _ => ?_)
      refine wpd_done zz6 ?_
      refine ex_block <| ex_then <| wpc_region ?_
      refine wpl_q (q_addN (b := 1) rfl rfl zz1) rfl ?_
      refine wpl_q (q_pure rfl) rfl <| wpl_nil ?_
      refine ex_again ⟨(i + 1, b48, qs ++ [((hs.getD i Hop.z).re b46)]), ⟨zz47, p48, by show (qs ++ [((hs.getD i Hop.z).re b46)]).length = i + 1; rw [List.length_append, hi2]; rfl, fun j hj => by
        dsimp only
        rcases Nat.lt_or_ge j i with h | h
        · rw [getD_left hi2 h]; exact hi3 j h
        · obtain rfl : j = i := (by have hj : j < i + 1 := hj; omega)
          rw [getD_app hi2]; exact eqv_re _ _⟩⟩ ?_ ?_ ?_
      ·
       exact zz10
      ·
       exact fun w h => by
         have h1 := h.sel (M' := .row b46.1 (hs.getD i Hop.z).chs.length 61 16 (v8s (hs.getD i Hop.z).chs.flatten) :: .row b46.2 (hs.getD i Hop.z).ps.length 61 16 (v8s (hs.getD i Hop.z).ps.flatten) :: [.row b48 (i + 1) 68 24 (hcs (qs ++ [((hs.getD i Hop.z).re b46)])), .blk b14 29 [.int .u8 (pf.toNat : Int), .int .u64 (pa.toNat : Int), .int .u64 (pb.toNat : Int), .int .i64 pl, b48], .blk b12 63 (v8s (keyR s.1 ht) ++ [Value.int .i64 (keyH ht)]), .blk b10 29 Pth.z.c, .blk b7 61 (v8s s.1), .blk b6 68 hp.c, .blk b5 29 [.int .u8 (pf.toNat : Int), .int .u64 (pa.toNat : Int), .int .u64 (pb.toNat : Int), .int .i64 pl, hv]])
         have h2 := (h1.freezeRow .here).freezeRow .here
         exact h2.imp fun r hr t ht => by
           rw [List.mem_singleton] at ht
           subst ht
           exact twin_fact (hr (hopsF qs) zz50) (hr (Go.PL.seen b46.1 (hs.getD i Hop.z).chs.length 16 (v8s (hs.getD i Hop.z).chs.flatten)) zz50) (hr (Go.PL.seen b46.2 (hs.getD i Hop.z).ps.length 16 (v8s (hs.getD i Hop.z).ps.flatten)) zz50) hsi.2.1 hsi.2.2.2
      ·
       (show hs.length - (i + 1) < hs.length - i); omega
     ·
      simp only [decide_eq_false_iff_not] at hc40
      obtain rfl : i = hs.length := by omega
      have svv := hi1
      refine wpc_exit ?_
      refine ex_then_exit ?_
      refine ex_then_exit ?_
      refine ex_block_hit ?_
      refine ex_then <| wpc_seq <| wpc_region <| wpl_q (q_ldN Tryd.underlying63 rfl Tryd.ti63 rfl LenC.h) rfl ?_
      refine wpl_q (q_build (cs := [.int .i64 0, .slice none 0 0, .slice none 0 0]) rfl built_sz) rfl ?_
      refine wpl_q (q_field Tryd.underlying68 rfl Tryd.ti63 rfl rfl _ rfl) rfl ?_
      refine wpl_t0 (t_stP Tryd.ti63 rfl rfl zz2 (key_ro s ht) (by rw [key_rl, Hop.c_length]; decide) _ Hop.setkey) (fun _ => ?_)
      refine wpl_q (q_field Tryd.underlying68 rfl Tryd.ti66 rfl rfl _ rfl) rfl ?_
      refine wpl_t0 (t_stP Tryd.ti66 rfl rfl zz2 zz3 (by rw [Hop.c_length]; exact Nat.le_refl _) (newH hp s ht).c (Hop.c_setsig _ _ _ _ _ _)) (fun _ => ?_)
      refine wpl_nil <| ex_then <| wpc_seq <| wpc_region <| wpl_q (q_field Tryd.underlying29 rfl Tryd.ti27 rfl rfl _ rfl) rfl <| wpl_q (q_ld Tryd.underlying27 rfl rfl rfl) rfl <| wpl_q (q_ldN Tryd.underlying68 rfl Tryd.ti68 rfl LenC.h) rfl ?_
      refine wpl_tp (t_bsG [.agg (newH hp s ht).c.toArray] (newH hp s ht).c Tryd.underlying27 Tryd.ti68 rfl zz19 rfl zz19 zz19 rfl zz58 (List.append_nil _)) rfl (fun b58 p58 => ?_)
      refine wpl_tp (t_apW Tryd.underlying27 Tryd.ti68 rfl zz19 rfl rfl (fun w h => zz11) OneC.h zz1 zz1 (hcs (qs ++ [(newH hp s ht)])) (hcs_snoc _ _)) rfl (fun b59 p59 => ?_)
      refine wpl_q (q_field Tryd.underlying29 rfl Tryd.ti27 rfl rfl _ rfl) rfl ?_
      refine wpl_t0 (t_st1 Tryd.ti27 rfl rfl (SV.one zz4) zz5 [.int .u8 (pf.toNat : Int), .int .u64 (pa.toNat : Int), .int .u64 (pb.toNat : Int), .int .i64 pl, b59] rfl) (fun _ => ?_)
      refine wpl_nil <| ex_then <| wpc_seq <| wpc_region <| wpl_q (q_field Tryd.underlying29 rfl Tryd.ti27 rfl rfl _ rfl) rfl <| wpl_q (q_ld Tryd.underlying27 rfl rfl rfl) rfl ?_
      refine wpl_q (q_lenW Tryd.underlying27 rfl zz4) rfl ?_
      refine wpl_q (q_subN (b := 1) rfl rfl zz14 zz1) rfl ?_
      refine wpl_q (q_pure rfl) rfl <| wpl_nil <| ex_then <| wpc_seq ?_
      have hqe := newO_eqv (p := ⟨pf, pa, pb, pl, hv, hs⟩) (h := hp) (s := s) (ht := ht) (v := b59) hi2 hi3
      have hme : msgB (Pth.mk pf pa pb pl b59 (qs ++ [(newH hp s ht)])) hs.length = (sgM ⟨pf, pa, pb, pl, hv, hs⟩ hp s ht) := (msgB_eqv hqe (show hs.length < (hs ++ [(newH hp s ht)]).length by rw [List.length_append]; exact Nat.lt_succ_self _)).symm
      have hsm : SmP (Pth.mk pf pa pb pl b59 (qs ++ [(newH hp s ht)])) := so_small hi2 hi3 hlim
      have hjn : hs.length < (qs ++ [(newH hp s ht)]).length := by rw [List.length_append, hi2]; exact Nat.lt_succ_self _
      refine wpc_draw 11 zz6 (fun _ h => h.drew) ?_
      refine wpd_q 0 rfl zz6 trivial (q_ldN Tryd.underlying61 rfl Tryd.ti61 rfl LenC.h) rfl (fun _ h => h) ?_
      refine wpd_p 1 rfl zz6 trivial (q_pure rfl) rfl sk0 ?_
      refine wpd_p 2 rfl zz6 trivial (q_pure rfl) rfl sk0 ?_
      refine wpd_q 3 rfl zz6 trivial (q_ldN Tryd.underlying29 rfl Tryd.ti29 rfl LenC.h) rfl (fun _ h => h) ?_
      refine wpd_p 4 rfl zz6 trivial (q_pure rfl) rfl sk0 ?_
      refine wpd_two 5 10 zz6 ?_ ?_
      ·
       refine wpa_tp 5 rfl trivial (t_callP1 Tryd.hb38 rfl fun w h => by
         have q := message_ (Pth.mk pf pa pb pl b59 (qs ++ [(newH hp s ht)])) hs.length w (so_seen hi2 (h.seen_row zz7) (hopsF_at h zz7)) hjn hsm (glob h hG)
         rw [hme] at q
         exact q) rfl (fun _ => (fun w h => .inr (h.sub SubC.h SubC.h))) (fun b71 p71 => ?_)
       refine wpd_two 6 10 zz6 ?_ ?_
       ·
        refine wpa_tp 6 rfl trivial (t_callP2 Tryd.hb80 rfl fun w h => sign7 s.1 ht idx b71 (sgM ⟨pf, pa, pb, pl, hv, hs⟩ hp s ht) w s.2 (h.seen_row zz7) (glob h hG)) rfl (fun _ => (fun w h => .inr (h.sub SubC.h SubC.h))) (fun b72 p72 => ?_)
        refine wpd_p 7 rfl zz6 trivial (q_pure rfl) rfl (fun w h => .inr (h.sub SubC.h SubC.h)) ?_
        refine wpd_p 8 rfl zz6 trivial (q_pure rfl) rfl (fun w h => .inr (h.sub SubC.h SubC.h)) ?_
        refine wpd_p 9 rfl zz6 trivial (q_pure rfl) rfl (fun w h => .inr (h.sub SubC.h SubC.h)) ?_
        refine wpd_t 10 rfl zz6 trivial (t_alloc Tryd.ti66 [.int .i64 0, .slice none 0 0, .slice none 0 0] rfl) rfl (fun _ => (fun w h => .inr (h.sub SubC.h SubC.h))) (fun b18 => ?_)
        refine wpd_t0 11 rfl zz6 trivial (t_stA Tryd.ti66 rfl rfl rfl (OneC.cons rfl (OneC.cons (SV.one p72.1) (OneC.cons (SV.one p72.2) oneC_nil))).h rfl) (fun _ => skk rfl) (fun _ => ?_)
        refine wpd_p 12 rfl zz6 trivial (q_pure rfl) rfl (skk rfl) ?_
        refine wpd_done zz6 ?_
        refine ex_then <| wpc_seq <| wpc_seq <| wpc_region <| wpl_q (q_pure rfl) rfl <| wpl_q (q_pure rfl) rfl <| wpl_nil <| ex_then ?_
        refine wpc_cond rfl (fun hc76 => ?_) (fun hc76 => ?_)
        ·
         have hse : sigE ht idx ≠ 0 := by simpa using hc76
         have hV := hES
         have hE0 : sgE hp ht idx ≠ 0 := by rw [hV]; exact hse
         refine wpc_seq <| wpc_region ?_
         refine wpl_q (q_build (cs := Pth.z.c) rfl built_pz) rfl ?_
         refine wpl_q (q_pure rfl) rfl ?_
         refine wpl_t0 (t_stA Tryd.ti29 rfl rfl LenC.h OneC.h LenC.h) (fun _ => ?_)
         refine wpl_q (q_pure rfl) rfl <| wpl_nil <| ex_then <| wpc_ret ?_
         refine ex_then_ret ?_
         refine retv2 (.inl rfl) rfl (rv_agg Tryd.underlying29 rfl Tryd.ti29 rfl (fun w h => h.atB) zz2) (rv_tmp rfl) ?_
         exact fun w1 h => ⟨(.slice none 0 0, []), ⟨zz56, zz39⟩, by rw [sgP_no hE0, hV]; rfl, h.below, sg_err h hE0⟩
        ·
         have hse : sigE ht idx = 0 := by simpa using hc76
         have hE0 : sgE hp ht idx = 0 := hES.trans hse
         refine wpc_skip <| ex_then <| wpc_seq <| wpc_region <| wpl_q (q_field Tryd.underlying29 rfl Tryd.ti27 rfl rfl _ rfl) rfl <| wpl_q (q_ld Tryd.underlying27 rfl rfl rfl) rfl <| wpl_q (q_pure rfl) rfl <| wpl_q (q_ldN Tryd.underlying66 rfl Tryd.ti66 rfl LenC.h) rfl ?_
         refine wpl_q (q_idxW Tryd.underlying27 Tryd.ti68 rfl rfl zz4 zz1) rfl ?_
         refine wpl_q (q_fieldPo 21 Tryd.underlying68 rfl Tryd.ti66 rfl rfl rfl) rfl ?_
         refine wpl_t0 (t_stWFN (j := hs.length * 24) (k := 21) (vs := [.int .i64 (sigI ht idx), b72.1, b72.2]) Tryd.ti66 rfl rfl rfl rfl (OneC.cons rfl (OneC.cons (SV.one p72.1) (OneC.cons (SV.one p72.2) oneC_nil))).h zz53 zz49 (hcs (qs ++ [(newS ⟨pf, pa, pb, pl, hv, hs⟩ hp s ht idx b72)])) (hcs_setsig hi2 _ _ _ _ _)) (fun _ => ?_)
         refine wpl_nil <| ex_then <| wpc_seq ?_
         haveI : OneC [.int .u8 (pf.toNat : Int), .int .u64 (pa.toNat : Int), .int .u64 (pb.toNat : Int), .int .i64 pl, b59] := Pth.sv.one (p := ⟨pf, pa, pb, pl, b59, qs ++ [(newH hp s ht)]⟩) (by show SV b59 (qs ++ [(newH hp s ht)]).length; rw [List.length_append, hi2]; exact p59)
         refine wpc_region <| wpl_q (q_ldN Tryd.underlying29 rfl Tryd.ti29 rfl LenC.h) rfl ?_
         refine wpl_t0 (t_stA Tryd.ti29 rfl rfl LenC.h OneC.h LenC.h) (fun _ => ?_)
         refine wpl_q (q_pure rfl) rfl <| wpl_nil <| ex_then <| wpc_ret ?_
         refine retv2 (.inl rfl) rfl (rv_agg Tryd.underlying29 rfl Tryd.ti29 rfl (fun w h => h.atB) zz2) (rv_tmp rfl) ?_
         exact fun w1 h => ⟨(b59, qs ++ [(newS ⟨pf, pa, pb, pl, hv, hs⟩ hp s ht idx b72)]), ⟨by rw [sgP_ok hE0]; show SV b59 (hs ++ [_]).length; rw [List.length_append]; exact p59, by rw [sgP_ok hE0]; exact newS_eqv (p := ⟨pf, pa, pb, pl, hv, hs⟩) hi2 hi3⟩, by rw [sgP_ok hE0, hE0]; rfl, h.below, sg_made (M := []) (v := b59) (n := hs.length) (p := ⟨pf, pa, pb, pl, hv, hs⟩) rfl hE0 h.sel⟩
       ·
        refine wpa_t 10 rfl trivial (t_alloc Tryd.ti66 [.int .i64 0, .slice none 0 0, .slice none 0 0] rfl) rfl (fun _ => (fun w h => .inr (h.sub SubC.h SubC.h))) (fun b18 => ?_)
        refine wpd_tp 6 rfl zz6 trivial (t_callP2 Tryd.hb80 rfl fun w h => sign7 s.1 ht idx b71 (sgM ⟨pf, pa, pb, pl, hv, hs⟩ hp s ht) w s.2 (h.seen_row zz7) (glob h hG)) rfl (fun _ => (fun w h => .inr (h.sub SubC.h SubC.h))) (fun b72 p72 => ?_)
        refine wpd_p 7 rfl zz6 trivial (q_pure rfl) rfl (fun w h => .inr (h.sub SubC.h SubC.h)) ?_
        refine wpd_p 8 rfl zz6 trivial (q_pure rfl) rfl (fun w h => .inr (h.sub SubC.h SubC.h)) ?_
        refine wpd_p 9 rfl zz6 trivial (q_pure rfl) rfl (fun w h => .inr (h.sub SubC.h SubC.h)) ?_
        refine wpd_t0 11 rfl zz6 trivial (t_stA Tryd.ti66 rfl rfl rfl (OneC.cons rfl (OneC.cons (SV.one p72.1) (OneC.cons (SV.one p72.2) oneC_nil))).h rfl) (fun _ => skk rfl) (fun _ => ?_)
        refine wpd_p 12 rfl zz6 trivial (q_pure rfl) rfl (skk rfl) ?_
        refine wpd_done zz6 ?_
        refine ex_then <| wpc_seq <| wpc_seq <| wpc_region <| wpl_q (q_pure rfl) rfl <| wpl_q (q_pure rfl) rfl <| wpl_nil <| ex_then ?_
        refine wpc_cond rfl (fun hc76 => ?_) (fun hc76 => ?_)
        ·
         have hse : sigE ht idx ≠ 0 := by simpa using hc76
         have hV := hES
         have hE0 : sgE hp ht idx ≠ 0 := by rw [hV]; exact hse
         refine wpc_seq <| wpc_region ?_
         refine wpl_q (q_build (cs := Pth.z.c) rfl built_pz) rfl ?_
         refine wpl_q (q_pure rfl) rfl ?_
         refine wpl_t0 (t_stA Tryd.ti29 rfl rfl LenC.h OneC.h LenC.h) (fun _ => ?_)
         refine wpl_q (q_pure rfl) rfl <| wpl_nil <| ex_then <| wpc_ret ?_
         refine ex_then_ret ?_
         refine retv2 (.inl rfl) rfl (rv_agg Tryd.underlying29 rfl Tryd.ti29 rfl (fun w h => h.atB) zz2) (rv_tmp rfl) ?_
         exact fun w1 h => ⟨(.slice none 0 0, []), ⟨zz56, zz39⟩, by rw [sgP_no hE0, hV]; rfl, h.below, sg_err h hE0⟩
        ·
         have hse : sigE ht idx = 0 := by simpa using hc76
         have hE0 : sgE hp ht idx = 0 := hES.trans hse
         refine wpc_skip <| ex_then <| wpc_seq <| wpc_region <| wpl_q (q_field Tryd.underlying29 rfl Tryd.ti27 rfl rfl _ rfl) rfl <| wpl_q (q_ld Tryd.underlying27 rfl rfl rfl) rfl <| wpl_q (q_pure rfl) rfl <| wpl_q (q_ldN Tryd.underlying66 rfl Tryd.ti66 rfl LenC.h) rfl ?_
         refine wpl_q (q_idxW Tryd.underlying27 Tryd.ti68 rfl rfl zz4 zz1) rfl ?_
         refine wpl_q (q_fieldPo 21 Tryd.underlying68 rfl Tryd.ti66 rfl rfl rfl) rfl ?_
         refine wpl_t0 (t_stWFN (j := hs.length * 24) (k := 21) (vs := [.int .i64 (sigI ht idx), b72.1, b72.2]) Tryd.ti66 rfl rfl rfl rfl (OneC.cons rfl (OneC.cons (SV.one p72.1) (OneC.cons (SV.one p72.2) oneC_nil))).h zz53 zz49 (hcs (qs ++ [(newS ⟨pf, pa, pb, pl, hv, hs⟩ hp s ht idx b72)])) (hcs_setsig hi2 _ _ _ _ _)) (fun _ => ?_)
         refine wpl_nil <| ex_then <| wpc_seq ?_
         haveI : OneC [.int .u8 (pf.toNat : Int), .int .u64 (pa.toNat : Int), .int .u64 (pb.toNat : Int), .int .i64 pl, b59] := Pth.sv.one (p := ⟨pf, pa, pb, pl, b59, qs ++ [(newH hp s ht)]⟩) (by show SV b59 (qs ++ [(newH hp s ht)]).length; rw [List.length_append, hi2]; exact p59)
         refine wpc_region <| wpl_q (q_ldN Tryd.underlying29 rfl Tryd.ti29 rfl LenC.h) rfl ?_
         refine wpl_t0 (t_stA Tryd.ti29 rfl rfl LenC.h OneC.h LenC.h) (fun _ => ?_)
         refine wpl_q (q_pure rfl) rfl <| wpl_nil <| ex_then <| wpc_ret ?_
         refine retv2 (.inl rfl) rfl (rv_agg Tryd.underlying29 rfl Tryd.ti29 rfl (fun w h => h.atB) zz2) (rv_tmp rfl) ?_
         exact fun w1 h => ⟨(b59, qs ++ [(newS ⟨pf, pa, pb, pl, hv, hs⟩ hp s ht idx b72)]), ⟨by rw [sgP_ok hE0]; show SV b59 (hs ++ [_]).length; rw [List.length_append]; exact p59, by rw [sgP_ok hE0]; exact newS_eqv (p := ⟨pf, pa, pb, pl, hv, hs⟩) hi2 hi3⟩, by rw [sgP_ok hE0, hE0]; rfl, h.below, sg_made (M := []) (v := b59) (n := hs.length) (p := ⟨pf, pa, pb, pl, hv, hs⟩) rfl hE0 h.sel⟩
      ·
       refine wpa_t 10 rfl trivial (t_alloc Tryd.ti66 [.int .i64 0, .slice none 0 0, .slice none 0 0] rfl) rfl (fun _ => (fun w h => .inr (h.sub SubC.h SubC.h))) (fun b18 => ?_)
       refine wpd_tp 5 rfl zz6 trivial (t_callP1 Tryd.hb38 rfl fun w h => by
         have q := message_ (Pth.mk pf pa pb pl b59 (qs ++ [(newH hp s ht)])) hs.length w (so_seen hi2 (h.seen_row zz7) (hopsF_at h zz7)) hjn hsm (glob h hG)
         rw [hme] at q
         exact q) rfl (fun _ => (fun w h => .inr (h.sub SubC.h SubC.h))) (fun b71 p71 => ?_)
       refine wpd_tp 6 rfl zz6 trivial (t_callP2 Tryd.hb80 rfl fun w h => sign7 s.1 ht idx b71 (sgM ⟨pf, pa, pb, pl, hv, hs⟩ hp s ht) w s.2 (h.seen_row zz7) (glob h hG)) rfl (fun _ => (fun w h => .inr (h.sub SubC.h SubC.h))) (fun b72 p72 => ?_)
       refine wpd_p 7 rfl zz6 trivial (q_pure rfl) rfl (fun w h => .inr (h.sub SubC.h SubC.h)) ?_
       refine wpd_p 8 rfl zz6 trivial (q_pure rfl) rfl (fun w h => .inr (h.sub SubC.h SubC.h)) ?_
       refine wpd_p 9 rfl zz6 trivial (q_pure rfl) rfl (fun w h => .inr (h.sub SubC.h SubC.h)) ?_
       refine wpd_t0 11 rfl zz6 trivial (t_stA Tryd.ti66 rfl rfl rfl (OneC.cons rfl (OneC.cons (SV.one p72.1) (OneC.cons (SV.one p72.2) oneC_nil))).h rfl) (fun _ => skk rfl) (fun _ => ?_)
       refine wpd_p 12 rfl zz6 trivial (q_pure rfl) rfl (skk rfl) ?_
       refine wpd_done zz6 ?_
       refine ex_then <| wpc_seq <| wpc_seq <| wpc_region <| wpl_q (q_pure rfl) rfl <| wpl_q (q_pure rfl) rfl <| wpl_nil <| ex_then ?_
       refine wpc_cond rfl (fun hc76 => ?_) (fun hc76 => ?_)
       ·
        have hse : sigE ht idx ≠ 0 := by simpa using hc76
        have hV := hES
        have hE0 : sgE hp ht idx ≠ 0 := by rw [hV]; exact hse
        refine wpc_seq <| wpc_region ?_
        refine wpl_q (q_build (cs := Pth.z.c) rfl built_pz) rfl ?_
        refine wpl_q (q_pure rfl) rfl ?_
        refine wpl_t0 (t_stA Tryd.ti29 rfl rfl LenC.h OneC.h LenC.h) (fun _ => ?_)
        refine wpl_q (q_pure rfl) rfl <| wpl_nil <| ex_then <| wpc_ret ?_
        refine ex_then_ret ?_
        refine retv2 (.inl rfl) rfl (rv_agg Tryd.underlying29 rfl Tryd.ti29 rfl (fun w h => h.atB) zz2) (rv_tmp rfl) ?_
        exact fun w1 h => ⟨(.slice none 0 0, []), ⟨zz56, zz39⟩, by rw [sgP_no hE0, hV]; rfl, h.below, sg_err h hE0⟩
       ·
        have hse : sigE ht idx = 0 := by simpa using hc76
        have hE0 : sgE hp ht idx = 0 := hES.trans hse
        refine wpc_skip <| ex_then <| wpc_seq <| wpc_region <| wpl_q (q_field Tryd.underlying29 rfl Tryd.ti27 rfl rfl _ rfl) rfl <| wpl_q (q_ld Tryd.underlying27 rfl rfl rfl) rfl <| wpl_q (q_pure rfl) rfl <| wpl_q (q_ldN Tryd.underlying66 rfl Tryd.ti66 rfl LenC.h) rfl ?_
        refine wpl_q (q_idxW Tryd.underlying27 Tryd.ti68 rfl rfl zz4 zz1) rfl ?_
        refine wpl_q (q_fieldPo 21 Tryd.underlying68 rfl Tryd.ti66 rfl rfl rfl) rfl ?_
        refine wpl_t0 (t_stWFN (j := hs.length * 24) (k := 21) (vs := [.int .i64 (sigI ht idx), b72.1, b72.2]) Tryd.ti66 rfl rfl rfl rfl (OneC.cons rfl (OneC.cons (SV.one p72.1) (OneC.cons (SV.one p72.2) oneC_nil))).h zz53 zz49 (hcs (qs ++ [(newS ⟨pf, pa, pb, pl, hv, hs⟩ hp s ht idx b72)])) (hcs_setsig hi2 _ _ _ _ _)) (fun _ => ?_)
        refine wpl_nil <| ex_then <| wpc_seq ?_
        haveI : OneC [.int .u8 (pf.toNat : Int), .int .u64 (pa.toNat : Int), .int .u64 (pb.toNat : Int), .int .i64 pl, b59] := Pth.sv.one (p := ⟨pf, pa, pb, pl, b59, qs ++ [(newH hp s ht)]⟩) (by show SV b59 (qs ++ [(newH hp s ht)]).length; rw [List.length_append, hi2]; exact p59)
        refine wpc_region <| wpl_q (q_ldN Tryd.underlying29 rfl Tryd.ti29 rfl LenC.h) rfl ?_
        refine wpl_t0 (t_stA Tryd.ti29 rfl rfl LenC.h OneC.h LenC.h) (fun _ => ?_)
        refine wpl_q (q_pure rfl) rfl <| wpl_nil <| ex_then <| wpc_ret ?_
        refine retv2 (.inl rfl) rfl (rv_agg Tryd.underlying29 rfl Tryd.ti29 rfl (fun w h => h.atB) zz2) (rv_tmp rfl) ?_
        exact fun w1 h => ⟨(b59, qs ++ [(newS ⟨pf, pa, pb, pl, hv, hs⟩ hp s ht idx b72)]), ⟨by rw [sgP_ok hE0]; show SV b59 (hs ++ [_]).length; rw [List.length_append]; exact p59, by rw [sgP_ok hE0]; exact newS_eqv (p := ⟨pf, pa, pb, pl, hv, hs⟩) hi2 hi3⟩, by rw [sgP_ok hE0, hE0]; rfl, h.below, sg_made (M := []) (v := b59) (n := hs.length) (p := ⟨pf, pa, pb, pl, hv, hs⟩) rfl hE0 h.sel⟩
end Go.Proofs.YtjpfhkjmjnjggaaDoor
namespace Go.Proofs.YtjpfhkjmjnjggaaDoor
open Go Go.PL Go.RowKit
instance lenC_pth2 {p : Pth} : LenC p.c 5 := ⟨rfl⟩
abbrev tw2 (p : Pth) (x : Value × List Hop) : Pth := ⟨p.pf, p.pa, p.pb, p.pl, x.1, x.2⟩
theorem sixteenB {l : List UInt8} (h : l.length = 16) : ∃ a0 a1 a2 a3 a4 a5 a6 a7 a8 a9 b0 b1 b2 b3 b4 b5, l = [a0, a1, a2, a3, a4, a5, a6, a7, a8, a9, b0, b1, b2, b3, b4, b5] := by
  match l, h with
  | [a0, a1, a2, a3, a4, a5, a6, a7, a8, a9, b0, b1, b2, b3, b4, b5], _ => exact ⟨_, _, _, _, _, _, _, _, _, _, _, _, _, _, _, _, rfl⟩
theorem built_hop0 (a : UInt32) (b c : UInt8) (d : UInt32) (l : List UInt8) (h : l.length = 16) (t : Int) : Tryd.prog.built 68 [(0, .int .u32 (a.toNat : Int)), (1, .int .u8 (b.toNat : Int)), (2, .int .u8 (c.toNat : Int)), (3, .int .u32 (d.toNat : Int)), (4, .agg (v8s l ++ [Value.int .i64 t]).toArray)] = some (Hop.mk a b c d ⟨l, h⟩ t 0 (.slice none 0 0) [] (.slice none 0 0) []).c.toArray := by
  obtain ⟨a0, a1, a2, a3, a4, a5, a6, a7, a8, a9, b0, b1, b2, b3, b4, b5, rfl⟩ := sixteenB h
  kernel_rfl
theorem built_hop (h : Hop) (s : S16) (ht : Int) : Tryd.prog.built 68 [(0, .int .u32 (h.sy.toNat : Int)), (1, .int .u8 (h.cnt.toNat : Int)), (2, .int .u8 (h.fl.toNat : Int)), (3, .int .u32 (h.to.toNat : Int)), (4, .agg (v8s (keyR s.1 ht) ++ [Value.int .i64 (keyH ht)]).toArray)] = some (newH h s ht).c.toArray := built_hop0 _ _ _ _ _ (keyR_l s ht) _
def sgK (h : Hop) (ht : Int) : Int := if 1 < h.fl.toNat then 2 else keyE ht
theorem sgK_no {h : Hop} {ht idx : Int} (hk : sgK h ht ≠ 0) : sgE h ht idx = sgK h ht := by
  unfold sgK at hk ⊢
  by_cases h1 : 1 < h.fl.toNat
  · rw [if_pos h1, sgE_fl h1]
  · rw [if_neg h1] at hk ⊢; exact sgE_key h1 hk
theorem sgK_ok {h : Hop} {ht idx : Int} (hk : sgK h ht = 0) : sgE h ht idx = sigE ht idx := by
  unfold sgK at hk
  by_cases h1 : 1 < h.fl.toNat
  · rw [if_pos h1] at hk; cases hk
  · rw [if_neg h1] at hk; exact sgE_sig h1 (by rw [hk]; decide)
theorem refSignP (p : Pth) (hp : Hop) (s : S16) (ht : Int) (idx : Int) (w : World) (hpp : p.seen w.cell?) (hsvh : hp.sv) (hlim : SmP p) (hn35 : p.hs.length ≤ 35) :
    Calls Tryd.prog 53 [.agg p.c.toArray, .agg hp.c.toArray, .agg (v8s s.1).toArray, .int .i64 ht, .int .i64 idx].toArray w (GivesP w (fun x : Value × List Hop => SV x.1 (sgP p hp s ht idx).hs.length ∧ HsEqv (sgP p hp s ht idx).hs x.2) (fun x => .tuple #[.agg (reP (sgP p hp s ht idx) x).c.toArray, .int .i64 (sgE hp ht idx)]) (fun x => [.row x.1 (sgP p hp s ht idx).hs.length 68 24 (hcs x.2)]) (fun x => [hopsF x.2])) := by
  obtain ⟨pf, pa, pb, pl, hv, hs⟩ := p
  have hh : Seen w.cell? hv hs.length 24 (hcs hs) := hpp.1
  have svh := hh.sv
  have lh := svh.le
  simp only [maxLen] at lh
  have hn35 : hs.length ≤ 35 := hn35
  haveI := hsvh.one
  refine enter (m := 72) (R := Mem w [] [] []) Tryd.func53 rfl rfl (Nat.le_of_ble_eq_true rfl) (Mem.start w) ?_
  refine wpc_seq <| wpc_region ?_
  refine wpl_t (t_box rfl [.int .u8 (pf.toNat : Int), .int .u64 (pa.toNat : Int), .int .u64 (pb.toNat : Int), .int .i64 pl, hv] rfl) rfl (fun b5 => ?_)
  refine wpl_t (t_box rfl hp.c rfl) rfl (fun b6 => ?_)
  refine wpl_t (t_box rfl (v8s s.1) rfl) rfl (fun b7 => ?_)
  refine wpl_t (t_alloc Tryd.ti29 Pth.z.c rfl) rfl (fun b10 => ?_)
  refine wpl_q (q_pure rfl) rfl <| wpl_nil <| ex_then <| wpc_seq <| wpc_region <| wpl_q (q_ldN Tryd.underlying61 rfl Tryd.ti61 rfl LenC.h) rfl <| wpl_q (q_pure rfl) rfl ?_
  refine wpl_t (t_pur Tryd.hb81 rfl fun w h => refKey7 s.1 ht w s.2) rfl (fun b20 => ?_)
  refine wpl_q (q_pure rfl) rfl <| wpl_q (q_pure rfl) rfl <| wpl_q (q_pure rfl) rfl ?_
  refine wpl_t (t_alloc Tryd.ti63 (v8s (List.replicate 16 0) ++ [.int .i64 0]) rfl) rfl (fun b12 => ?_)
  refine wpl_t0 (t_stA Tryd.ti63 rfl rfl LenC.h (key_ro s ht) rfl) (fun _ => ?_)
  refine wpl_q (q_pure rfl) rfl <| wpl_nil <| ex_then ?_
  refine wpc_cutc ({ x : Int // (x = sgK hp ht) }) [(3, .int .i64 ht), (4, .int .i64 idx), (5, .pointer (some ⟨b5, 0, none⟩)), (6, .pointer (some ⟨b6, 0, none⟩)), (7, .pointer (some ⟨b7, 0, none⟩)), (10, .pointer (some ⟨b10, 0, none⟩)), (12, .pointer (some ⟨b12, 0, none⟩))] (fun x Lc => (13, .int .i64 x.1) :: Lc) (fun x => Mem w [] [.blk b12 63 (v8s (keyR s.1 ht) ++ [Value.int .i64 (keyH ht)]), .blk b10 29 Pth.z.c, .blk b7 61 (v8s s.1), .blk b6 68 hp.c, .blk b5 29 [.int .u8 (pf.toNat : Int), .int .u64 (pa.toNat : Int), .int .u64 (pb.toNat : Int), .int .i64 pl, hv]] []) ?_ ?_
  ·
   refine wpc_seq <| wpc_region <| wpl_q (q_field Tryd.underlying68 rfl Tryd.ti5 rfl rfl _ rfl) rfl <| wpl_q (q_ld Tryd.underlying5 rfl rfl hp.c_fl) rfl <| wpl_q (q_pure rfl) rfl <| wpl_nil <| ex_then ?_
   refine wpc_cond rfl (fun hc25 => ?_) (fun hc25 => ?_)
   ·
    have hfl : 1 < hp.fl.toNat := by simp only [decide_eq_true_eq] at hc25; omega
    have hX : 2 = sgK hp ht := (if_pos hfl).symm
    refine wpc_region <| wpl_q (q_pure rfl) rfl <| wpl_nil ?_
    refine ex_mid ⟨2, hX⟩ ?_ ?_
    ·
     exact zz10
    ·
     exact fun w h => by first | exact h | exact h.sub SubC.h SubC.h | exact h.sub zz8 zz8
   ·
    have hfl : ¬ 1 < hp.fl.toNat := by simp only [decide_eq_false_iff_not] at hc25; omega
    have hX : keyE ht = sgK hp ht := (if_neg hfl).symm
    refine wpc_skip ?_
    refine ex_mid ⟨keyE ht, hX⟩ ?_ ?_
    ·
     exact zz10
    ·
     exact fun w h => by first | exact h | exact h.sub SubC.h SubC.h | exact h.sub zz8 zz8
  ·
   rintro ⟨e, hi0⟩; try dsimp only
   have hi0 : e = sgK hp ht := hi0
   refine wpc_seq <| wpc_seq <| wpc_region <| wpl_q (q_pure rfl) rfl <| wpl_q (q_pure rfl) rfl <| wpl_nil <| ex_then ?_
   refine wpc_cond rfl (fun hc27 => ?_) (fun hc27 => ?_)
   ·
    have hke : e ≠ 0 := by simpa using hc27
    have hV : sgE hp ht idx = e := by rw [hi0]; exact sgK_no (hi0 ▸ hke)
    have hE0 : sgE hp ht idx ≠ 0 := by rw [hV]; exact hke
    refine wpc_seq <| wpc_region ?_
    refine wpl_q (q_build (cs := Pth.z.c) rfl built_pz) rfl ?_
    refine wpl_q (q_pure rfl) rfl ?_
    refine wpl_t0 (t_stA Tryd.ti29 rfl rfl LenC.h OneC.h LenC.h) (fun _ => ?_)
    refine wpl_q (q_pure rfl) rfl <| wpl_nil <| ex_then <| wpc_ret ?_
    refine ex_then_ret ?_
    refine retv2 (.inl rfl) rfl (rv_agg Tryd.underlying29 rfl Tryd.ti29 rfl (fun w h => h.atB) zz2) (rv_tmp rfl) ?_
    exact fun w1 h => ⟨(.slice none 0 0, []), ⟨zz56, zz39⟩, by rw [sgP_no hE0, hV]; rfl, h.below, sg_err h hE0⟩
   ·
    have hke : e = 0 := by simpa using hc27
    have hES : sgE hp ht idx = sigE ht idx := sgK_ok (hi0 ▸ hke)
    refine wpc_skip <| ex_then <| wpc_seq <| wpc_region <| wpl_q (q_ldN Tryd.underlying29 rfl Tryd.ti29 rfl LenC.h) rfl ?_
    refine wpl_tp (t_callPF Tryd.hb12 rfl fun w h => refTwin42 ⟨pf, pa, pb, pl, hv, hs⟩ w (hpp.old h) hlim hn35) rfl (fun b31 p31 => ?_)
    haveI : OneC (tw2 ⟨pf, pa, pb, pl, hv, hs⟩ b31).c := Pth.sv.one (p := tw2 ⟨pf, pa, pb, pl, hv, hs⟩ b31) (by show SV b31.1 b31.2.length; rw [← p31.2.1]; exact p31.1)
    have svt : SV b31.1 hs.length := p31.1
    have hql : b31.2.length = hs.length := p31.2.1.symm
    have hqe : ∀ j, j < hs.length → Hop.eqv (hs.getD j Hop.z) (b31.2.getD j Hop.z) := p31.2.2
    refine wpl_t (t_alloc Tryd.ti29 Pth.z.c rfl) rfl (fun b14 => ?_)
    refine wpl_t0 (t_stA Tryd.ti29 rfl rfl LenC.h OneC.h LenC.h) (fun _ => ?_)
    refine wpl_nil <| ex_then <| wpc_seq <| wpc_region <| wpl_q (q_field Tryd.underlying29 rfl Tryd.ti27 rfl rfl _ rfl) rfl <| wpl_q (q_ld Tryd.underlying27 rfl rfl rfl) rfl <| wpl_q (q_field Tryd.underlying68 rfl Tryd.ti49 rfl rfl _ rfl) rfl <| wpl_q (q_ld Tryd.underlying49 rfl rfl hp.c_sy) rfl <| wpl_q (q_field Tryd.underlying68 rfl Tryd.ti5 rfl rfl _ rfl) rfl <| wpl_q (q_ld Tryd.underlying5 rfl rfl hp.c_cnt) rfl <| wpl_q (q_field Tryd.underlying68 rfl Tryd.ti5 rfl rfl _ rfl) rfl <| wpl_q (q_ld Tryd.underlying5 rfl rfl hp.c_fl) rfl ?_
    refine wpl_q (q_field Tryd.underlying68 rfl Tryd.ti49 rfl rfl _ rfl) rfl <| wpl_q (q_ld Tryd.underlying49 rfl rfl hp.c_to) rfl <| wpl_q (q_ldN Tryd.underlying63 rfl Tryd.ti63 rfl LenC.h) rfl ?_
    refine wpl_q (q_build (cs := (newH hp s ht).c) rfl (built_hop hp s ht)) rfl ?_
    refine wpl_tp (t_bsG [.agg (newH hp s ht).c.toArray] (newH hp s ht).c Tryd.underlying27 Tryd.ti68 rfl zz19 rfl zz19 zz19 rfl zz58 (List.append_nil _)) rfl (fun b44 p44 => ?_)
    refine wpl_tp (t_apW Tryd.underlying27 Tryd.ti68 rfl zz19 rfl rfl (fun w h => zz11) OneC.h zz1 zz1 (hcs (b31.2 ++ [(newH hp s ht)])) (hcs_snoc _ _)) rfl (fun b45 p45 => ?_)
    refine wpl_q (q_field Tryd.underlying29 rfl Tryd.ti27 rfl rfl _ rfl) rfl ?_
    refine wpl_t0 (t_st1 Tryd.ti27 rfl rfl (SV.one zz4) (show 4 < 5 from zz19) [.int .u8 (pf.toNat : Int), .int .u64 (pa.toNat : Int), .int .u64 (pb.toNat : Int), .int .i64 pl, b45] rfl) (fun _ => ?_)
    refine wpl_nil <| ex_then <| wpc_seq <| wpc_region <| wpl_q (q_field Tryd.underlying29 rfl Tryd.ti27 rfl rfl _ rfl) rfl <| wpl_q (q_ld Tryd.underlying27 rfl rfl rfl) rfl ?_
    refine wpl_q (q_lenW Tryd.underlying27 rfl zz4) rfl ?_
    refine wpl_q (q_subN (b := 1) rfl rfl zz14 zz1) rfl ?_
    refine wpl_q (q_pure rfl) rfl <| wpl_nil <| ex_then <| wpc_seq ?_
    have hqo := newO_eqv (p := ⟨pf, pa, pb, pl, hv, hs⟩) (h := hp) (s := s) (ht := ht) (v := b45) hql hqe
    have hme : msgB (Pth.mk pf pa pb pl b45 (b31.2 ++ [(newH hp s ht)])) hs.length = (sgM ⟨pf, pa, pb, pl, hv, hs⟩ hp s ht) := (msgB_eqv hqo (show hs.length < (hs ++ [(newH hp s ht)]).length by rw [List.length_append]; exact Nat.lt_succ_self _)).symm
    have hsm : SmP (Pth.mk pf pa pb pl b45 (b31.2 ++ [(newH hp s ht)])) := so_small hql hqe hlim
    have hjn : hs.length < (b31.2 ++ [(newH hp s ht)]).length := by rw [List.length_append, hql]; exact Nat.lt_succ_self _
    have hml : (sgM ⟨pf, pa, pb, pl, hv, hs⟩ hp s ht).length ≤ 59 := msgB_len _ _
    refine wpc_draw 11 zz6 (fun _ h => h.drew) ?_
    refine wpd_q 0 rfl zz6 trivial (q_ldN Tryd.underlying61 rfl Tryd.ti61 rfl LenC.h) rfl (fun _ h => h) ?_
    refine wpd_p 1 rfl zz6 trivial (q_pure rfl) rfl sk0 ?_
    refine wpd_p 2 rfl zz6 trivial (q_pure rfl) rfl sk0 ?_
    refine wpd_q 3 rfl zz6 trivial (q_ldN Tryd.underlying29 rfl Tryd.ti29 rfl LenC.h) rfl (fun _ h => h) ?_
    refine wpd_p 4 rfl zz6 trivial (q_pure rfl) rfl sk0 ?_
    refine wpd_two 5 10 zz6 ?_ ?_
    ·
     refine wpa_tp 5 rfl trivial (t_callP1 Tryd.hb39 rfl fun w h => by
       have q := refMessage (Pth.mk pf pa pb pl b45 (b31.2 ++ [(newH hp s ht)])) hsm hs.length w (so_seen hql (h.seen_row zz7) (hopsF_at h zz7)) hjn
       rw [hme] at q
       exact q) rfl (fun _ => (fun w h => .inr (h.sub SubC.h SubC.h))) (fun b57 p57 => ?_)
     refine wpd_two 6 10 zz6 ?_ ?_
     ·
      refine wpa_tp 6 rfl trivial (t_callP2 Tryd.hb82 rfl fun w h => refSign7 s.1 ht idx b57 (sgM ⟨pf, pa, pb, pl, hv, hs⟩ hp s ht) w s.2 (h.seen_row zz7) zz14) rfl (fun _ => (fun w h => .inr (h.sub SubC.h SubC.h))) (fun b58 p58 => ?_)
      refine wpd_p 7 rfl zz6 trivial (q_pure rfl) rfl (fun w h => .inr (h.sub SubC.h SubC.h)) ?_
      refine wpd_p 8 rfl zz6 trivial (q_pure rfl) rfl (fun w h => .inr (h.sub SubC.h SubC.h)) ?_
      refine wpd_p 9 rfl zz6 trivial (q_pure rfl) rfl (fun w h => .inr (h.sub SubC.h SubC.h)) ?_
      refine wpd_t 10 rfl zz6 trivial (t_alloc Tryd.ti66 [.int .i64 0, .slice none 0 0, .slice none 0 0] rfl) rfl (fun _ => (fun w h => .inr (h.sub SubC.h SubC.h))) (fun b16 => ?_)
      refine wpd_t0 11 rfl zz6 trivial (t_stA Tryd.ti66 rfl rfl rfl (OneC.cons rfl (OneC.cons (SV.one p58.1) (OneC.cons (SV.one p58.2) oneC_nil))).h rfl) (fun _ => skk rfl) (fun _ => ?_)
      refine wpd_p 12 rfl zz6 trivial (q_pure rfl) rfl (skk rfl) ?_
      refine wpd_done zz6 ?_
      refine ex_then <| wpc_seq <| wpc_seq <| wpc_region <| wpl_q (q_pure rfl) rfl <| wpl_q (q_pure rfl) rfl <| wpl_nil <| ex_then ?_
      refine wpc_cond rfl (fun hc62 => ?_) (fun hc62 => ?_)
      ·
       have hse : sigE ht idx ≠ 0 := by simpa using hc62
       have hV := hES
       have hE0 : sgE hp ht idx ≠ 0 := by rw [hV]; exact hse
       refine wpc_seq <| wpc_region ?_
       refine wpl_q (q_build (cs := Pth.z.c) rfl built_pz) rfl ?_
       refine wpl_q (q_pure rfl) rfl ?_
       refine wpl_t0 (t_stA Tryd.ti29 rfl rfl LenC.h OneC.h LenC.h) (fun _ => ?_)
       refine wpl_q (q_pure rfl) rfl <| wpl_nil <| ex_then <| wpc_ret ?_
       refine ex_then_ret ?_
       refine retv2 (.inl rfl) rfl (rv_agg Tryd.underlying29 rfl Tryd.ti29 rfl (fun w h => h.atB) zz2) (rv_tmp rfl) ?_
       exact fun w1 h => ⟨(.slice none 0 0, []), ⟨zz56, zz39⟩, by rw [sgP_no hE0, hV]; rfl, h.below, sg_err h hE0⟩
      ·
       have hse : sigE ht idx = 0 := by simpa using hc62
       have hE0 : sgE hp ht idx = 0 := hES.trans hse
       refine wpc_skip <| ex_then <| wpc_seq <| wpc_region <| wpl_q (q_field Tryd.underlying29 rfl Tryd.ti27 rfl rfl _ rfl) rfl <| wpl_q (q_ld Tryd.underlying27 rfl rfl rfl) rfl <| wpl_q (q_pure rfl) rfl <| wpl_q (q_ldN Tryd.underlying66 rfl Tryd.ti66 rfl LenC.h) rfl ?_
       refine wpl_q (q_idxW Tryd.underlying27 Tryd.ti68 rfl rfl zz4 zz1) rfl ?_
       refine wpl_q (q_fieldPo 21 Tryd.underlying68 rfl Tryd.ti66 rfl rfl rfl) rfl ?_
       refine wpl_t0 (t_stWFN (j := hs.length * 24) (k := 21) (vs := [.int .i64 (sigI ht idx), b58.1, b58.2]) Tryd.ti66 rfl rfl rfl rfl (OneC.cons rfl (OneC.cons (SV.one p58.1) (OneC.cons (SV.one p58.2) oneC_nil))).h zz54 zz49 (hcs (b31.2 ++ [(newS ⟨pf, pa, pb, pl, hv, hs⟩ hp s ht idx b58)])) (hcs_setsig hql _ _ _ _ _)) (fun _ => ?_)
       refine wpl_nil <| ex_then <| wpc_seq ?_
       haveI : OneC [.int .u8 (pf.toNat : Int), .int .u64 (pa.toNat : Int), .int .u64 (pb.toNat : Int), .int .i64 pl, b45] := Pth.sv.one (p := ⟨pf, pa, pb, pl, b45, b31.2 ++ [(newH hp s ht)]⟩) (by show SV b45 (b31.2 ++ [(newH hp s ht)]).length; rw [List.length_append, hql]; exact p45)
       refine wpc_region <| wpl_q (q_ldN Tryd.underlying29 rfl Tryd.ti29 rfl LenC.h) rfl ?_
       refine wpl_t0 (t_stA Tryd.ti29 rfl rfl LenC.h OneC.h LenC.h) (fun _ => ?_)
       refine wpl_q (q_pure rfl) rfl <| wpl_nil <| ex_then <| wpc_ret ?_
       refine retv2 (.inl rfl) rfl (rv_agg Tryd.underlying29 rfl Tryd.ti29 rfl (fun w h => h.atB) zz2) (rv_tmp rfl) ?_
       exact fun w1 h => ⟨(b45, b31.2 ++ [(newS ⟨pf, pa, pb, pl, hv, hs⟩ hp s ht idx b58)]), ⟨by rw [sgP_ok hE0]; show SV b45 (hs ++ [_]).length; rw [List.length_append]; exact p45, by rw [sgP_ok hE0]; exact newS_eqv (p := ⟨pf, pa, pb, pl, hv, hs⟩) hql hqe⟩, by rw [sgP_ok hE0, hE0]; rfl, h.below, sg_made (M := []) (v := b45) (n := hs.length) (p := ⟨pf, pa, pb, pl, hv, hs⟩) rfl hE0 h.sel⟩
     ·
      refine wpa_t 10 rfl trivial (t_alloc Tryd.ti66 [.int .i64 0, .slice none 0 0, .slice none 0 0] rfl) rfl (fun _ => (fun w h => .inr (h.sub SubC.h SubC.h))) (fun b16 => ?_)
      refine wpd_tp 6 rfl zz6 trivial (t_callP2 Tryd.hb82 rfl fun w h => refSign7 s.1 ht idx b57 (sgM ⟨pf, pa, pb, pl, hv, hs⟩ hp s ht) w s.2 (h.seen_row zz7) zz14) rfl (fun _ => (fun w h => .inr (h.sub SubC.h SubC.h))) (fun b58 p58 => ?_)
      refine wpd_p 7 rfl zz6 trivial (q_pure rfl) rfl (fun w h => .inr (h.sub SubC.h SubC.h)) ?_
      refine wpd_p 8 rfl zz6 trivial (q_pure rfl) rfl (fun w h => .inr (h.sub SubC.h SubC.h)) ?_
      refine wpd_p 9 rfl zz6 trivial (q_pure rfl) rfl (fun w h => .inr (h.sub SubC.h SubC.h)) ?_
      refine wpd_t0 11 rfl zz6 trivial (t_stA Tryd.ti66 rfl rfl rfl (OneC.cons rfl (OneC.cons (SV.one p58.1) (OneC.cons (SV.one p58.2) oneC_nil))).h rfl) (fun _ => skk rfl) (fun _ => ?_)
      refine wpd_p 12 rfl zz6 trivial (q_pure rfl) rfl (skk rfl) ?_
      refine wpd_done zz6 ?_
      refine ex_then <| wpc_seq <| wpc_seq <| wpc_region <| wpl_q (q_pure rfl) rfl <| wpl_q (q_pure rfl) rfl <| wpl_nil <| ex_then ?_
      refine wpc_cond rfl (fun hc62 => ?_) (fun hc62 => ?_)
      ·
       have hse : sigE ht idx ≠ 0 := by simpa using hc62
       have hV := hES
       have hE0 : sgE hp ht idx ≠ 0 := by rw [hV]; exact hse
       refine wpc_seq <| wpc_region ?_
       refine wpl_q (q_build (cs := Pth.z.c) rfl built_pz) rfl ?_
       refine wpl_q (q_pure rfl) rfl ?_
       refine wpl_t0 (t_stA Tryd.ti29 rfl rfl LenC.h OneC.h LenC.h) (fun _ => ?_)
       refine wpl_q (q_pure rfl) rfl <| wpl_nil <| ex_then <| wpc_ret ?_
       refine ex_then_ret ?_
       refine retv2 (.inl rfl) rfl (rv_agg Tryd.underlying29 rfl Tryd.ti29 rfl (fun w h => h.atB) zz2) (rv_tmp rfl) ?_
       exact fun w1 h => ⟨(.slice none 0 0, []), ⟨zz56, zz39⟩, by rw [sgP_no hE0, hV]; rfl, h.below, sg_err h hE0⟩
      ·
       have hse : sigE ht idx = 0 := by simpa using hc62
       have hE0 : sgE hp ht idx = 0 := hES.trans hse
       refine wpc_skip <| ex_then <| wpc_seq <| wpc_region <| wpl_q (q_field Tryd.underlying29 rfl Tryd.ti27 rfl rfl _ rfl) rfl <| wpl_q (q_ld Tryd.underlying27 rfl rfl rfl) rfl <| wpl_q (q_pure rfl) rfl <| wpl_q (q_ldN Tryd.underlying66 rfl Tryd.ti66 rfl LenC.h) rfl ?_
       refine wpl_q (q_idxW Tryd.underlying27 Tryd.ti68 rfl rfl zz4 zz1) rfl ?_
       refine wpl_q (q_fieldPo 21 Tryd.underlying68 rfl Tryd.ti66 rfl rfl rfl) rfl ?_
       refine wpl_t0 (t_stWFN (j := hs.length * 24) (k := 21) (vs := [.int .i64 (sigI ht idx), b58.1, b58.2]) Tryd.ti66 rfl rfl rfl rfl (OneC.cons rfl (OneC.cons (SV.one p58.1) (OneC.cons (SV.one p58.2) oneC_nil))).h zz54 zz49 (hcs (b31.2 ++ [(newS ⟨pf, pa, pb, pl, hv, hs⟩ hp s ht idx b58)])) (hcs_setsig hql _ _ _ _ _)) (fun _ => ?_)
       refine wpl_nil <| ex_then <| wpc_seq ?_
       haveI : OneC [.int .u8 (pf.toNat : Int), .int .u64 (pa.toNat : Int), .int .u64 (pb.toNat : Int), .int .i64 pl, b45] := Pth.sv.one (p := ⟨pf, pa, pb, pl, b45, b31.2 ++ [(newH hp s ht)]⟩) (by show SV b45 (b31.2 ++ [(newH hp s ht)]).length; rw [List.length_append, hql]; exact p45)
       refine wpc_region <| wpl_q (q_ldN Tryd.underlying29 rfl Tryd.ti29 rfl LenC.h) rfl ?_
       refine wpl_t0 (t_stA Tryd.ti29 rfl rfl LenC.h OneC.h LenC.h) (fun _ => ?_)
       refine wpl_q (q_pure rfl) rfl <| wpl_nil <| ex_then <| wpc_ret ?_
       refine retv2 (.inl rfl) rfl (rv_agg Tryd.underlying29 rfl Tryd.ti29 rfl (fun w h => h.atB) zz2) (rv_tmp rfl) ?_
       exact fun w1 h => ⟨(b45, b31.2 ++ [(newS ⟨pf, pa, pb, pl, hv, hs⟩ hp s ht idx b58)]), ⟨by rw [sgP_ok hE0]; show SV b45 (hs ++ [_]).length; rw [List.length_append]; exact p45, by rw [sgP_ok hE0]; exact newS_eqv (p := ⟨pf, pa, pb, pl, hv, hs⟩) hql hqe⟩, by rw [sgP_ok hE0, hE0]; rfl, h.below, sg_made (M := []) (v := b45) (n := hs.length) (p := ⟨pf, pa, pb, pl, hv, hs⟩) rfl hE0 h.sel⟩
    ·
     refine wpa_t 10 rfl trivial (t_alloc Tryd.ti66 [.int .i64 0, .slice none 0 0, .slice none 0 0] rfl) rfl (fun _ => (fun w h => .inr (h.sub SubC.h SubC.h))) (fun b16 => ?_)
     refine wpd_tp 5 rfl zz6 trivial (t_callP1 Tryd.hb39 rfl fun w h => by
       have q := refMessage (Pth.mk pf pa pb pl b45 (b31.2 ++ [(newH hp s ht)])) hsm hs.length w (so_seen hql (h.seen_row zz7) (hopsF_at h zz7)) hjn
       rw [hme] at q
       exact q) rfl (fun _ => (fun w h => .inr (h.sub SubC.h SubC.h))) (fun b57 p57 => ?_)
     refine wpd_tp 6 rfl zz6 trivial (t_callP2 Tryd.hb82 rfl fun w h => refSign7 s.1 ht idx b57 (sgM ⟨pf, pa, pb, pl, hv, hs⟩ hp s ht) w s.2 (h.seen_row zz7) zz14) rfl (fun _ => (fun w h => .inr (h.sub SubC.h SubC.h))) (fun b58 p58 => ?_)
     refine wpd_p 7 rfl zz6 trivial (q_pure rfl) rfl (fun w h => .inr (h.sub SubC.h SubC.h)) ?_
     refine wpd_p 8 rfl zz6 trivial (q_pure rfl) rfl (fun w h => .inr (h.sub SubC.h SubC.h)) ?_
     refine wpd_p 9 rfl zz6 trivial (q_pure rfl) rfl (fun w h => .inr (h.sub SubC.h SubC.h)) ?_
     refine wpd_t0 11 rfl zz6 trivial (t_stA Tryd.ti66 rfl rfl rfl (OneC.cons rfl (OneC.cons (SV.one p58.1) (OneC.cons (SV.one p58.2) oneC_nil))).h rfl) (fun _ => skk rfl) (fun _ => ?_)
     refine wpd_p 12 rfl zz6 trivial (q_pure rfl) rfl (skk rfl) ?_
     refine wpd_done zz6 ?_
     refine ex_then <| wpc_seq <| wpc_seq <| wpc_region <| wpl_q (q_pure rfl) rfl <| wpl_q (q_pure rfl) rfl <| wpl_nil <| ex_then ?_
     refine wpc_cond rfl (fun hc62 => ?_) (fun hc62 => ?_)
     ·
      have hse : sigE ht idx ≠ 0 := by simpa using hc62
      have hV := hES
      have hE0 : sgE hp ht idx ≠ 0 := by rw [hV]; exact hse
      refine wpc_seq <| wpc_region ?_
      refine wpl_q (q_build (cs := Pth.z.c) rfl built_pz) rfl ?_
      refine wpl_q (q_pure rfl) rfl ?_
      refine wpl_t0 (t_stA Tryd.ti29 rfl rfl LenC.h OneC.h LenC.h) (fun _ => ?_)
      refine wpl_q (q_pure rfl) rfl <| wpl_nil <| ex_then <| wpc_ret ?_
      refine ex_then_ret ?_
      refine retv2 (.inl rfl) rfl (rv_agg Tryd.underlying29 rfl Tryd.ti29 rfl (fun w h => h.atB) zz2) (rv_tmp rfl) ?_
      exact fun w1 h => ⟨(.slice none 0 0, []), ⟨zz56, zz39⟩, by rw [sgP_no hE0, hV]; rfl, h.below, sg_err h hE0⟩
     ·
      have hse : sigE ht idx = 0 := by simpa using hc62
      have hE0 : sgE hp ht idx = 0 := hES.trans hse
      refine wpc_skip <| ex_then <| wpc_seq <| wpc_region <| wpl_q (q_field Tryd.underlying29 rfl Tryd.ti27 rfl rfl _ rfl) rfl <| wpl_q (q_ld Tryd.underlying27 rfl rfl rfl) rfl <| wpl_q (q_pure rfl) rfl <| wpl_q (q_ldN Tryd.underlying66 rfl Tryd.ti66 rfl LenC.h) rfl ?_
      refine wpl_q (q_idxW Tryd.underlying27 Tryd.ti68 rfl rfl zz4 zz1) rfl ?_
      refine wpl_q (q_fieldPo 21 Tryd.underlying68 rfl Tryd.ti66 rfl rfl rfl) rfl ?_
      refine wpl_t0 (t_stWFN (j := hs.length * 24) (k := 21) (vs := [.int .i64 (sigI ht idx), b58.1, b58.2]) Tryd.ti66 rfl rfl rfl rfl (OneC.cons rfl (OneC.cons (SV.one p58.1) (OneC.cons (SV.one p58.2) oneC_nil))).h zz54 zz49 (hcs (b31.2 ++ [(newS ⟨pf, pa, pb, pl, hv, hs⟩ hp s ht idx b58)])) (hcs_setsig hql _ _ _ _ _)) (fun _ => ?_)
      refine wpl_nil <| ex_then <| wpc_seq ?_
      haveI : OneC [.int .u8 (pf.toNat : Int), .int .u64 (pa.toNat : Int), .int .u64 (pb.toNat : Int), .int .i64 pl, b45] := Pth.sv.one (p := ⟨pf, pa, pb, pl, b45, b31.2 ++ [(newH hp s ht)]⟩) (by show SV b45 (b31.2 ++ [(newH hp s ht)]).length; rw [List.length_append, hql]; exact p45)
      refine wpc_region <| wpl_q (q_ldN Tryd.underlying29 rfl Tryd.ti29 rfl LenC.h) rfl ?_
      refine wpl_t0 (t_stA Tryd.ti29 rfl rfl LenC.h OneC.h LenC.h) (fun _ => ?_)
      refine wpl_q (q_pure rfl) rfl <| wpl_nil <| ex_then <| wpc_ret ?_
      refine retv2 (.inl rfl) rfl (rv_agg Tryd.underlying29 rfl Tryd.ti29 rfl (fun w h => h.atB) zz2) (rv_tmp rfl) ?_
      exact fun w1 h => ⟨(b45, b31.2 ++ [(newS ⟨pf, pa, pb, pl, hv, hs⟩ hp s ht idx b58)]), ⟨by rw [sgP_ok hE0]; show SV b45 (hs ++ [_]).length; rw [List.length_append]; exact p45, by rw [sgP_ok hE0]; exact newS_eqv (p := ⟨pf, pa, pb, pl, hv, hs⟩) hql hqe⟩, by rw [sgP_ok hE0, hE0]; rfl, h.below, sg_made (M := []) (v := b45) (n := hs.length) (p := ⟨pf, pa, pb, pl, hv, hs⟩) rfl hE0 h.sel⟩
end Go.Proofs.YtjpfhkjmjnjggaaDoor
namespace Go.Proofs.YtjpfhkjmjnjggaaDoor
open Go Go.PL Go.RowKit
instance lenC_pfL {f : UInt8} {a b : UInt64} {l : Int} : LenC (pfL f a b l) 4 := ⟨rfl⟩
theorem Hop.eqv.sm {a b : Hop} (h : a.eqv b) : b.eqv a := ⟨h.1.symm, h.2.1.symm, h.2.2.1.symm, h.2.2.2.1.symm, ⟨h.2.2.2.2.1.1.symm, h.2.2.2.2.1.2.symm⟩, h.2.2.2.2.2.1.symm, h.2.2.2.2.2.2.1.symm, h.2.2.2.2.2.2.2.symm⟩
theorem Hop.eqv.tr {a b c : Hop} (h : a.eqv b) (k : b.eqv c) : a.eqv c := ⟨h.1.trans k.1, h.2.1.trans k.2.1, h.2.2.1.trans k.2.2.1, h.2.2.2.1.trans k.2.2.2.1, ⟨h.2.2.2.2.1.1.trans k.2.2.2.2.1.1, h.2.2.2.2.1.2.trans k.2.2.2.2.1.2⟩, h.2.2.2.2.2.1.trans k.2.2.2.2.2.1, h.2.2.2.2.2.2.1.trans k.2.2.2.2.2.2.1, h.2.2.2.2.2.2.2.trans k.2.2.2.2.2.2.2⟩
theorem HsEqv.meet {l a b : List Hop} (h : HsEqv l a) (k : HsEqv l b) : HsEqv a b := ⟨h.1.symm.trans k.1, fun i hi => (h.2 i (by rw [h.1]; exact hi)).sm.tr (k.2 i (by rw [h.1]; exact hi))⟩
theorem reP_eqv {q : Pth} {x y : Value × List Hop} (h : HsEqv q.hs x.2) (k : HsEqv q.hs y.2) : (reP q x).eqv (reP q y) := ⟨⟨rfl, rfl, rfl, rfl⟩, h.meet k⟩
theorem reP_seen {q : Pth} {x : Value × List Hop} {r : Rd} (h : HsEqv q.hs x.2) (h1 : Seen r x.1 q.hs.length 24 (hcs x.2)) (h2 : ∀ y ∈ x.2, y.seen r) : (reP q x).seen r := ⟨by
  show Seen r x.1 x.2.length 24 (hcs x.2)
  rw [← h.1]; exact h1, h2⟩
theorem reP_one {q : Pth} {x : Value × List Hop} (h : SV x.1 q.hs.length) : OneC (reP q x).c := OneC.cons rfl (OneC.cons rfl (OneC.cons rfl (OneC.cons rfl (OneC.cons (SV.one h) oneC_nil))))
theorem er_made {w0 w : World} {M : List Ent} {S : List Fact} (hm : Mem w0 [] M S w) : New w0.heap.size [.row (.slice none 0 0) Pth.z.hs.length 68 24 (hcs [])] [hopsF []] w := by
  have h1 : Mem w0 [] (.row (.slice none 0 0) 0 68 24 [] :: M) [hopsF []] w := Mem.imp (hm.nilRow 68 24) (fun r _ t ht => zz60)
  exact h1.made (.keep .nil) (Sub.refl _)
abbrev P0 (f : UInt8) (a b : UInt64) (l : Int) : Pth := ⟨f, a, b, l, .slice none 0 0, []⟩
theorem p0_seen {f : UInt8} {a b : UInt64} {l : Int} (r : Rd) : (P0 f a b l).seen r := ⟨seen_nil _ _, fun h hh => by cases hh⟩
def stE (f : UInt8) (a b : UInt64) (l : Int) (h : Hop) (ht idx : Int) : Int := if pfxF f a b l ≠ 0 then pfxF f a b l else sgE h ht idx
def stP (f : UInt8) (a b : UInt64) (l : Int) (h : Hop) (s : S16) (ht idx : Int) : Pth := if pfxF f a b l ≠ 0 then Pth.z else sgP (P0 f a b l) h s ht idx
theorem stE_no {f : UInt8} {a b : UInt64} {l : Int} {h : Hop} {ht idx : Int} (k : pfxF f a b l ≠ 0) : stE f a b l h ht idx = pfxF f a b l := if_pos k
theorem stE_ok {f : UInt8} {a b : UInt64} {l : Int} {h : Hop} {ht idx : Int} (k : ¬ pfxF f a b l ≠ 0) : stE f a b l h ht idx = sgE h ht idx := if_neg k
theorem stP_no {f : UInt8} {a b : UInt64} {l : Int} {h : Hop} {s : S16} {ht idx : Int} (k : pfxF f a b l ≠ 0) : stP f a b l h s ht idx = Pth.z := if_pos k
theorem stP_ok {f : UInt8} {a b : UInt64} {l : Int} {h : Hop} {s : S16} {ht idx : Int} (k : ¬ pfxF f a b l ≠ 0) : stP f a b l h s ht idx = sgP (P0 f a b l) h s ht idx := if_neg k
def Hop.wa (h : Hop) (x : UInt32) : Hop := { h with sy := x }
def lastTo (p : Pth) : UInt32 := (p.hs.getD (p.hs.length - 1) Hop.z).to
def exK (p : Pth) : Int := if chkP p ≠ 0 then chkP p else if p.hs.length = 30 then 4 else 0
def exE (p : Pth) (h : Hop) (ht idx : Int) : Int := if exK p ≠ 0 then exK p else sgE (h.wa (lastTo p)) ht idx
def exP (p : Pth) (h : Hop) (s : S16) (ht idx : Int) : Pth := if exK p ≠ 0 then Pth.z else sgP p (h.wa (lastTo p)) s ht idx
theorem exE_no {p : Pth} {h : Hop} {ht idx : Int} (k : exK p ≠ 0) : exE p h ht idx = exK p := if_pos k
theorem exE_ok {p : Pth} {h : Hop} {ht idx : Int} (k : exK p = 0) : exE p h ht idx = sgE (h.wa (lastTo p)) ht idx := if_neg (by simp [k])
theorem exP_no {p : Pth} {h : Hop} {s : S16} {ht idx : Int} (k : exK p ≠ 0) : exP p h s ht idx = Pth.z := if_pos k
theorem exP_ok {p : Pth} {h : Hop} {s : S16} {ht idx : Int} (k : exK p = 0) : exP p h s ht idx = sgP p (h.wa (lastTo p)) s ht idx := if_neg (by simp [k])
theorem exK_chk {p : Pth} (h : chkP p ≠ 0) : exK p = chkP p := if_pos h
theorem exK_many {p : Pth} (h : chkP p = 0) (h2 : p.hs.length = 30) : exK p = 4 := (if_neg (by simp [h])).trans (if_pos h2)
theorem exK_ok {p : Pth} (h : chkP p = 0) (h2 : ¬ p.hs.length = 30) : exK p = 0 := (if_neg (by simp [h])).trans (if_neg h2)
theorem exK_inv {p : Pth} (h : exK p = 0) : chkP p = 0 := by
  unfold exK at h
  split at h
  · rename_i hk; exact absurd h hk
  · rename_i hk; exact Decidable.not_not.1 hk
end Go.Proofs.YtjpfhkjmjnjggaaDoor
namespace Go.Proofs.YtjpfhkjmjnjggaaDoor
open Go Go.PL Go.RowKit
theorem start (f : UInt8) (a b : UInt64) (l : Int) (hp : Hop) (s : S16) (ht : Int) (idx : Int) (w : World) (hsvh : hp.sv) (hG : Glb w) :
    Calls Tryd.prog 26 [.agg (pfL f a b l).toArray, .agg hp.c.toArray, .agg (v8s s.1).toArray, .int .i64 ht, .int .i64 idx].toArray w (GivesP w (fun x : Value × List Hop => SV x.1 (stP f a b l hp s ht idx).hs.length ∧ HsEqv (stP f a b l hp s ht idx).hs x.2) (fun x => .tuple #[.agg (reP (stP f a b l hp s ht idx) x).c.toArray, .int .i64 (stE f a b l hp ht idx)]) (fun x => [.row x.1 (stP f a b l hp s ht idx).hs.length 68 24 (hcs x.2)]) (fun x => [hopsF x.2])) := by
  haveI := hsvh.one
  refine enter (m := 32) (R := Mem w [] [] []) Tryd.func26 rfl rfl (Nat.le_of_ble_eq_true rfl) (Mem.start w) ?_
  refine wpc_seq <| wpc_region ?_
  refine wpl_t (t_box rfl (pfL f a b l) rfl) rfl (fun b5 => ?_)
  refine wpl_t (t_box rfl hp.c rfl) rfl (fun b6 => ?_)
  refine wpl_t (t_box rfl (v8s s.1) rfl) rfl (fun b7 => ?_)
  refine wpl_t (t_alloc Tryd.ti29 Pth.z.c rfl) rfl (fun b10 => ?_)
  refine wpl_q (q_pure rfl) rfl <| wpl_nil <| ex_then <| wpc_seq <| wpc_region <| wpl_q (q_ldN Tryd.underlying26 rfl Tryd.ti26 rfl LenC.h) rfl ?_
  refine wpl_t (t_pur Tryd.hb42 rfl fun w h => numCheck f a b l w) rfl (fun b15 => ?_)
  refine wpl_q (q_pure rfl) rfl <| wpl_nil <| ex_then <| wpc_seq <| wpc_seq <| wpc_region <| wpl_q (q_pure rfl) rfl <| wpl_q (q_pure rfl) rfl <| wpl_nil <| ex_then ?_
  refine wpc_cond rfl (fun hc17 => ?_) (fun hc17 => ?_)
  ·
   have hk : pfxF f a b l ≠ 0 := by simpa using hc17
   have hV : stE f a b l hp ht idx = pfxF f a b l := stE_no hk
   refine wpc_seq <| wpc_region ?_
   refine wpl_q (q_build (cs := Pth.z.c) rfl built_pz) rfl ?_
   refine wpl_q (q_pure rfl) rfl ?_
   refine wpl_t0 (t_stA Tryd.ti29 rfl rfl LenC.h OneC.h LenC.h) (fun _ => ?_)
   refine wpl_q (q_pure rfl) rfl <| wpl_nil <| ex_then <| wpc_ret ?_
   refine ex_then_ret ?_
   refine retv2 (.inl rfl) rfl (rv_agg Tryd.underlying29 rfl Tryd.ti29 rfl (fun w h => h.atB) zz2) (rv_tmp rfl) ?_
   exact fun w1 h => ⟨(.slice none 0 0, []), ⟨by rw [stP_no hk]; exact SV.nil, by rw [stP_no hk]; exact ⟨rfl, fun i hi => by cases hi⟩⟩, by rw [stP_no hk, hV]; rfl, h.below, by rw [stP_no hk]; exact er_made h⟩
  ·
   have hk : ¬ pfxF f a b l ≠ 0 := by simpa using hc17
   refine wpc_skip <| ex_then <| wpc_seq <| wpc_region <| wpl_q (q_ldN Tryd.underlying26 rfl Tryd.ti26 rfl LenC.h) rfl ?_
   refine wpl_q (q_build (cs := (P0 f a b l).c) rfl (built_pre f a b l)) rfl ?_
   refine wpl_q (q_ldN Tryd.underlying68 rfl Tryd.ti68 rfl LenC.h) rfl <| wpl_q (q_ldN Tryd.underlying61 rfl Tryd.ti61 rfl LenC.h) rfl <| wpl_q (q_pure rfl) rfl <| wpl_q (q_pure rfl) rfl ?_
   refine wpl_tp (t_callPF Tryd.hb52 rfl fun w h => signP (P0 f a b l) hp s ht idx w (p0_seen _) hsvh (fun x hx => by cases hx) (glob h hG) (Nat.zero_le _)) rfl (fun b27 p27 => ?_)
   haveI : OneC (reP (sgP (P0 f a b l) hp s ht idx) b27).c := reP_one p27.1
   refine wpl_q (q_pure rfl) rfl <| wpl_q (q_pure rfl) rfl <| wpl_q (q_pure rfl) rfl ?_
   refine wpl_t (t_alloc Tryd.ti29 Pth.z.c rfl) rfl (fun b13 => ?_)
   refine wpl_t0 (t_stA Tryd.ti29 rfl rfl LenC.h OneC.h LenC.h) (fun _ => ?_)
   refine wpl_q (q_pure rfl) rfl <| wpl_nil <| ex_then <| wpc_seq <| wpc_region <| wpl_q (q_ldN Tryd.underlying29 rfl Tryd.ti29 rfl LenC.h) rfl <| wpl_q (q_pure rfl) rfl ?_
   refine wpl_t0 (t_stA Tryd.ti29 rfl rfl LenC.h OneC.h LenC.h) (fun _ => ?_)
   refine wpl_q (q_pure rfl) rfl <| wpl_nil <| ex_then <| wpc_ret ?_
   refine retv2 (.inl rfl) rfl (rv_agg Tryd.underlying29 rfl Tryd.ti29 rfl (fun w h => h.atB) zz2) (rv_tmp rfl) ?_
   exact fun w1 h => ⟨b27, by rw [stP_ok hk]; exact p27, by rw [stP_ok hk, stE_ok hk]; rfl, h.below, by rw [stP_ok hk]; exact h.made zz8 zz8⟩
theorem refStart (f : UInt8) (a b : UInt64) (l : Int) (hp : Hop) (s : S16) (ht : Int) (idx : Int) (w : World) (hsvh : hp.sv)  :
    Calls Tryd.prog 27 [.agg (pfL f a b l).toArray, .agg hp.c.toArray, .agg (v8s s.1).toArray, .int .i64 ht, .int .i64 idx].toArray w (GivesP w (fun x : Value × List Hop => SV x.1 (stP f a b l hp s ht idx).hs.length ∧ HsEqv (stP f a b l hp s ht idx).hs x.2) (fun x => .tuple #[.agg (reP (stP f a b l hp s ht idx) x).c.toArray, .int .i64 (stE f a b l hp ht idx)]) (fun x => [.row x.1 (stP f a b l hp s ht idx).hs.length 68 24 (hcs x.2)]) (fun x => [hopsF x.2])) := by
  haveI := hsvh.one
  refine enter (m := 28) (R := Mem w [] [] []) Tryd.func27 rfl rfl (Nat.le_of_ble_eq_true rfl) (Mem.start w) ?_
  refine wpc_seq <| wpc_region ?_
  refine wpl_t (t_box rfl (pfL f a b l) rfl) rfl (fun b5 => ?_)
  refine wpl_t (t_box rfl hp.c rfl) rfl (fun b6 => ?_)
  refine wpl_t (t_box rfl (v8s s.1) rfl) rfl (fun b7 => ?_)
  refine wpl_t (t_alloc Tryd.ti29 Pth.z.c rfl) rfl (fun b10 => ?_)
  refine wpl_q (q_pure rfl) rfl <| wpl_nil <| ex_then <| wpc_seq <| wpc_region <| wpl_q (q_ldN Tryd.underlying26 rfl Tryd.ti26 rfl LenC.h) rfl ?_
  refine wpl_t (t_pur Tryd.hb44 rfl fun w h => refCheck1 f a b l w) rfl (fun b14 => ?_)
  refine wpl_q (q_pure rfl) rfl <| wpl_nil <| ex_then <| wpc_seq <| wpc_seq <| wpc_region <| wpl_q (q_pure rfl) rfl <| wpl_q (q_pure rfl) rfl <| wpl_nil <| ex_then ?_
  refine wpc_cond rfl (fun hc16 => ?_) (fun hc16 => ?_)
  ·
   have hk : pfxF f a b l ≠ 0 := by simpa using hc16
   have hV : stE f a b l hp ht idx = pfxF f a b l := stE_no hk
   refine wpc_seq <| wpc_region ?_
   refine wpl_q (q_build (cs := Pth.z.c) rfl built_pz) rfl ?_
   refine wpl_q (q_pure rfl) rfl ?_
   refine wpl_t0 (t_stA Tryd.ti29 rfl rfl LenC.h OneC.h LenC.h) (fun _ => ?_)
   refine wpl_q (q_pure rfl) rfl <| wpl_nil <| ex_then <| wpc_ret ?_
   refine ex_then_ret ?_
   refine retv2 (.inl rfl) rfl (rv_agg Tryd.underlying29 rfl Tryd.ti29 rfl (fun w h => h.atB) zz2) (rv_tmp rfl) ?_
   exact fun w1 h => ⟨(.slice none 0 0, []), ⟨by rw [stP_no hk]; exact SV.nil, by rw [stP_no hk]; exact ⟨rfl, fun i hi => by cases hi⟩⟩, by rw [stP_no hk, hV]; rfl, h.below, by rw [stP_no hk]; exact er_made h⟩
  ·
   have hk : ¬ pfxF f a b l ≠ 0 := by simpa using hc16
   refine wpc_skip <| ex_then <| wpc_seq <| wpc_region <| wpl_q (q_ldN Tryd.underlying26 rfl Tryd.ti26 rfl LenC.h) rfl ?_
   refine wpl_q (q_build (cs := (P0 f a b l).c) rfl (built_pre f a b l)) rfl ?_
   refine wpl_q (q_ldN Tryd.underlying68 rfl Tryd.ti68 rfl LenC.h) rfl <| wpl_q (q_ldN Tryd.underlying61 rfl Tryd.ti61 rfl LenC.h) rfl <| wpl_q (q_pure rfl) rfl <| wpl_q (q_pure rfl) rfl ?_
   refine wpl_tp (t_callPF Tryd.hb53 rfl fun w h => refSignP (P0 f a b l) hp s ht idx w (p0_seen _) hsvh (fun x hx => by cases hx) (Nat.zero_le _)) rfl (fun b25 p25 => ?_)
   haveI : OneC (reP (sgP (P0 f a b l) hp s ht idx) b25).c := reP_one p25.1
   refine wpl_q (q_pure rfl) rfl <| wpl_q (q_pure rfl) rfl ?_
   refine wpl_t0 (t_stA Tryd.ti29 rfl rfl LenC.h OneC.h LenC.h) (fun _ => ?_)
   refine wpl_q (q_pure rfl) rfl <| wpl_nil <| ex_then <| wpc_ret ?_
   refine retv2 (.inl rfl) rfl (rv_agg Tryd.underlying29 rfl Tryd.ti29 rfl (fun w h => h.atB) zz2) (rv_tmp rfl) ?_
   exact fun w1 h => ⟨b25, by rw [stP_ok hk]; exact p25, by rw [stP_ok hk, stE_ok hk]; rfl, h.below, by rw [stP_ok hk]; exact h.made zz8 zz8⟩
end Go.Proofs.YtjpfhkjmjnjggaaDoor
