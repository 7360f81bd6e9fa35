/- What the statement reaches, in order. -/
import Derived.Test.YtjpfhkjmjnjggaaDoorMETI
import Derived.Test.YtjpfhkjmjnjggaaDoorMEPLI
import Derived.Test.YtjpfhkjmjnjggaaDoorMEPLZ
import Derived.Test.YtjpfhkjmjnjggaaDoorMEPLL
import Derived.Test.YtjpfhkjmjnjggaaDoorMEPLN
import Derived.Test.YtjpfhkjmjnjggaaDoorMEPLP
import Derived.WalkKit
import Derived.ProofKit
import Derived.OpenShut
import Derived.ChangeOld
import Derived.Below
import Derived.Carry
import Derived.LaidMore
import Derived.Deep.DeepHandedRow
import Derived.Deep.DeepWitnessRowRef
import Derived.Lib.LaidTab
import Derived.Stop.Joined
import Derived.Test.YtjpfhkjmjnjggaaDoorME4
set_option linter.unusedSimpArgs false
set_option linter.unusedVariables false
set_option maxRecDepth 100000
namespace Go.Proofs.YtjpfhkjmjnjggaaDoor
open Go Go.PL Go.RowKit
instance lenC_kz : LenC (v8s (List.replicate 16 0) ++ [Value.int .i64 0]) 17 := ⟨rfl⟩
theorem Pth.c_hv (p : Pth) : p.c[4]? = some p.hv := rfl
theorem TwoP.msg0 {p : Pth} (t : TwoP p) : msgE p 0 = 0 ∧ msgV p 0 = msgB p 0 := t.msg 0 zz19
theorem TwoP.msg1 {p : Pth} (t : TwoP p) : msgE p 1 = 0 ∧ msgV p 1 = msgB p 1 := t.msg 1 zz19
theorem rk_ne {a b : UInt32} {s t : S16} {h k : Int} (e : a ≠ b) : rkS a s h ≠ rkS b t k := fun q => e (congrArg Prod.fst q)
theorem two_bad : ¬ ((30 : UInt32) = 30 ∧ rkS 10 (sB 1) 0 ∈ [rkS 10 (sB 1) 0, rkS 21 (sB 2) 0] ∧ rkS 20 (sB 2) 0 ∈ [rkS 10 (sB 1) 0, rkS 21 (sB 2) 0]) := by
  rintro ⟨-, -, h⟩
  simp only [List.mem_cons, List.not_mem_nil, or_false] at h
  rcases h with h | h
  · exact rk_ne zz19 h
  · exact rk_ne zz19 h
theorem ten  (w : World)   :
    Calls Tryd.prog 32 [].toArray w (Pur w (.agg (pfL 4 0 167772160 8).toArray)) := by
  refine enter (m := 3) (R := Mem w [] [] []) Tryd.func32 rfl rfl (Nat.le_of_ble_eq_true rfl) (Mem.start w) ?_
  refine wpc_seq <| wpc_region ?_
  refine wpl_t (t_alloc Tryd.ti26 (pfL 0 0 0 0) rfl) rfl (fun b0 => ?_)
  refine wpl_nil <| ex_then <| wpc_seq <| wpc_region ?_
  refine wpl_q (q_build (cs := adL 0 167772160) rfl zz5) rfl ?_
  refine wpl_q (q_build (cs := pfL 4 0 167772160 8) rfl zz5) rfl ?_
  refine wpl_t0 (t_stA Tryd.ti26 rfl rfl LenC.h OneC.h LenC.h) (fun _ => ?_)
  refine wpl_nil <| ex_then <| wpc_ret ?_
  refine retv1 (.inl rfl) rfl (rv_agg Tryd.underlying26 rfl Tryd.ti26 rfl (fun w h => h.atB) zz0) ?_
  exact fun w h => ⟨rfl, h.below⟩
theorem two_  (w : World)  (hG : Glb w) :
    Calls Tryd.prog 30 [].toArray w (GivesP w (fun p : Pth => SV p.hv p.hs.length ∧ TwoP p) (fun p => .tuple #[.agg p.c.toArray, .bool true]) (fun p => [.row p.hv p.hs.length 68 24 (hcs p.hs)]) (fun p => [hopsF p.hs])) := by
  refine enter (m := 33) (R := Mem w [] [] []) Tryd.func30 rfl rfl (Nat.le_of_ble_eq_true rfl) (Mem.start w) ?_
  refine wpc_seq <| wpc_region ?_
  refine wpl_t (t_alloc Tryd.ti29 Pth.z.c rfl) rfl (fun b0 => ?_)
  refine wpl_q (q_pure rfl) rfl <| wpl_nil <| ex_then <| wpc_seq <| wpc_region ?_
  refine wpl_t (t_pur Tryd.hb32 rfl fun w h => ten w) rfl (fun b7 => ?_)
  refine wpl_q (q_build (cs := hpA.c) rfl built_hpA) rfl ?_
  refine wpl_q (q_build (cs := v8s (sB 1).1) rfl (built_array Tryd.underlying61 Tryd.ti61 Tryd.ti5 rfl)) rfl ?_
  refine wpl_tp (t_callPF Tryd.hb26 rfl fun w h => by
    have q := start 4 0 167772160 8 hpA (sB 1) 0 0 w hpA_sv (glob h hG)
    rw [st_ok] at q
    exact q) rfl (fun b10 p10 => ?_)
  haveI : OneC (reP (stP 4 0 167772160 8 hpA (sB 1) 0 0) b10).c := reP_one p10.1
  obtain ⟨g1, l1, q1⟩ := st_gd st_ok p10.2
  have l1x : (reP (stP 4 0 167772160 8 hpA (sB 1) 0 0) b10).hs.length = 1 := l1
  have hex := ex_ok g1 l1x
  refine wpl_q (q_pure rfl) rfl <| wpl_q (q_pure rfl) rfl <| wpl_q (q_pure rfl) rfl ?_
  refine wpl_t (t_alloc Tryd.ti29 Pth.z.c rfl) rfl (fun b2 => ?_)
  refine wpl_t0 (t_stA Tryd.ti29 rfl rfl LenC.h OneC.h LenC.h) (fun _ => ?_)
  refine wpl_q (q_pure rfl) rfl <| wpl_nil <| ex_then <| wpc_seq <| wpc_region <| wpl_q (q_ldN Tryd.underlying29 rfl Tryd.ti29 rfl LenC.h) rfl ?_
  refine wpl_q (q_build (cs := hpB.c) rfl built_hpB) rfl ?_
  refine wpl_q (q_build (cs := v8s (sB 2).1) rfl (built_array Tryd.underlying61 Tryd.ti61 Tryd.ti5 rfl)) rfl ?_
  refine wpl_tp (t_callPF Tryd.hb28 rfl fun w h => by
    have q := extend (reP (stP 4 0 167772160 8 hpA (sB 1) 0 0) b10) hpB (sB 2) 0 0 w (reP_seen p10.2 (h.seen_row zz7) (hopsF_at h zz7)) hpB_sv (chk_small g1.1) (glob h hG) zz13
    rw [hex] at q
    exact q) rfl (fun b17 p17 => ?_)
  haveI : OneC (reP (exP (reP (stP 4 0 167772160 8 hpA (sB 1) 0 0) b10) hpB (sB 2) 0 0) b17).c := reP_one p17.1
  have t2 := two_ok p10.2 p17.2
  have l2 : b17.2.length = 2 := t2.len
  have l3x := l2
  have svb : SV b17.1 2 := by rw [← p17.2.1.trans l2]; exact p17.1
  have l3 : (exP (reP (stP 4 0 167772160 8 hpA (sB 1) 0 0) b10) hpB (sB 2) 0 0).hs.length = 2 := p17.2.1.trans l2
  refine wpl_q (q_pure rfl) rfl <| wpl_q (q_pure rfl) rfl <| wpl_q (q_pure rfl) rfl ?_
  refine wpl_t (t_alloc Tryd.ti29 Pth.z.c rfl) rfl (fun b4 => ?_)
  refine wpl_t0 (t_stA Tryd.ti29 rfl rfl LenC.h OneC.h LenC.h) (fun _ => ?_)
  refine wpl_q (q_pure rfl) rfl <| wpl_nil <| ex_then <| wpc_seq ?_
  refine wpc_drawM [.blk b4 29 (reP (exP (reP (stP 4 0 167772160 8 hpA (sB 1) 0 0) b10) hpB (sB 2) 0 0) b17).c] 99 zz5 zz8 ?_
  refine wpd_q 0 rfl zz5 trivial (q_ldN Tryd.underlying29 rfl Tryd.ti29 rfl LenC.h) rfl (fun w h => h.sub SubC.h SubC.h) ?_
  refine wpd_p 1 rfl zz5 trivial (q_pure rfl) rfl (fun w h => .inr (h.sub SubC.h SubC.h)) ?_
  refine wpd_p 2 rfl zz5 trivial (q_tru (q_eqI rfl rfl) rfl) rfl (fun w h => .inr (h.sub SubC.h SubC.h)) ?_
  refine wpd_p 3 rfl zz5 trivial (q_pure rfl) rfl (fun w h => .inr (h.sub SubC.h SubC.h)) ?_
  refine wpd_p 4 rfl zz5 ⟨_, rfl, rfl⟩ (q_pure rfl) rfl (fun w h => .inr (h.sub SubC.h SubC.h)) ?_
  refine wpd_p 5 rfl zz5 ⟨_, rfl, rfl⟩ (q_tru (q_eqI rfl rfl) rfl) rfl (fun w h => .inr (h.sub SubC.h SubC.h)) ?_
  refine wpd_p 6 rfl zz5 trivial (q_pure rfl) rfl (fun w h => .inr (h.sub SubC.h SubC.h)) ?_
  refine wpd_p 7 rfl zz5 trivial (q_pure rfl) rfl (fun w h => .inr (h.sub SubC.h SubC.h)) ?_
  refine wpd_p 8 rfl zz5 ⟨_, rfl, rfl⟩ (q_field Tryd.underlying29 rfl Tryd.ti27 rfl rfl _ rfl) rfl (fun w h => .inr (h.sub SubC.h SubC.h)) ?_
  refine wpd_q 9 rfl zz5 ⟨_, rfl, rfl⟩ (q_ld Tryd.underlying27 rfl rfl (Pth.c_hv (reP (exP (reP (stP 4 0 167772160 8 hpA (sB 1) 0 0) b10) hpB (sB 2) 0 0) b17))) rfl (fun w h => h.sub SubC.h SubC.h) ?_
  refine wpd_p 10 rfl zz5 ⟨_, rfl, rfl⟩ (q_lenW Tryd.underlying27 rfl zz4) rfl (fun w h => .inr (h.sub SubC.h SubC.h)) ?_
  refine wpd_p 11 rfl zz5 ⟨_, rfl, rfl⟩ (q_tru (q_eqI rfl rfl) rfl) rfl (fun w h => .inr (h.sub SubC.h SubC.h)) ?_
  refine wpd_p 12 rfl zz5 trivial (q_pure rfl) rfl (fun w h => .inr (h.sub SubC.h SubC.h)) ?_
  refine wpd_t0 13 rfl zz5 trivial (t_stA Tryd.ti29 rfl rfl LenC.h OneC.h LenC.h) (fun _ => (fun w h => .inr (h.sub SubC.h SubC.h))) (fun _ => ?_)
  refine wpd_p 14 rfl zz5 trivial (q_pure rfl) rfl (fun w h => .inr (h.sub SubC.h SubC.h)) ?_
  refine wpd_done zz5 ?_
  refine ex_then <| wpc_ret ?_
  refine retv2 (.inl rfl) rfl (rv_agg Tryd.underlying29 rfl Tryd.ti29 rfl (fun w h => h.atB) zz0) (rv_tmp rfl) ?_
  exact fun w h => ⟨(reP (exP (reP (stP 4 0 167772160 8 hpA (sB 1) 0 0) b10) hpB (sB 2) 0 0) b17), ⟨by show SV b17.1 b17.2.length; rw [l2, ← l3]; exact p17.1, t2⟩, rfl, h.below, by
    have h2 := h.made (N := [.row b17.1 (exP (reP (stP 4 0 167772160 8 hpA (sB 1) 0 0) b10) hpB (sB 2) 0 0).hs.length 68 24 (hcs b17.2)]) (T := [hopsF b17.2]) zz8 zz8
    rw [l3] at h2
    show New _ [.row b17.1 b17.2.length _ 24 _] _ _
    rw [l2]; exact h2⟩
theorem key_ (x : UInt8) (w : World)  (hG : Glb w) :
    Calls Tryd.prog 31 [.int .u8 x.toNat].toArray w (Pur w (.agg (v8s (keyR (sB x).1 0) ++ [Value.int .i64 (keyH 0)]).toArray)) := by
  refine enter (m := 12) (R := Mem w [] [] []) Tryd.func31 rfl rfl (Nat.le_of_ble_eq_true rfl) (Mem.start w) ?_
  refine wpc_seq <| wpc_region ?_
  refine wpl_t (t_alloc Tryd.ti63 (v8s (List.replicate 16 0) ++ [.int .i64 0]) rfl) rfl (fun b2 => ?_)
  refine wpl_nil <| ex_then <| wpc_seq <| wpc_region <| wpl_q (q_pure rfl) rfl ?_
  refine wpl_q (q_build (cs := v8s (sB x).1) rfl (built_array Tryd.underlying61 Tryd.ti61 Tryd.ti5 rfl)) rfl ?_
  refine wpl_t (t_pur Tryd.hb54 rfl fun w h => key7 (sB x).1 0 w (sB x).2 (glob h hG)) rfl (fun b8 => ?_)
  refine wpl_q (q_pure rfl) rfl <| wpl_q (q_pure rfl) rfl <| wpl_q (q_pure rfl) rfl ?_
  refine wpl_t (t_alloc Tryd.ti63 (v8s (List.replicate 16 0) ++ [.int .i64 0]) rfl) rfl (fun b3 => ?_)
  refine wpl_t0 (t_stA Tryd.ti63 rfl rfl LenC.h OneC.h LenC.h) (fun _ => ?_)
  refine wpl_q (q_pure rfl) rfl <| wpl_nil <| ex_then <| wpc_seq <| wpc_region <| wpl_q (q_ldN Tryd.underlying63 rfl Tryd.ti63 rfl LenC.h) rfl ?_
  refine wpl_t0 (t_stA Tryd.ti63 rfl rfl LenC.h OneC.h LenC.h) (fun _ => ?_)
  refine wpl_nil <| ex_then <| wpc_ret ?_
  refine retv1 (.inl rfl) rfl (rv_agg Tryd.underlying63 rfl Tryd.ti63 rfl (fun w h => h.atB) zz0) ?_
  exact fun w h => ⟨rfl, h.below⟩
theorem is_ (p : Pth) (to : UInt32) (want : UInt8) (kv : Value) (ks : List RK) (w : World) (hp : p.seen w.cell?) (hkv : Seen w.cell? kv ks.length 18 (rks ks)) (hlim : SmP p) (hG : Glb w) (hkl : ks.length ≤ 100) :
    Calls Tryd.prog 33 [.agg p.c.toArray, .int .u32 to.toNat, .int .u8 want.toNat, kv].toArray w (Pur w (.bool (decide (vrV p to ks = want)))) := by
  obtain ⟨pf, pa, pb, pl, hv, hs⟩ := p
  have hh : Seen w.cell? hv hs.length 24 (hcs hs) := hp.1
  have svh := hh.sv
  have lh := svh.le
  simp only [maxLen] at lh
  have skv := hkv.sv
  have lkv := skv.le
  simp only [maxLen] at lkv
  refine enter (m := 25) (R := Mem w [] [] []) Tryd.func33 rfl rfl (Nat.le_of_ble_eq_true rfl) (Mem.start w) ?_
  refine wpc_seq <| wpc_region ?_
  refine wpl_t (t_box rfl [.int .u8 (pf.toNat : Int), .int .u64 (pa.toNat : Int), .int .u64 (pb.toNat : Int), .int .i64 pl, hv] rfl) rfl (fun b4 => ?_)
  refine wpl_q (q_pure rfl) rfl <| wpl_nil <| ex_then <| wpc_seq <| wpc_region <| wpl_q (q_ldN Tryd.underlying29 rfl Tryd.ti29 rfl LenC.h) rfl <| wpl_q (q_pure rfl) rfl <| wpl_q (q_pure rfl) rfl ?_
  refine wpl_t (t_pur Tryd.hb24 rfl fun w h => by
    have q := verify42 ⟨pf, pa, pb, pl, hv, hs⟩ to kv ks w (hp.old h) (h.seen_old hkv) hlim (glob h hG)
    rw [vrE_ok (show ¬ 100 < ks.length from zz13)] at q
    exact q) rfl (fun b15 => ?_)
  refine wpl_q (q_pure rfl) rfl <| wpl_q (q_pure rfl) rfl <| wpl_q (q_pure rfl) rfl <| wpl_q (q_pure rfl) rfl <| wpl_q (q_pure rfl) rfl <| wpl_nil <| ex_then <| wpc_seq <| wpc_region <| wpl_q (q_pure rfl) rfl <| wpl_q (q_tru (q_eqI rfl rfl) rfl) rfl <| wpl_q (q_pure rfl) rfl ?_
  refine wpl_on rfl rfl <| wpl_q (q_pure rfl) rfl <| wpl_on rfl rfl <| wpl_q (q_pure rfl) rfl <| wpl_on rfl rfl <| wpl_q (q8_eql rfl rfl) rfl <| wpl_q (q_pure rfl) rfl <| wpl_q (q_pure rfl) rfl <| wpl_nil <| ex_then <| wpc_ret ?_
  refine ret1 (.inl rfl) rfl rfl ?_
  exact fun w h => ⟨rfl, h.below⟩
theorem alive  (w : World)  (hG : Glb w) :
    Calls Tryd.prog 34 [].toArray w (Pur w (.bool true)) := by
  refine enter (m := 84) (R := Mem w [] [] []) Tryd.func34 rfl rfl (Nat.le_of_ble_eq_true rfl) (Mem.start w) ?_
  refine wpc_seq <| wpc_region <| wpl_q (q_pure rfl) rfl <| wpl_nil <| ex_then <| wpc_seq <| wpc_region ?_
  refine wpl_tp (t_callPF Tryd.hb30 rfl fun w h => two_ w (glob h hG)) rfl (fun b12 p12 => ?_)
  haveI : OneC b12.c := Pth.sv.one p12.1
  have t2 := p12.2
  have l2 := t2.len
  refine wpl_q (q_pure rfl) rfl <| wpl_q (q_pure rfl) rfl <| wpl_q (q_pure rfl) rfl ?_
  refine wpl_t (t_alloc Tryd.ti29 Pth.z.c rfl) rfl (fun b1 => ?_)
  refine wpl_t0 (t_stA Tryd.ti29 rfl rfl LenC.h OneC.h LenC.h) (fun _ => ?_)
  refine wpl_q (q_pure rfl) rfl <| wpl_nil <| ex_then <| wpc_seq <| wpc_region ?_
  refine wpl_t (t_pur Tryd.hb31 rfl fun w h => key_ 1 w (glob h hG)) rfl (fun b15 => ?_)
  refine wpl_q (q_build (cs := RK.c (rkS 10 (sB 1) 0)) rfl (built_rk 10 ⟨keyR (sB 1).1 0, keyR_l _ _⟩ (keyH 0))) rfl ?_
  refine wpl_t (t_pur Tryd.hb31 rfl fun w h => key_ 2 w (glob h hG)) rfl (fun b17 => ?_)
  refine wpl_q (q_build (cs := RK.c (rkS 20 (sB 2) 0)) rfl (built_rk 20 ⟨keyR (sB 2).1 0, keyR_l _ _⟩ (keyH 0))) rfl ?_
  refine wpl_t (t_alloc Tryd.ti80 RK.z.c rfl) rfl (fun b3 => ?_)
  refine wpl_t (t_alloc Tryd.ti80 RK.z.c rfl) rfl (fun b4 => ?_)
  refine wpl_t0 (t_stA Tryd.ti80 rfl rfl LenC.h OneC.h LenC.h) (fun _ => ?_)
  refine wpl_t0 (t_stA Tryd.ti80 rfl rfl LenC.h OneC.h LenC.h) (fun _ => ?_)
  refine wpl_nil <| ex_then <| wpc_seq <| wpc_region <| wpl_q (q_ldN Tryd.underlying29 rfl Tryd.ti29 rfl LenC.h) rfl ?_
  refine wpl_tp (t_callP1 Tryd.hb15 rfl fun w h => by
    have q := systems b12 w ⟨h.seen_row zz7, hopsF_at h zz7⟩
    rw [t2.sys.1, t2.sys.2] at q
    exact q) rfl (fun b21 p21 => ?_)
  refine wpl_q (q_pure rfl) rfl <| wpl_q (q_pure rfl) rfl <| wpl_q (q_pure rfl) rfl <| wpl_q (q_pure rfl) rfl <| wpl_q (q_pure rfl) rfl <| wpl_nil <| ex_then <| wpc_seq <| wpc_region <| wpl_q (q_ldN Tryd.underlying29 rfl Tryd.ti29 rfl LenC.h) rfl ?_
  refine wpl_tp (t_callP1 Tryd.hb13 rfl fun w h => by
    have q := hopMessage b12 0 w ⟨h.seen_row zz7, hopsF_at h zz7⟩ t2.sm (glob h hG)
    rw [t2.msg0.1, t2.msg0.2, t2.m0] at q
    exact q) rfl (fun b26 p26 => ?_)
  refine wpl_q (q_pure rfl) rfl <| wpl_q (q_pure rfl) rfl <| wpl_q (q_pure rfl) rfl <| wpl_q (q_pure rfl) rfl <| wpl_q (q_pure rfl) rfl <| wpl_nil <| ex_then <| wpc_seq <| wpc_region <| wpl_q (q_ldN Tryd.underlying29 rfl Tryd.ti29 rfl LenC.h) rfl ?_
  refine wpl_tp (t_callP1 Tryd.hb13 rfl fun w h => by
    have q := hopMessage b12 1 w ⟨h.seen_row zz7, hopsF_at h zz7⟩ t2.sm (glob h hG)
    rw [t2.msg1.1, t2.msg1.2, t2.m1] at q
    exact q) rfl (fun b31 p31 => ?_)
  refine wpl_q (q_pure rfl) rfl <| wpl_q (q_pure rfl) rfl <| wpl_q (q_pure rfl) rfl <| wpl_q (q_pure rfl) rfl <| wpl_q (q_pure rfl) rfl <| wpl_nil <| ex_then <| wpc_seq ?_
  refine wpc_draw 51 zz5 (fun _ h => h.drew) ?_
  refine wpd_p 0 rfl zz5 trivial (q_pure rfl) rfl sk0 ?_
  refine wpd_p 1 rfl zz5 trivial (q_pure rfl) rfl sk0 ?_
  refine wpd_p 2 rfl zz5 ⟨_, rfl, rfl⟩ (q_pure rfl) rfl sk0 ?_
  refine wpd_p 3 rfl zz5 ⟨_, rfl, rfl⟩ (q_tru (q_eqI rfl rfl) rfl) rfl sk0 ?_
  refine wpd_p 4 rfl zz5 trivial (q_pure rfl) rfl sk0 ?_
  refine wpd_p 5 rfl zz5 trivial (q_pure rfl) rfl sk0 ?_
  refine wpd_p 6 rfl zz5 ⟨_, rfl, rfl⟩ (q_pure rfl) rfl sk0 ?_
  refine wpd_tp 7 rfl zz5 ⟨_, rfl, rfl⟩ (t_bsV (v32s [(20 : UInt32), (20 : UInt32), (10 : UInt32)]) Tryd.underlying38 Tryd.ti49 rfl rfl zz19 zz19 rfl (v32s_one _)) rfl (fun _ => (fun w h => .inr (h.sub SubC.h SubC.h))) (fun b41 p41 => ?_)
  refine wpd_t 8 rfl zz5 ⟨_, rfl, rfl⟩ (t_pur (v := .bool true) Tryd.hb20 rfl fun w h => by
    have q := refSameSystems b21 [20, 20, 10] b41 [20, 20, 10] w (h.seen_row zz7) (h.seen_row zz7)
    rwa [decide_eq_true rfl] at q) rfl (fun _ => (fun w h => .inr (h.sub SubC.h SubC.h))) (fun b42 => ?_)
  refine wpd_p 9 rfl zz5 trivial (q_pure rfl) rfl (fun w h => .inr (h.sub SubC.h SubC.h)) ?_
  refine wpd_p 10 rfl zz5 trivial (q_pure rfl) rfl (fun w h => .inr (h.sub SubC.h SubC.h)) ?_
  refine wpd_p 11 rfl zz5 ⟨_, rfl, rfl⟩ (q_pure rfl) rfl (fun w h => .inr (h.sub SubC.h SubC.h)) ?_
  refine wpd_p 12 rfl zz5 ⟨_, rfl, rfl⟩ (q_tru (q_eqI rfl rfl) rfl) rfl (fun w h => .inr (h.sub SubC.h SubC.h)) ?_
  refine wpd_p 13 rfl zz5 trivial (q_pure rfl) rfl (fun w h => .inr (h.sub SubC.h SubC.h)) ?_
  refine wpd_p 14 rfl zz5 trivial (q_pure rfl) rfl (fun w h => .inr (h.sub SubC.h SubC.h)) ?_
  refine wpd_p 15 rfl zz5 ⟨_, rfl, rfl⟩ (q_pure rfl) rfl (fun w h => .inr (h.sub SubC.h SubC.h)) ?_
  refine wpd_p 16 rfl zz5 ⟨_, rfl, rfl⟩ (q_lenW Tryd.underlying32 rfl zz4) rfl (fun w h => .inr (h.sub SubC.h SubC.h)) ?_
  refine wpd_p 17 rfl zz5 ⟨_, rfl, rfl⟩ (q_tru (q_eqI rfl rfl) rfl) rfl (fun w h => .inr (h.sub SubC.h SubC.h)) ?_
  refine wpd_p 18 rfl zz5 trivial (q_pure rfl) rfl (fun w h => .inr (h.sub SubC.h SubC.h)) ?_
  refine wpd_p 19 rfl zz5 trivial (q_pure rfl) rfl (fun w h => .inr (h.sub SubC.h SubC.h)) ?_
  refine wpd_p 20 rfl zz5 ⟨_, rfl, rfl⟩ (q_pure rfl) rfl (fun w h => .inr (h.sub SubC.h SubC.h)) ?_
  refine wpd_p 21 rfl zz5 ⟨_, rfl, rfl⟩ (q_tru (q_eqI rfl rfl) rfl) rfl (fun w h => .inr (h.sub SubC.h SubC.h)) ?_
  refine wpd_p 22 rfl zz5 trivial (q_pure rfl) rfl (fun w h => .inr (h.sub SubC.h SubC.h)) ?_
  refine wpd_p 23 rfl zz5 trivial (q_pure rfl) rfl (fun w h => .inr (h.sub SubC.h SubC.h)) ?_
  refine wpd_p 24 rfl zz5 ⟨_, rfl, rfl⟩ (q_pure rfl) rfl (fun w h => .inr (h.sub SubC.h SubC.h)) ?_
  refine wpd_p 25 rfl zz5 ⟨_, rfl, rfl⟩ (q_lenW Tryd.underlying32 rfl zz4) rfl (fun w h => .inr (h.sub SubC.h SubC.h)) ?_
  refine wpd_p 26 rfl zz5 ⟨_, rfl, rfl⟩ (q_tru (q_eqI rfl rfl) rfl) rfl (fun w h => .inr (h.sub SubC.h SubC.h)) ?_
  refine wpd_p 27 rfl zz5 trivial (q_pure rfl) rfl (fun w h => .inr (h.sub SubC.h SubC.h)) ?_
  refine wpd_p 28 rfl zz5 trivial (q_pure rfl) rfl (fun w h => .inr (h.sub SubC.h SubC.h)) ?_
  refine wpd_q 29 rfl zz5 ⟨_, rfl, rfl⟩ (q_ldN Tryd.underlying29 rfl Tryd.ti29 rfl LenC.h) rfl (fun w h => h.sub SubC.h SubC.h) ?_
  refine wpd_q 30 rfl zz5 ⟨_, rfl, rfl⟩ (q_ldN Tryd.underlying80 rfl Tryd.ti80 rfl LenC.h) rfl (fun w h => h.sub SubC.h SubC.h) ?_
  refine wpd_q 31 rfl zz5 ⟨_, rfl, rfl⟩ (q_ldN Tryd.underlying80 rfl Tryd.ti80 rfl LenC.h) rfl (fun w h => h.sub SubC.h SubC.h) ?_
  refine wpd_tp 32 rfl zz5 ⟨_, rfl, rfl⟩ (t_bsG [.agg (RK.c (rkS 10 (sB 1) 0)).toArray, .agg (RK.c (rkS 20 (sB 2) 0)).toArray] (rks [(rkS 10 (sB 1) 0), (rkS 20 (sB 2) 0)]) Tryd.underlying50 Tryd.ti80 rfl zz19 rfl zz19 zz19 rfl zz42 rfl) rfl (fun _ => (fun w h => .inr (h.sub SubC.h SubC.h))) (fun b66 p66 => ?_)
  refine wpd_t 33 rfl zz5 ⟨_, rfl, rfl⟩ (t_pur (v := .bool true) Tryd.hb33 rfl fun w h => by
    have q := is_ b12 30 1 b66 [(rkS 10 (sB 1) 0), (rkS 20 (sB 2) 0)] w ⟨h.seen_row zz7, hopsF_at h zz7⟩ (h.seen_row zz7) t2.sm (glob h hG) zz19
    rwa [decide_eq_true ((t2.vr zz19 _).2 ⟨rfl, zz38, zz38⟩)] at q) rfl (fun _ => (fun w h => .inr (h.sub SubC.h SubC.h))) (fun b67 => ?_)
  refine wpd_p 34 rfl zz5 trivial (q_pure rfl) rfl (fun w h => .inr (h.sub SubC.h SubC.h)) ?_
  refine wpd_p 35 rfl zz5 trivial (q_pure rfl) rfl (fun w h => .inr (h.sub SubC.h SubC.h)) ?_
  refine wpd_q 36 rfl zz5 ⟨_, rfl, rfl⟩ (q_ldN Tryd.underlying29 rfl Tryd.ti29 rfl LenC.h) rfl (fun w h => h.sub SubC.h SubC.h) ?_
  refine wpd_q 37 rfl zz5 ⟨_, rfl, rfl⟩ (q_ldN Tryd.underlying80 rfl Tryd.ti80 rfl LenC.h) rfl (fun w h => h.sub SubC.h SubC.h) ?_
  refine wpd_q 38 rfl zz5 ⟨_, rfl, rfl⟩ (q_ldN Tryd.underlying80 rfl Tryd.ti80 rfl LenC.h) rfl (fun w h => h.sub SubC.h SubC.h) ?_
  refine wpd_tp 39 rfl zz5 ⟨_, rfl, rfl⟩ (t_bsG [.agg (RK.c (rkS 10 (sB 1) 0)).toArray, .agg (RK.c (rkS 20 (sB 2) 0)).toArray] (rks [(rkS 10 (sB 1) 0), (rkS 20 (sB 2) 0)]) Tryd.underlying50 Tryd.ti80 rfl zz19 rfl zz19 zz19 rfl zz42 rfl) rfl (fun _ => (fun w h => .inr (h.sub SubC.h SubC.h))) (fun b73 p73 => ?_)
  refine wpd_t 40 rfl zz5 ⟨_, rfl, rfl⟩ (t_pur (v := .bool true) Tryd.hb33 rfl fun w h => by
    have q := is_ b12 40 2 b73 [(rkS 10 (sB 1) 0), (rkS 20 (sB 2) 0)] w ⟨h.seen_row zz7, hopsF_at h zz7⟩ (h.seen_row zz7) t2.sm (glob h hG) zz19
    rwa [decide_eq_true (t2.no zz19 (fun q => absurd q.1 zz19))] at q) rfl (fun _ => (fun w h => .inr (h.sub SubC.h SubC.h))) (fun b74 => ?_)
  refine wpd_p 41 rfl zz5 trivial (q_pure rfl) rfl (fun w h => .inr (h.sub SubC.h SubC.h)) ?_
  refine wpd_p 42 rfl zz5 trivial (q_pure rfl) rfl (fun w h => .inr (h.sub SubC.h SubC.h)) ?_
  refine wpd_q 43 rfl zz5 ⟨_, rfl, rfl⟩ (q_ldN Tryd.underlying29 rfl Tryd.ti29 rfl LenC.h) rfl (fun w h => h.sub SubC.h SubC.h) ?_
  refine wpd_q 44 rfl zz5 ⟨_, rfl, rfl⟩ (q_ldN Tryd.underlying80 rfl Tryd.ti80 rfl LenC.h) rfl (fun w h => h.sub SubC.h SubC.h) ?_
  refine wpd_t 45 rfl zz5 ⟨_, rfl, rfl⟩ (t_pur Tryd.hb31 rfl fun w h => key_ 2 w (glob h hG)) rfl (fun _ => (fun w h => .inr (h.sub SubC.h SubC.h))) (fun b79 => ?_)
  refine wpd_p 46 rfl zz5 ⟨_, rfl, rfl⟩ (q_build (cs := RK.c (rkS 21 (sB 2) 0)) rfl (built_rk 21 ⟨keyR (sB 2).1 0, keyR_l _ _⟩ (keyH 0))) rfl (fun w h => .inr (h.sub SubC.h SubC.h)) ?_
  refine wpd_tp 47 rfl zz5 ⟨_, rfl, rfl⟩ (t_bsG [.agg (RK.c (rkS 10 (sB 1) 0)).toArray, .agg (RK.c (rkS 21 (sB 2) 0)).toArray] (rks [(rkS 10 (sB 1) 0), (rkS 21 (sB 2) 0)]) Tryd.underlying50 Tryd.ti80 rfl zz19 rfl zz19 zz19 rfl zz42 rfl) rfl (fun _ => (fun w h => .inr (h.sub SubC.h SubC.h))) (fun b81 p81 => ?_)
  refine wpd_t 48 rfl zz5 ⟨_, rfl, rfl⟩ (t_pur (v := .bool true) Tryd.hb33 rfl fun w h => by
    have q := is_ b12 30 2 b81 [(rkS 10 (sB 1) 0), (rkS 21 (sB 2) 0)] w ⟨h.seen_row zz7, hopsF_at h zz7⟩ (h.seen_row zz7) t2.sm (glob h hG) zz19
    rwa [decide_eq_true (t2.no zz19 two_bad)] at q) rfl (fun _ => (fun w h => .inr (h.sub SubC.h SubC.h))) (fun b82 => ?_)
  refine wpd_p 49 rfl zz5 trivial (q_pure rfl) rfl (fun w h => .inr (h.sub SubC.h SubC.h)) ?_
  refine wpd_p 50 rfl zz5 trivial (q_pure rfl) rfl (fun w h => .inr (h.sub SubC.h SubC.h)) ?_
  refine wpd_done zz5 ?_
  refine ex_then <| wpc_ret ?_
  refine ret1 (.inl rfl) rfl rfl ?_
  exact fun w h => ⟨rfl, h.below⟩
end Go.Proofs.YtjpfhkjmjnjggaaDoor
namespace Go.Proofs.YtjpfhkjmjnjggaaDoor
open Go Go.PL Go.RowKit
def okK (p : Pth) (to : UInt32) (ks : List RK) (n : Nat) : Prop := chkP p = 0 ∧ (p.hs.getD (p.hs.length - 1) Hop.z).to = to ∧ ∀ j, j < n → ¬ wrongH p ks j
instance {p : Pth} {to : UInt32} {ks : List RK} {n : Nat} : Decidable (okK p to ks n) := by unfold okK; exact inferInstance
theorem okK_no {p : Pth} {to : UInt32} {ks : List RK} {n m : Nat} (h : ¬ okK p to ks n) (hn : n ≤ m) : ¬ okK p to ks m := fun ⟨h1, h2, h3⟩ => h ⟨h1, h2, fun j hj => h3 j zz13⟩
theorem okK_yes {p : Pth} {to : UInt32} {ks : List RK} {i : Nat} (h : okK p to ks i) (hw : ¬ wrongH p ks i) : okK p to ks (i + 1) := ⟨h.1, h.2.1, fun j hj => by
  rcases Nat.lt_or_ge j i with h4 | h4
  · exact h.2.2 j h4
  · obtain rfl : j = i := by omega
    exact hw⟩
theorem okK_bad {p : Pth} {to : UInt32} {ks : List RK} {i : Nat} (hw : wrongH p ks i) : ¬ okK p to ks (i + 1) := fun h => h.2.2 i (Nat.lt_succ_self _) hw
theorem okK_all {p : Pth} {to : UInt32} {ks : List RK} (hk : ks.length ≤ 100) (hn : p.hs.length ≠ 0) : vrV p to ks = 1 ↔ okK p to ks p.hs.length := vrV_one hk hn
theorem prev_to {p : Pth} (h : chkP p = 0) {i : Nat} (hi : i < p.hs.length) (h0 : 0 < i) : (p.hs.getD (i - 1) Hop.z).to = (p.hs.getD i Hop.z).sy := by
  have hb := (chk_inv h).2.2.2 i hi
  unfold badH at hb
  rw [not_or, not_or] at hb
  exact (Decidable.not_not.1 fun q => hb.2.2 ⟨h0, q⟩).symm
theorem mem_takeS {l : List RK} {k : Nat} (h : k < l.length) {x : RK} : x ∈ l.take (k + 1) ↔ x ∈ l.take k ∨ l.getD k RK.z = x := by
  rw [List.take_add_one, List.getElem?_eq_getElem h, getD_RK h, List.mem_append]
  simp only [Option.toList, List.mem_singleton, eq_comm]
theorem lawExact (p : Pth) (to : UInt32) (kv : Value) (ks : List RK) (w : World) (hp : p.seen w.cell?) (hkv : Seen w.cell? kv ks.length 18 (rks ks)) (hG : Glb w) :
    Calls Tryd.prog 7 [.agg p.c.toArray, .int .u32 to.toNat, kv].toArray w (Pur w (.bool true)) := by
  obtain ⟨pf, pa, pb, pl, hv, hs⟩ := p
  have hh : Seen w.cell? hv hs.length 24 (hcs hs) := hp.1
  have svh := hh.sv
  have lh := svh.le
  simp only [maxLen] at lh
  have skv := hkv.sv
  have lkv := skv.le
  simp only [maxLen] at lkv
  refine enter (m := 143) (R := Mem w [] [] []) Tryd.func7 rfl rfl (Nat.le_of_ble_eq_true rfl) (Mem.start w) ?_
  refine wpc_seq <| wpc_region ?_
  refine wpl_t (t_box rfl [.int .u8 (pf.toNat : Int), .int .u64 (pa.toNat : Int), .int .u64 (pb.toNat : Int), .int .i64 pl, hv] rfl) rfl (fun b3 => ?_)
  refine wpl_q (q_pure rfl) rfl <| wpl_nil <| ex_then <| wpc_seq <| wpc_region ?_
  refine wpl_t (t_pur (v := .bool true) Tryd.hb34 rfl fun w h => alive w (glob h hG)) rfl (fun b17 => ?_)
  refine wpl_q (q_pure rfl) rfl <| wpl_nil <| ex_then <| wpc_seq <| wpc_seq <| wpc_region <| wpl_q (q_ldN Tryd.underlying29 rfl Tryd.ti29 rfl LenC.h) rfl ?_
  refine wpl_t (t_pur Tryd.hb11 rfl fun w h => refGreat42 ⟨pf, pa, pb, pl, hv, hs⟩ w (hp.old h)) rfl (fun b19 => ?_)
  refine wpl_q (q_pure rfl) rfl ?_
  refine wpl_bool2 20 19 rfl rfl (fun hb20 => ?_) (fun hb20 => ?_)
  ·
   refine wpl_off rfl rfl rfl rfl <| wpl_off rfl rfl rfl rfl <| wpl_off rfl rfl rfl rfl <| wpl_q (q_pure rfl) rfl <| wpl_q (q_pure rfl) rfl <| wpl_off rfl rfl rfl rfl <| wpl_off rfl rfl rfl rfl <| wpl_off rfl rfl rfl rfl <| wpl_off rfl rfl rfl rfl <| wpl_q (q_pure rfl) rfl <| wpl_q (q_pure rfl) rfl <| wpl_off rfl rfl rfl rfl ?_
   refine wpl_off rfl rfl rfl rfl <| wpl_q (q_pure rfl) rfl <| wpl_nil <| ex_then ?_
   refine wpc_cond_t rfl ?_
   refine wpc_seq <| wpc_region <| wpl_q (q_pure rfl) rfl <| wpl_q (q_pure rfl) rfl <| wpl_nil <| ex_then <| wpc_ret ?_
   refine ex_then_ret ?_
   refine ret1 (.inl rfl) rfl rfl ?_
   exact fun w h => ⟨rfl, h.below⟩
  ·
   have hng : ¬ GreatP ⟨pf, pa, pb, pl, hv, hs⟩ := of_decide_eq_false hb20
   obtain ⟨hsm, hn35⟩ := great_no hng
   refine wpl_on rfl rfl <| wpl_q (q_pure rfl) rfl <| wpl_on rfl rfl ?_
   refine wpl_q (q_lenW Tryd.underlying50 rfl zz4) rfl ?_
   refine wpl_on rfl rfl <| wpl_q (q_pure rfl) rfl <| wpl_q (q_pure rfl) rfl <| wpl_q (q_pure rfl) rfl ?_
   refine wpl_bool2 25 23 rfl rfl (fun hb25 => ?_) (fun hb25 => ?_)
   ·
    refine wpl_off rfl rfl rfl rfl <| wpl_off rfl rfl rfl rfl <| wpl_off rfl rfl rfl rfl <| wpl_off rfl rfl rfl rfl <| wpl_q (q_pure rfl) rfl <| wpl_q (q_pure rfl) rfl <| wpl_off rfl rfl rfl rfl <| wpl_off rfl rfl rfl rfl <| wpl_q (q_pure rfl) rfl <| wpl_nil <| ex_then ?_
    refine wpc_cond_t rfl ?_
    refine wpc_seq <| wpc_region <| wpl_q (q_pure rfl) rfl <| wpl_q (q_pure rfl) rfl <| wpl_nil <| ex_then <| wpc_ret ?_
    refine ex_then_ret ?_
    refine ret1 (.inl rfl) rfl rfl ?_
    exact fun w h => ⟨rfl, h.below⟩
   ·
    have hk100 : ks.length ≤ 100 := by have := of_decide_eq_false hb25; omega
    refine wpl_on rfl rfl <| wpl_q (q_field Tryd.underlying29 rfl Tryd.ti27 rfl rfl _ rfl) rfl <| wpl_on rfl rfl <| wpl_q (q_ld Tryd.underlying27 rfl rfl rfl) rfl <| wpl_on rfl rfl ?_
    refine wpl_q (q_lenW Tryd.underlying27 rfl zz4) rfl ?_
    refine wpl_on rfl rfl <| wpl_q (q_pure rfl) rfl <| wpl_q (q_pure rfl) rfl <| wpl_q (q_pure rfl) rfl ?_
    refine wpl_bool2 31 29 rfl rfl (fun hb31 => ?_) (fun hb31 => ?_)
    ·
     refine wpl_off rfl rfl rfl rfl <| wpl_off rfl rfl rfl rfl <| wpl_q (q_pure rfl) rfl <| wpl_nil <| ex_then ?_
     refine wpc_cond_t rfl ?_
     refine wpc_seq <| wpc_region <| wpl_q (q_pure rfl) rfl <| wpl_q (q_pure rfl) rfl <| wpl_nil <| ex_then <| wpc_ret ?_
     refine ex_then_ret ?_
     refine ret1 (.inl rfl) rfl rfl ?_
     exact fun w h => ⟨rfl, h.below⟩
    ·
     have hn0 : hs.length ≠ 0 := by have := of_decide_eq_false hb31; omega
     have hcells := svh
     refine wpl_on rfl rfl <| wpl_q (q_pure rfl) rfl <| wpl_on rfl rfl <| wpl_q (q_pure rfl) rfl <| wpl_q (q_pure rfl) rfl <| wpl_nil <| ex_then ?_
     refine wpc_cond_f rfl ?_
     refine wpc_skip <| ex_then ?_
     refine wpc_cutc ({ x : Unit // True }) [(1, .int .u32 to.toNat), (2, kv), (3, .pointer (some ⟨b3, 0, none⟩)), (7, .bool true)] (fun x Lc => (8, .bool (decide (okK ⟨pf, pa, pb, pl, hv, hs⟩ to ks 0))) :: Lc) (fun x => Mem w [] [.blk b3 29 [.int .u8 (pf.toNat : Int), .int .u64 (pa.toNat : Int), .int .u64 (pb.toNat : Int), .int .i64 pl, hv]] []) ?_ ?_
     ·
      refine wpc_region <| wpl_q (q_ldN Tryd.underlying29 rfl Tryd.ti29 rfl LenC.h) rfl ?_
      refine wpl_t (t_pur Tryd.hb18 rfl fun w h => refCheck42 ⟨pf, pa, pb, pl, hv, hs⟩ w (hp.old h)) rfl (fun b37 => ?_)
      refine wpl_q (q_pure rfl) rfl <| wpl_q (q_pure rfl) rfl ?_
      refine wpl_bool2 39 38 rfl rfl (fun hb39 => ?_) (fun hb39 => ?_)
      ·
       have hk0 : chkP ⟨pf, pa, pb, pl, hv, hs⟩ = 0 := by simpa using hb39
       refine wpl_on rfl rfl <| wpl_q (q_field Tryd.underlying29 rfl Tryd.ti27 rfl rfl _ rfl) rfl <| wpl_on rfl rfl <| wpl_q (q_ld Tryd.underlying27 rfl rfl rfl) rfl <| wpl_on rfl rfl <| wpl_q (q_field Tryd.underlying29 rfl Tryd.ti27 rfl rfl _ rfl) rfl <| wpl_on rfl rfl <| wpl_q (q_ld Tryd.underlying27 rfl rfl rfl) rfl <| wpl_on rfl rfl ?_
       refine wpl_q (q_lenW Tryd.underlying27 rfl zz4) rfl ?_
       refine wpl_on rfl rfl ?_
       refine wpl_q (q_subN (b := 1) rfl rfl zz13 zz2) rfl ?_
       refine wpl_on rfl rfl ?_
       refine wpl_q (q_idxW Tryd.underlying27 Tryd.ti68 rfl rfl zz4 zz2) rfl ?_
       refine wpl_on rfl rfl <| wpl_q (q_fieldPo 3 Tryd.underlying68 rfl Tryd.ti49 rfl rfl rfl) rfl <| wpl_on rfl rfl ?_
       refine wpl_q (q_ldWF Tryd.underlying49 rfl rfl (fun w h => h.seen_old hh) (cat_get Hop.c_length Hop.z (show hs.length - 1 < hs.length from zz13) (Hop.c_to _))) rfl ?_
       refine wpl_on rfl rfl <| wpl_q (q_pure rfl) rfl <| wpl_on rfl rfl <| wpl_q (q32_eql rfl rfl) rfl <| wpl_q (q_pure rfl) rfl ?_
       refine wpl_re 51 rfl (congrArg Value.bool (show _ = decide (okK ⟨pf, pa, pb, pl, hv, hs⟩ to ks 0) by
         rw [Bool.eq_iff_iff]; simp only [decide_eq_true_eq, Bool.false_eq_true]
         first
         | exact ⟨fun h => ⟨hk0, h, fun j hj => absurd hj (Nat.not_lt_zero _)⟩, fun h => h.2.1⟩
         | exact ⟨fun h => h.elim, fun h => hk0 h.1⟩)) ?_
       refine wpl_q (q_pure rfl) rfl <| wpl_nil ?_
       refine ex_mid ⟨(), trivial⟩ ?_ ?_
       ·
        exact zz9
       ·
        exact fun w h => by first | exact h | exact h.sub SubC.h SubC.h | exact h.sub zz8 zz8
      ·
       have hk0 : ¬ chkP ⟨pf, pa, pb, pl, hv, hs⟩ = 0 := by simpa using hb39
       refine wpl_off rfl rfl rfl rfl <| wpl_off rfl rfl rfl rfl <| wpl_off rfl rfl rfl rfl <| wpl_off rfl rfl rfl rfl <| wpl_off rfl rfl rfl rfl <| wpl_off rfl rfl rfl rfl <| wpl_off rfl rfl rfl rfl <| wpl_off rfl rfl rfl rfl <| wpl_off rfl rfl rfl rfl <| wpl_off rfl rfl rfl rfl <| wpl_off rfl rfl rfl rfl <| wpl_q (q_pure rfl) rfl ?_
       refine wpl_re 51 rfl (congrArg Value.bool (show _ = decide (okK ⟨pf, pa, pb, pl, hv, hs⟩ to ks 0) by
         rw [Bool.eq_iff_iff]; simp only [decide_eq_true_eq, Bool.false_eq_true]
         first
         | exact ⟨fun h => ⟨hk0, h, fun j hj => absurd hj (Nat.not_lt_zero _)⟩, fun h => h.2.1⟩
         | exact ⟨fun h => h.elim, fun h => hk0 h.1⟩)) ?_
       refine wpl_q (q_pure rfl) rfl <| wpl_nil ?_
       refine ex_mid ⟨(), trivial⟩ ?_ ?_
       ·
        exact zz9
       ·
        exact fun w h => by first | exact h | exact h.sub SubC.h SubC.h | exact h.sub zz8 zz8
     ·
      rintro ⟨_, _⟩; try dsimp only
      refine wpc_cutc ({ x : Unit // True }) [(1, .int .u32 to.toNat), (2, kv), (3, .pointer (some ⟨b3, 0, none⟩)), (7, .bool true)] (fun x Lc => (8, .bool (decide (okK ⟨pf, pa, pb, pl, hv, hs⟩ to ks hs.length))) :: Lc) (fun x => Mem w [] [.blk b3 29 [.int .u8 (pf.toNat : Int), .int .u64 (pa.toNat : Int), .int .u64 (pb.toNat : Int), .int .i64 pl, hv]] []) ?_ ?_
      ·
       refine wpc_seq <| wpc_region <| wpl_q (q_pure rfl) rfl <| wpl_nil <| ex_then <| wpc_block ?_
       refine wpc_loopc (ι := { x : Nat // (x ≤ hs.length) }) [(1, _), (2, _), (3, _), (7, _)] (fun x Lc => (9, .int .i64 ((x.1 : Nat) : Int)) :: (8, .bool (decide (okK ⟨pf, pa, pb, pl, hv, hs⟩ to ks x.1))) :: Lc) (fun x => Mem w [] [.blk b3 29 [.int .u8 (pf.toNat : Int), .int .u64 (pa.toNat : Int), .int .u64 (pb.toNat : Int), .int .i64 pl, hv]] []) (fun x => hs.length - x.1) ⟨0, Nat.zero_le _⟩ zz9 ?_ ?_
       ·
        exact fun w h => h
       ·
        rintro ⟨i, hi0⟩; try dsimp only
        have hi0 : i ≤ hs.length := hi0
        refine wpc_seq <| wpc_seq <| wpc_region <| wpl_q (q_pure rfl) rfl <| wpl_q (q_field Tryd.underlying29 rfl Tryd.ti27 rfl rfl _ rfl) rfl <| wpl_q (q_ld Tryd.underlying27 rfl rfl rfl) rfl ?_
        refine wpl_q (q_lenW Tryd.underlying27 rfl zz4) rfl ?_
        refine wpl_q (q_pure rfl) rfl <| wpl_q (q_pure rfl) rfl ?_
        refine wpl_bool2 57 56 rfl rfl (fun hb57 => ?_) (fun hb57 => ?_)
        ·
         have hil : i < hs.length := by have := of_decide_eq_true hb57; omega
         have hie : ¬ i < hs.length → False := fun q => q hil
         refine wpl_on rfl rfl <| wpl_q (q_pure rfl) rfl <| wpl_q (q_pure rfl) rfl <| wpl_nil <| ex_then ?_
         refine wpc_cond rfl (fun hc59 => ?_) (fun hc59 => ?_)
         ·
          have hok : (okK ⟨pf, pa, pb, pl, hv, hs⟩ to ks i) := of_decide_eq_true hc59
          have hkc : chkP ⟨pf, pa, pb, pl, hv, hs⟩ = 0 := hok.1
          have hsx : ((hs.getD i Hop.z)).seen w.cell? := hp.2 _ (getD_memO hil)
          haveI := hsx.sv.one
          have hmlen := msgB_len ⟨pf, pa, pb, pl, hv, hs⟩ i
          refine wpc_skip <| ex_then <| wpc_seq <| wpc_block <| wpc_seq <| wpc_region <| wpl_q (q_field Tryd.underlying29 rfl Tryd.ti27 rfl rfl _ rfl) rfl <| wpl_q (q_ld Tryd.underlying27 rfl rfl rfl) rfl <| wpl_q (q_pure rfl) rfl ?_
          refine wpl_q (q_idxW Tryd.underlying27 Tryd.ti68 rfl rfl zz4 zz2) rfl ?_
          refine wpl_q (q_ldWN Tryd.underlying68 rfl Tryd.ti68 rfl (fun w h => h.seen_old hh) (hs.getD i Hop.z).c (cat_part Hop.c_length Hop.z hil) (Hop.c_length _)) rfl ?_
          refine wpl_t (t_alloc Tryd.ti68 Hop.z.c rfl) rfl (fun b10 => ?_)
          refine wpl_t0 (t_stA Tryd.ti68 rfl rfl LenC.h OneC.h LenC.h) (fun _ => ?_)
          refine wpl_nil <| ex_then <| wpc_seq <| wpc_region <| wpl_q (q_ldN Tryd.underlying29 rfl Tryd.ti29 rfl LenC.h) rfl <| wpl_q (q_pure rfl) rfl ?_
          refine wpl_tp (t_callP1 Tryd.hb13 rfl fun w h => by
            have q := hopMessage ⟨pf, pa, pb, pl, hv, hs⟩ (i : Int) w (hp.old h) hsm (glob h hG)
            have e0 : msgE ⟨pf, pa, pb, pl, hv, hs⟩ (i : Int) = 0 := msgE_ok hkc zz13 (by show ¬ ((hs.length : Nat) : Int) ≤ (i : Int); omega)
            have e1 : msgV ⟨pf, pa, pb, pl, hv, hs⟩ (i : Int) = msgB ⟨pf, pa, pb, pl, hv, hs⟩ i := if_pos e0
            rw [e0, e1] at q
            exact q) rfl (fun b70 p70 => ?_)
          refine wpl_q (q_pure rfl) rfl <| wpl_q (q_pure rfl) rfl <| wpl_q (q_pure rfl) rfl <| wpl_q (q_pure rfl) rfl <| wpl_q (q_pure rfl) rfl <| wpl_nil <| ex_then <| wpc_seq <| wpc_region <| wpl_q (q_pure rfl) rfl <| wpl_nil <| ex_then ?_
          refine wpc_seq <| wpc_seq <| wpc_region <| wpl_q (q_pure rfl) rfl <| wpl_nil <| ex_then <| wpc_block ?_
          refine wpc_loopc (ι := { x : Nat // (x ≤ ks.length) }) [(1, _), (2, _), (3, _), (7, _), (9, _), (10, _), (11, _), (12, _), (58, _)] (fun x Lc => (14, .int .i64 ((x.1 : Nat) : Int)) :: (13, .bool (decide ((hs.getD i Hop.z).rk ∈ ks.take x.1))) :: Lc) (fun x => Mem w [] [.row b70 (msgB ⟨pf, pa, pb, pl, hv, hs⟩ i).length 5 1 (v8s (msgB ⟨pf, pa, pb, pl, hv, hs⟩ i)), .blk b10 68 (hs.getD i Hop.z).c, .blk b3 29 [.int .u8 (pf.toNat : Int), .int .u64 (pa.toNat : Int), .int .u64 (pb.toNat : Int), .int .i64 pl, hv]] []) (fun x => ks.length - x.1) ⟨0, Nat.zero_le _⟩ zz9 ?_ ?_
          ·
           exact fun w h => h
          ·
           rintro ⟨k, hi0⟩; try dsimp only
           have hi0 : k ≤ ks.length := hi0
           refine wpc_seq <| wpc_seq <| wpc_region <| wpl_q (q_pure rfl) rfl <| wpl_q (q_pure rfl) rfl ?_
           refine wpl_q (q_lenW Tryd.underlying50 rfl zz4) rfl ?_
           refine wpl_q (q_pure rfl) rfl <| wpl_nil <| ex_then ?_
           refine wpc_cond rfl (fun hc76 => ?_) (fun hc76 => ?_)
           ·
            simp only [decide_eq_true_eq] at hc76
            have hkl : k < ks.length := by omega
            refine wpc_skip <| ex_then <| wpc_seq <| wpc_block ?_
            refine wpc_draw 14 zz5 (fun _ h => h.drew) ?_
            refine wpd_p 0 rfl zz5 trivial (q_pure rfl) rfl sk0 ?_
            refine wpd_p 1 rfl zz5 trivial (q_pure rfl) rfl sk0 ?_
            refine wpd_bool2 80 13 rfl rfl (fun hb80 => ?_) (fun hb80 => ?_)
            ·
             have hin : (hs.getD i Hop.z).rk ∈ ks.take k := of_decide_eq_true hb80
             refine wpd_off 2 rfl zz5 ⟨_, _, rfl, rfl, rfl⟩ rfl sk0 ?_
             refine wpd_off 3 rfl zz5 ⟨_, _, rfl, rfl, rfl⟩ rfl sk0 ?_
             refine wpd_off 4 rfl zz5 ⟨_, _, rfl, rfl, rfl⟩ rfl sk0 ?_
             refine wpd_off 5 rfl zz5 ⟨_, _, rfl, rfl, rfl⟩ rfl sk0 ?_
             refine wpd_off 6 rfl zz5 ⟨_, _, rfl, rfl, rfl⟩ rfl sk0 ?_
             refine wpd_off 7 rfl zz5 ⟨_, _, rfl, rfl, rfl⟩ rfl sk0 ?_
             refine wpd_off 8 rfl zz5 ⟨_, _, rfl, rfl, rfl⟩ rfl sk0 ?_
             refine wpd_off 9 rfl zz5 ⟨_, _, rfl, rfl, rfl⟩ rfl sk0 ?_
             refine wpd_off 10 rfl zz5 ⟨_, _, rfl, rfl, rfl⟩ rfl sk0 ?_
             refine wpd_off 11 rfl zz5 ⟨_, _, rfl, rfl, rfl⟩ rfl sk0 ?_
             refine wpd_p 12 rfl zz5 trivial (q_pure rfl) rfl sk0 ?_
             refine wpd_re 91 rfl (congrArg Value.bool (show _ = decide ((hs.getD i Hop.z).rk ∈ ks.take (k + 1)) by
               rw [Bool.eq_iff_iff]; simp only [decide_eq_true_eq, mem_takeS hkl]
               first
               | exact ⟨fun _ => .inl hin, fun _ => trivial⟩
               | exact ⟨fun _ => .inl hin, fun _ => rfl⟩
               | exact ⟨fun h => .inr h, fun h => h.resolve_left hin⟩)) ?_
             refine wpd_p 13 rfl zz5 trivial (q_pure rfl) rfl sk0 ?_
             refine wpd_done zz5 ?_
             refine ex_block <| ex_then <| wpc_region <| wpl_q (q_pure rfl) rfl ?_
             refine wpl_q (q_addN (b := 1) rfl rfl zz2) rfl ?_
             refine wpl_q (q_pure rfl) rfl <| wpl_nil ?_
             refine ex_again ⟨k + 1, (show k + 1 ≤ ks.length from zz13)⟩ ?_ ?_ ?_
             ·
              exact zz9
             ·
              exact fun w h => by first | exact h | exact h.sub SubC.h SubC.h | exact h.sub zz8 zz8
             ·
              (show ks.length - (k + 1) < ks.length - k); omega
            ·
             have hin : ¬ (hs.getD i Hop.z).rk ∈ ks.take k := of_decide_eq_false hb80
             refine wpd_p 2 rfl zz5 ⟨_, rfl, rfl⟩ (q_pure rfl) rfl sk0 ?_
             refine wpd_p 3 rfl zz5 ⟨_, rfl, rfl⟩ (q_pure rfl) rfl sk0 ?_
             refine wpd_p 4 rfl zz5 ⟨_, rfl, rfl⟩ (q_idxW Tryd.underlying50 Tryd.ti80 rfl rfl zz4 zz2) rfl sk0 ?_
             refine wpd_q 5 rfl zz5 ⟨_, rfl, rfl⟩ (q_ldWN Tryd.underlying80 rfl Tryd.ti80 rfl (fun w h => h.seen_old hkv) (RK.c (ks.getD k RK.z)) (cat_part RK.c_length RK.z hkl) (RK.c_length _)) rfl (fun _ h => h) ?_
             refine wpd_p 6 rfl zz5 ⟨_, rfl, rfl⟩ (q_field Tryd.underlying68 rfl Tryd.ti49 rfl rfl _ rfl) rfl sk0 ?_
             refine wpd_q 7 rfl zz5 ⟨_, rfl, rfl⟩ (q_ld Tryd.underlying49 rfl rfl (Hop.c_sy _)) rfl (fun _ h => h) ?_
             refine wpd_p 8 rfl zz5 ⟨_, rfl, rfl⟩ (q_field Tryd.underlying68 rfl Tryd.ti63 rfl rfl _ rfl) rfl sk0 ?_
             refine wpd_q 9 rfl zz5 ⟨_, rfl, rfl⟩ (q_ldP Tryd.underlying63 rfl Tryd.ti63 rfl (hs.getD i Hop.z).key (Hop.c_key _) (Hop.key_length _)) rfl (fun _ h => h) ?_
             refine wpd_p 10 rfl zz5 ⟨_, rfl, rfl⟩ (q_build (cs := RK.c (hs.getD i Hop.z).rk) rfl (built_rk (hs.getD i Hop.z).sy (hs.getD i Hop.z).root (hs.getD i Hop.z).ht)) rfl sk0 ?_
             refine wpd_q 11 rfl zz5 ⟨_, rfl, rfl⟩ (q_eqRK rfl rfl) rfl (fun _ h => h) ?_
             refine wpd_p 12 rfl zz5 trivial (q_pure rfl) rfl sk0 ?_
             refine wpd_re 91 rfl (congrArg Value.bool (show _ = decide ((hs.getD i Hop.z).rk ∈ ks.take (k + 1)) by
               rw [Bool.eq_iff_iff]; simp only [decide_eq_true_eq, mem_takeS hkl]
               first
               | exact ⟨fun _ => .inl hin, fun _ => trivial⟩
               | exact ⟨fun _ => .inl hin, fun _ => rfl⟩
               | exact ⟨fun h => .inr h, fun h => h.resolve_left hin⟩)) ?_
             refine wpd_p 13 rfl zz5 trivial (q_pure rfl) rfl sk0 ?_
             refine wpd_done zz5 ?_
             refine ex_block <| ex_then <| wpc_region <| wpl_q (q_pure rfl) rfl ?_
             refine wpl_q (q_addN (b := 1) rfl rfl zz2) rfl ?_
             refine wpl_q (q_pure rfl) rfl <| wpl_nil ?_
             refine ex_again ⟨k + 1, (show k + 1 ≤ ks.length from zz13)⟩ ?_ ?_ ?_
             ·
              exact zz9
             ·
              exact fun w h => by first | exact h | exact h.sub SubC.h SubC.h | exact h.sub zz8 zz8
             ·
              (show ks.length - (k + 1) < ks.length - k); omega
           ·
            simp only [decide_eq_false_iff_not] at hc76
            obtain rfl : k = ks.length := by omega
            refine wpc_exit ?_
            refine ex_then_exit ?_
            refine ex_then_exit ?_
            refine ex_block_hit ?_
            refine ex_then ?_
            refine wpc_draw 30 zz5 (fun _ h => h.drew) ?_
            refine wpd_p 0 rfl zz5 trivial (q_pure rfl) rfl sk0 ?_
            refine wpd_p 1 rfl zz5 trivial (q_tru (q_eqI rfl rfl) rfl) rfl sk0 ?_
            refine wpd_p 2 rfl zz5 trivial (q_pure rfl) rfl sk0 ?_
            refine wpd_p 3 rfl zz5 ⟨_, rfl, rfl⟩ (q_pure rfl) rfl sk0 ?_
            refine wpd_p 4 rfl zz5 trivial (q_pure rfl) rfl sk0 ?_
            refine wpd_p 5 rfl zz5 trivial (q_pure rfl) rfl sk0 ?_
            refine wpd_bool2 97 13 rfl rfl (fun hb97 => ?_) (fun hb97 => ?_)
            ·
             have hls : (hs.getD i Hop.z).rk ∈ ks := by have := of_decide_eq_true hb97; rwa [List.take_length] at this
             refine wpd_p 6 rfl zz5 ⟨_, rfl, rfl⟩ (q_field Tryd.underlying68 rfl Tryd.ti63 rfl rfl _ rfl) rfl sk0 ?_
             refine wpd_q 7 rfl zz5 ⟨_, rfl, rfl⟩ (q_ldP Tryd.underlying63 rfl Tryd.ti63 rfl (hs.getD i Hop.z).key (Hop.c_key _) (Hop.key_length _)) rfl (fun _ h => h) ?_
             refine wpd_p 8 rfl zz5 ⟨_, rfl, rfl⟩ (q_pure rfl) rfl sk0 ?_
             refine wpd_p 9 rfl zz5 ⟨_, rfl, rfl⟩ (q_field Tryd.underlying68 rfl Tryd.ti66 rfl rfl _ rfl) rfl sk0 ?_
             refine wpd_q 10 rfl zz5 ⟨_, rfl, rfl⟩ (q_ldP Tryd.underlying66 rfl Tryd.ti66 rfl (hs.getD i Hop.z).sig (Hop.c_sig _) rfl) rfl (fun _ h => h) ?_
             refine wpd_t 11 rfl zz5 ⟨_, rfl, rfl⟩ (t_pur (v := .bool (decide (verH (hs.getD i Hop.z) (msgB ⟨pf, pa, pb, pl, hv, hs⟩ i)))) Tryd.hb35 rfl fun w2 h => verify7 (hs.getD i Hop.z).root.1 (hs.getD i Hop.z).ht b70 (msgB ⟨pf, pa, pb, pl, hv, hs⟩ i) (hs.getD i Hop.z).cv (hs.getD i Hop.z).pv (hs.getD i Hop.z).chs (hs.getD i Hop.z).ps (hs.getD i Hop.z).ix w2 (hs.getD i Hop.z).root.2 (h.seen_row zz7) (hsx.old h).1 hsx.2.1 (hsx.old h).2.2.1 hsx.2.2.2 (glob h hG)) rfl (fun _ => sk0) (fun b103 => ?_)
             refine wpd_p 12 rfl zz5 trivial (q_pure rfl) rfl sk0 ?_
             refine wpd_p 13 rfl zz5 trivial (q_pure rfl) rfl sk0 ?_
             refine wpd_bool2 105 103 rfl rfl (fun hb105 => ?_) (fun hb105 => ?_)
             ·
              have hnw : ¬ wrongH ⟨pf, pa, pb, pl, hv, hs⟩ ks i := by
                have hv : verH (hs.getD i Hop.z) (msgB ⟨pf, pa, pb, pl, hv, hs⟩ i) := of_decide_eq_true hb105
                rintro (q | q); exact q hls; exact q hv
              refine wpd_p 14 rfl zz5 ⟨_, rfl, rfl⟩ (q_pure rfl) rfl sk0 ?_
              refine wpd_p 15 rfl zz5 ⟨_, rfl, rfl⟩ (q_pure rfl) rfl sk0 ?_
              refine wpd_p 16 rfl zz5 ⟨_, rfl, rfl⟩ (q_pure rfl) rfl sk0 ?_
              refine wpd_bool2 108 107 rfl rfl (fun hb108 => ?_) (fun hb108 => ?_)
              ·
               refine wpd_off 17 rfl zz5 ⟨_, _, rfl, rfl, rfl⟩ rfl sk0 ?_
               refine wpd_off 18 rfl zz5 ⟨_, _, rfl, rfl, rfl⟩ rfl sk0 ?_
               refine wpd_off 19 rfl zz5 ⟨_, _, rfl, rfl, rfl⟩ rfl sk0 ?_
               refine wpd_off 20 rfl zz5 ⟨_, _, rfl, rfl, rfl⟩ rfl sk0 ?_
               refine wpd_off 21 rfl zz5 ⟨_, _, rfl, rfl, rfl⟩ rfl sk0 ?_
               refine wpd_off 22 rfl zz5 ⟨_, _, rfl, rfl, rfl⟩ rfl sk0 ?_
               refine wpd_off 23 rfl zz5 ⟨_, _, rfl, rfl, rfl⟩ rfl sk0 ?_
               refine wpd_off 24 rfl zz5 ⟨_, _, rfl, rfl, rfl⟩ rfl sk0 ?_
               refine wpd_off 25 rfl zz5 ⟨_, _, rfl, rfl, rfl⟩ rfl sk0 ?_
               refine wpd_off 26 rfl zz5 ⟨_, _, rfl, rfl, rfl⟩ rfl sk0 ?_
               refine wpd_p 27 rfl zz5 ⟨_, rfl, rfl⟩ (q_pure rfl) rfl sk0 ?_
               refine wpd_p 28 rfl zz5 trivial (q_pure rfl) rfl sk0 ?_
               refine wpd_re 120 rfl (congrArg Value.bool (show _ = decide (okK ⟨pf, pa, pb, pl, hv, hs⟩ to ks (i + 1)) by
                 first
                 | (rw [decide_eq_true (okK_yes hok hnw)]; done)
                 | (rw [decide_eq_false (okK_bad hwr)]; done))) ?_
               refine wpd_p 29 rfl zz5 trivial (q_pure rfl) rfl sk0 ?_
               refine wpd_done zz5 ?_
               refine ex_block <| ex_then <| wpc_region <| wpl_q (q_pure rfl) rfl ?_
               refine wpl_q (q_addN (b := 1) rfl rfl zz2) rfl ?_
               refine wpl_q (q_pure rfl) rfl <| wpl_nil ?_
               refine ex_again ⟨i + 1, (show i + 1 ≤ hs.length from zz13)⟩ ?_ ?_ ?_
               ·
                exact zz9
               ·
                exact fun w h => by first | exact h | exact h.sub SubC.h SubC.h | exact h.sub zz8 zz8
               ·
                (show hs.length - (i + 1) < hs.length - i); omega
              ·
               have hi1 : 0 < i := by have := of_decide_eq_false hb108; omega
               refine wpd_p 17 rfl zz5 ⟨_, rfl, rfl⟩ (q_field Tryd.underlying29 rfl Tryd.ti27 rfl rfl _ rfl) rfl sk0 ?_
               refine wpd_q 18 rfl zz5 ⟨_, rfl, rfl⟩ (q_ld Tryd.underlying27 rfl rfl rfl) rfl (fun _ h => h) ?_
               refine wpd_p 19 rfl zz5 ⟨_, rfl, rfl⟩ (q_pure rfl) rfl sk0 ?_
               refine wpd_p 20 rfl zz5 ⟨_, rfl, rfl⟩ (q_subN (b := 1) rfl rfl zz13 zz2) rfl sk0 ?_
               refine wpd_p 21 rfl zz5 ⟨_, rfl, rfl⟩ (q_idxW Tryd.underlying27 Tryd.ti68 rfl rfl zz4 zz2) rfl sk0 ?_
               refine wpd_p 22 rfl zz5 ⟨_, rfl, rfl⟩ (q_fieldPo 3 Tryd.underlying68 rfl Tryd.ti49 rfl rfl rfl) rfl sk0 ?_
               refine wpd_q 23 rfl zz5 ⟨_, rfl, rfl⟩ (q_ldWF Tryd.underlying49 rfl rfl (fun w h => h.seen_old hh) (cat_get Hop.c_length Hop.z (show i - 1 < hs.length from zz13) (Hop.c_to _))) rfl (fun _ h => h) ?_
               refine wpd_p 24 rfl zz5 ⟨_, rfl, rfl⟩ (q_field Tryd.underlying68 rfl Tryd.ti49 rfl rfl _ rfl) rfl sk0 ?_
               refine wpd_q 25 rfl zz5 ⟨_, rfl, rfl⟩ (q_ld Tryd.underlying49 rfl rfl (Hop.c_sy _)) rfl (fun _ h => h) ?_
               refine wpd_p 26 rfl zz5 ⟨_, rfl, rfl⟩ (q_tru (q32_eql rfl rfl) (prev_to (p := ⟨pf, pa, pb, pl, hv, hs⟩) hkc hil hi1)) rfl sk0 ?_
               refine wpd_p 27 rfl zz5 ⟨_, rfl, rfl⟩ (q_pure rfl) rfl sk0 ?_
               refine wpd_p 28 rfl zz5 trivial (q_pure rfl) rfl sk0 ?_
               refine wpd_re 120 rfl (congrArg Value.bool (show _ = decide (okK ⟨pf, pa, pb, pl, hv, hs⟩ to ks (i + 1)) by
                 first
                 | (rw [decide_eq_true (okK_yes hok hnw)]; done)
                 | (rw [decide_eq_false (okK_bad hwr)]; done))) ?_
               refine wpd_p 29 rfl zz5 trivial (q_pure rfl) rfl sk0 ?_
               refine wpd_done zz5 ?_
               refine ex_block <| ex_then <| wpc_region <| wpl_q (q_pure rfl) rfl ?_
               refine wpl_q (q_addN (b := 1) rfl rfl zz2) rfl ?_
               refine wpl_q (q_pure rfl) rfl <| wpl_nil ?_
               refine ex_again ⟨i + 1, (show i + 1 ≤ hs.length from zz13)⟩ ?_ ?_ ?_
               ·
                exact zz9
               ·
                exact fun w h => by first | exact h | exact h.sub SubC.h SubC.h | exact h.sub zz8 zz8
               ·
                (show hs.length - (i + 1) < hs.length - i); omega
             ·
              have hwr : wrongH ⟨pf, pa, pb, pl, hv, hs⟩ ks i := .inr (of_decide_eq_false hb105)
              refine wpd_off 14 rfl zz5 ⟨_, _, rfl, rfl, rfl⟩ rfl sk0 ?_
              refine wpd_off 15 rfl zz5 ⟨_, _, rfl, rfl, rfl⟩ rfl sk0 ?_
              refine wpd_off 16 rfl zz5 ⟨_, _, rfl, rfl, rfl⟩ rfl sk0 ?_
              refine wpd_off 17 rfl zz5 ⟨_, _, rfl, rfl, rfl⟩ rfl sk0 ?_
              refine wpd_off 18 rfl zz5 ⟨_, _, rfl, rfl, rfl⟩ rfl sk0 ?_
              refine wpd_off 19 rfl zz5 ⟨_, _, rfl, rfl, rfl⟩ rfl sk0 ?_
              refine wpd_off 20 rfl zz5 ⟨_, _, rfl, rfl, rfl⟩ rfl sk0 ?_
              refine wpd_off 21 rfl zz5 ⟨_, _, rfl, rfl, rfl⟩ rfl sk0 ?_
              refine wpd_off 22 rfl zz5 ⟨_, _, rfl, rfl, rfl⟩ rfl sk0 ?_
              refine wpd_off 23 rfl zz5 ⟨_, _, rfl, rfl, rfl⟩ rfl sk0 ?_
              refine wpd_off 24 rfl zz5 ⟨_, _, rfl, rfl, rfl⟩ rfl sk0 ?_
              refine wpd_off 25 rfl zz5 ⟨_, _, rfl, rfl, rfl⟩ rfl sk0 ?_
              refine wpd_off 26 rfl zz5 ⟨_, _, rfl, rfl, rfl⟩ rfl sk0 ?_
              refine wpd_off 27 rfl zz5 ⟨_, _, rfl, rfl, rfl⟩ rfl sk0 ?_
              refine wpd_p 28 rfl zz5 trivial (q_pure rfl) rfl sk0 ?_
              refine wpd_re 120 rfl (congrArg Value.bool (show _ = decide (okK ⟨pf, pa, pb, pl, hv, hs⟩ to ks (i + 1)) by
                first
                | (rw [decide_eq_true (okK_yes hok hnw)]; done)
                | (rw [decide_eq_false (okK_bad hwr)]; done))) ?_
              refine wpd_p 29 rfl zz5 trivial (q_pure rfl) rfl sk0 ?_
              refine wpd_done zz5 ?_
              refine ex_block <| ex_then <| wpc_region <| wpl_q (q_pure rfl) rfl ?_
              refine wpl_q (q_addN (b := 1) rfl rfl zz2) rfl ?_
              refine wpl_q (q_pure rfl) rfl <| wpl_nil ?_
              refine ex_again ⟨i + 1, (show i + 1 ≤ hs.length from zz13)⟩ ?_ ?_ ?_
              ·
               exact zz9
              ·
               exact fun w h => by first | exact h | exact h.sub SubC.h SubC.h | exact h.sub zz8 zz8
              ·
               (show hs.length - (i + 1) < hs.length - i); omega
            ·
             have hwr : wrongH ⟨pf, pa, pb, pl, hv, hs⟩ ks i := .inl (by have := of_decide_eq_false hb97; rwa [List.take_length] at this)
             refine wpd_off 6 rfl zz5 ⟨_, _, rfl, rfl, rfl⟩ rfl sk0 ?_
             refine wpd_off 7 rfl zz5 ⟨_, _, rfl, rfl, rfl⟩ rfl sk0 ?_
             refine wpd_off 8 rfl zz5 ⟨_, _, rfl, rfl, rfl⟩ rfl sk0 ?_
             refine wpd_off 9 rfl zz5 ⟨_, _, rfl, rfl, rfl⟩ rfl sk0 ?_
             refine wpd_off 10 rfl zz5 ⟨_, _, rfl, rfl, rfl⟩ rfl sk0 ?_
             refine wpd_off 11 rfl zz5 ⟨_, _, rfl, rfl, rfl⟩ rfl sk0 ?_
             refine wpd_p 12 rfl zz5 trivial (q_pure rfl) rfl sk0 ?_
             refine wpd_p 13 rfl zz5 trivial (q_pure rfl) rfl sk0 ?_
             refine wpd_off 14 rfl zz5 ⟨_, _, rfl, rfl, rfl⟩ rfl sk0 ?_
             refine wpd_off 15 rfl zz5 ⟨_, _, rfl, rfl, rfl⟩ rfl sk0 ?_
             refine wpd_off 16 rfl zz5 ⟨_, _, rfl, rfl, rfl⟩ rfl sk0 ?_
             refine wpd_off 17 rfl zz5 ⟨_, _, rfl, rfl, rfl⟩ rfl sk0 ?_
             refine wpd_off 18 rfl zz5 ⟨_, _, rfl, rfl, rfl⟩ rfl sk0 ?_
             refine wpd_off 19 rfl zz5 ⟨_, _, rfl, rfl, rfl⟩ rfl sk0 ?_
             refine wpd_off 20 rfl zz5 ⟨_, _, rfl, rfl, rfl⟩ rfl sk0 ?_
             refine wpd_off 21 rfl zz5 ⟨_, _, rfl, rfl, rfl⟩ rfl sk0 ?_
             refine wpd_off 22 rfl zz5 ⟨_, _, rfl, rfl, rfl⟩ rfl sk0 ?_
             refine wpd_off 23 rfl zz5 ⟨_, _, rfl, rfl, rfl⟩ rfl sk0 ?_
             refine wpd_off 24 rfl zz5 ⟨_, _, rfl, rfl, rfl⟩ rfl sk0 ?_
             refine wpd_off 25 rfl zz5 ⟨_, _, rfl, rfl, rfl⟩ rfl sk0 ?_
             refine wpd_off 26 rfl zz5 ⟨_, _, rfl, rfl, rfl⟩ rfl sk0 ?_
             refine wpd_off 27 rfl zz5 ⟨_, _, rfl, rfl, rfl⟩ rfl sk0 ?_
             refine wpd_p 28 rfl zz5 trivial (q_pure rfl) rfl sk0 ?_
             refine wpd_re 120 rfl (congrArg Value.bool (show _ = decide (okK ⟨pf, pa, pb, pl, hv, hs⟩ to ks (i + 1)) by
               first
               | (rw [decide_eq_true (okK_yes hok hnw)]; done)
               | (rw [decide_eq_false (okK_bad hwr)]; done))) ?_
             refine wpd_p 29 rfl zz5 trivial (q_pure rfl) rfl sk0 ?_
             refine wpd_done zz5 ?_
             refine ex_block <| ex_then <| wpc_region <| wpl_q (q_pure rfl) rfl ?_
             refine wpl_q (q_addN (b := 1) rfl rfl zz2) rfl ?_
             refine wpl_q (q_pure rfl) rfl <| wpl_nil ?_
             refine ex_again ⟨i + 1, (show i + 1 ≤ hs.length from zz13)⟩ ?_ ?_ ?_
             ·
              exact zz9
             ·
              exact fun w h => by first | exact h | exact h.sub SubC.h SubC.h | exact h.sub zz8 zz8
             ·
              (show hs.length - (i + 1) < hs.length - i); omega
         ·
          have h1 : ¬ (okK ⟨pf, pa, pb, pl, hv, hs⟩ to ks i) := of_decide_eq_false hc59
          refine wpc_re 8 rfl (congrArg Value.bool (show _ = decide (okK ⟨pf, pa, pb, pl, hv, hs⟩ to ks hs.length) by rw [decide_eq_false h1, decide_eq_false (okK_no h1 hi0)])) ?_
          refine wpc_exit ?_
          refine ex_then_exit ?_
          refine ex_then_exit ?_
          refine ex_block_hit ?_
          refine ex_mid ⟨(), trivial⟩ ?_ ?_
          ·
           exact zz9
          ·
           exact fun w h => by first | exact h | exact h.sub SubC.h SubC.h | exact h.sub zz8 zz8
        ·
         have hie : i = hs.length := by have := of_decide_eq_false hb57; omega
         refine wpl_re 8 rfl (congrArg Value.bool (show _ = decide (okK ⟨pf, pa, pb, pl, hv, hs⟩ to ks hs.length) by subst hie; rfl)) ?_
         refine wpl_off rfl rfl rfl rfl <| wpl_q (q_pure rfl) rfl <| wpl_nil <| ex_then ?_
         refine wpc_cond_f rfl ?_
         refine wpc_exit ?_
         refine ex_then_exit ?_
         refine ex_then_exit ?_
         refine ex_block_hit ?_
         refine ex_mid ⟨(), trivial⟩ ?_ ?_
         ·
          exact zz9
         ·
          exact fun w h => by first | exact h | exact h.sub SubC.h SubC.h | exact h.sub zz8 zz8
      ·
       rintro ⟨_, _⟩; try dsimp only
       refine wpc_seq <| wpc_region <| wpl_q (q_ldN Tryd.underlying29 rfl Tryd.ti29 rfl LenC.h) rfl <| wpl_q (q_pure rfl) rfl <| wpl_q (q_pure rfl) rfl ?_
       refine wpl_t (t_pur (v := .tuple #[.int .u8 ((vrV ⟨pf, pa, pb, pl, hv, hs⟩ to ks).toNat : Int), .int .i64 0]) Tryd.hb24 rfl fun w h => by
         have q := verify42 ⟨pf, pa, pb, pl, hv, hs⟩ to kv ks w (hp.old h) (h.seen_old hkv) hsm (glob h hG)
         rw [vrE_ok (show ¬ 100 < ks.length from zz13)] at q
         exact q) rfl (fun b125 => ?_)
       refine wpl_q (q_pure rfl) rfl <| wpl_q (q_pure rfl) rfl <| wpl_q (q_pure rfl) rfl <| wpl_q (q_pure rfl) rfl <| wpl_q (q_pure rfl) rfl <| wpl_nil <| ex_then <| wpc_seq <| wpc_region <| wpl_q (q_pure rfl) rfl <| wpl_q (q_pure rfl) rfl <| wpl_on rfl rfl ?_
       refine wpl_q (q_pure rfl) rfl <| wpl_on rfl rfl <| wpl_q (q_tru (q_eqI rfl rfl) rfl) rfl <| wpl_q (q_pure rfl) rfl <| wpl_q (q_pure rfl) rfl <| wpl_on rfl rfl <| wpl_q (q_pure rfl) rfl <| wpl_on rfl rfl ?_
       refine wpl_q (q8_eql (b := (1 : UInt8)) rfl rfl) rfl ?_
       refine wpl_on rfl rfl <| wpl_q (q_pure rfl) rfl <| wpl_on rfl rfl ?_
       refine wpl_q (q_tru (q_beq Tryd.underlying4 rfl rfl) (decide_eq_decide.2 (okK_all (p := ⟨pf, pa, pb, pl, hv, hs⟩) hk100 hn0))) rfl ?_
       refine wpl_q (q_pure rfl) rfl <| wpl_q (q_pure rfl) rfl <| wpl_on rfl rfl <| wpl_q (q_pure rfl) rfl <| wpl_on rfl rfl ?_
       refine wpl_q (q8_neq (b := (0 : UInt8)) rfl rfl) rfl ?_
       refine wpl_q (q_pure rfl) rfl <| wpl_q (q_pure rfl) rfl <| wpl_nil <| ex_then <| wpc_ret ?_
       refine ret1 (.inl rfl) rfl rfl ?_
       exact fun w h => ⟨by rw [decide_eq_false (vrV_known (p := ⟨pf, pa, pb, pl, hv, hs⟩) hk100 hn0)]; rfl, h.below⟩
end Go.Proofs.YtjpfhkjmjnjggaaDoor
namespace Go.Proofs.YtjpfhkjmjnjggaaDoor
open Go Go.PL Go.RowKit
section
variable {H : Type} {enc : TypeId × Value → H} {w : World} {base : Nat} {sp : Nat → Bool} {held : Bool}
theorem opensRK : Opens enc Tryd.prog w base sp held 80 (fun (k : RK) c _ => c = RK.c k) := by
  intro n c y h
  obtain ⟨⟨a, k, _⟩, x0, y0, d0, e0, h0, x1, y1, d1, e1, h1, h2⟩ := opens_struct Tryd.underlying80 (fin := 18) zz5 (OpensFs.cons (s := 1) rfl zz5 (opens_u32 Tryd.underlying49) (OpensFs.cons (s := 17) rfl zz5 opensKey (OpensFs.nil _))) n c y h
  dsimp only at h0 h1 h2
  have e : c = RK.c (a, k) := by rw [e0, e1, h0, h1, h2]; simp [RK.c]
  exact ⟨(a, k), e⟩
theorem opensRKs : Opens enc Tryd.prog w base sp held 50 (fun (p : Value × List RK) c _ => c = [p.1] ∧ Seen w.cell? p.1 p.2.length 18 (rks p.2)) := by
  intro n cs y h
  obtain ⟨⟨v, qs⟩, h1, h2, h3, _⟩ := opens_slice Tryd.underlying50 (sz := 18) zz5 opensRK n cs y h
  refine ⟨(v, qs.map (·.1)), h1, ?_⟩
  have e : (qs.map (·.2.1)).flatten = rks (qs.map (·.1)) := by
    rw [rks, List.map_map]
    congr 1
    exact List.map_congr_left fun q hq => (h3 q hq).1
  dsimp only at h2 ⊢
  rw [List.length_map, ← e]; exact h2
end
end Go.Proofs.YtjpfhkjmjnjggaaDoor
