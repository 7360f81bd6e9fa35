/- What the statement reaches, in order. -/
import Derived.Test.YtjpfhkjmjnjggaaDoorMSTI
import Derived.Test.YtjpfhkjmjnjggaaDoorMSPLI
import Derived.Test.YtjpfhkjmjnjggaaDoorMSPLZ
import Derived.Test.YtjpfhkjmjnjggaaDoorMSPLL
import Derived.Test.YtjpfhkjmjnjggaaDoorMSPLN
import Derived.Test.YtjpfhkjmjnjggaaDoorMSPLP
import Derived.WalkKit
import Derived.ProofKit
import Derived.OpenShut
import Derived.ChangeOld
import Derived.Below
import Derived.Carry
import Derived.LaidMore
import Derived.Deep.DeepHandedRow
import Derived.Deep.DeepWitnessRowRef
import Derived.Lib.LaidTab
import Derived.Stop.Joined
import Derived.Test.YtjpfhkjmjnjggaaDoorMS5
set_option linter.unusedSimpArgs false
set_option linter.unusedVariables false
set_option maxRecDepth 100000
namespace Go.Proofs.YtjpfhkjmjnjggaaDoor
open Go Go.PL Go.RowKit
theorem extend (p : Pth) (hp : Hop) (s : S16) (ht : Int) (idx : Int) (w : World) (hpp : p.seen w.cell?) (hsvh : hp.sv) (hlim : SmP p) (hG : Glb w) (hn35 : p.hs.length ≤ 35) :
    Calls Tryd.prog 28 [.agg p.c.toArray, .agg hp.c.toArray, .agg (v8s s.1).toArray, .int .i64 ht, .int .i64 idx].toArray w (GivesP w (fun x : Value × List Hop => SV x.1 (exP p hp s ht idx).hs.length ∧ HsEqv (exP p hp s ht idx).hs x.2) (fun x => .tuple #[.agg (reP (exP p hp s ht idx) x).c.toArray, .int .i64 (exE p hp ht idx)]) (fun x => [.row x.1 (exP p hp s ht idx).hs.length 68 24 (hcs x.2)]) (fun x => [hopsF x.2])) := by
  obtain ⟨pf, pa, pb, pl, hv, hs⟩ := p
  have hh : Seen w.cell? hv hs.length 24 (hcs hs) := hpp.1
  have svh := hh.sv
  have lh := svh.le
  simp only [maxLen] at lh
  have hn35 : hs.length ≤ 35 := hn35
  haveI := hsvh.one
  refine enter (m := 46) (R := Mem w [] [] []) Tryd.func28 rfl rfl (Nat.le_of_ble_eq_true rfl) (Mem.start w) ?_
  refine wpc_seq <| wpc_region ?_
  refine wpl_t (t_box rfl [.int .u8 (pf.toNat : Int), .int .u64 (pa.toNat : Int), .int .u64 (pb.toNat : Int), .int .i64 pl, hv] rfl) rfl (fun b5 => ?_)
  refine wpl_t (t_box rfl hp.c rfl) rfl (fun b6 => ?_)
  refine wpl_t (t_box rfl (v8s s.1) rfl) rfl (fun b7 => ?_)
  refine wpl_t (t_alloc Tryd.ti29 Pth.z.c rfl) rfl (fun b10 => ?_)
  refine wpl_q (q_pure rfl) rfl <| wpl_nil <| ex_then <| wpc_seq <| wpc_region <| wpl_q (q_ldN Tryd.underlying29 rfl Tryd.ti29 rfl LenC.h) rfl ?_
  refine wpl_t (t_pur Tryd.hb17 rfl fun w h => hopCheck ⟨pf, pa, pb, pl, hv, hs⟩ w (hpp.old h)) rfl (fun b15 => ?_)
  refine wpl_q (q_pure rfl) rfl <| wpl_nil <| ex_then <| wpc_seq <| wpc_seq <| wpc_region <| wpl_q (q_pure rfl) rfl <| wpl_q (q_pure rfl) rfl <| wpl_nil <| ex_then ?_
  refine wpc_cond rfl (fun hc17 => ?_) (fun hc17 => ?_)
  ·
   have hk0 : chkP ⟨pf, pa, pb, pl, hv, hs⟩ ≠ 0 := by simpa using hc17
   have hK : exK ⟨pf, pa, pb, pl, hv, hs⟩ ≠ 0 := by rw [exK_chk hk0]; exact hk0
   have hV : exE ⟨pf, pa, pb, pl, hv, hs⟩ hp ht idx = chkP ⟨pf, pa, pb, pl, hv, hs⟩ := (exE_no hK).trans (exK_chk hk0)
   refine wpc_seq <| wpc_region ?_
   refine wpl_q (q_build (cs := Pth.z.c) rfl built_pz) rfl ?_
   refine wpl_q (q_pure rfl) rfl ?_
   refine wpl_t0 (t_stA Tryd.ti29 rfl rfl LenC.h OneC.h LenC.h) (fun _ => ?_)
   refine wpl_q (q_pure rfl) rfl <| wpl_nil <| ex_then <| wpc_ret ?_
   refine ex_then_ret ?_
   refine retv2 (.inl rfl) rfl (rv_agg Tryd.underlying29 rfl Tryd.ti29 rfl (fun w h => h.atB) zz2) (rv_tmp rfl) ?_
   exact fun w1 h => ⟨(.slice none 0 0, []), ⟨by rw [exP_no hK]; exact SV.nil, by rw [exP_no hK]; exact ⟨rfl, fun i hi => by cases hi⟩⟩, by rw [exP_no hK, hV]; rfl, h.below, by rw [exP_no hK]; exact er_made h⟩
  ·
   have hk0 : chkP ⟨pf, pa, pb, pl, hv, hs⟩ = 0 := by simpa using hc17
   refine wpc_skip <| ex_then <| wpc_seq <| wpc_seq <| wpc_region <| wpl_q (q_field Tryd.underlying29 rfl Tryd.ti27 rfl rfl _ rfl) rfl <| wpl_q (q_ld Tryd.underlying27 rfl rfl rfl) rfl ?_
   refine wpl_q (q_lenW Tryd.underlying27 rfl zz4) rfl ?_
   refine wpl_q (q_pure rfl) rfl <| wpl_nil <| ex_then ?_
   refine wpc_cond rfl (fun hc23 => ?_) (fun hc23 => ?_)
   ·
    have h30q : ((hs.length : Nat) : Int) = 30 := by simpa using hc23
    have h30 : hs.length = 30 := by omega
    have hK4 : exK ⟨pf, pa, pb, pl, hv, hs⟩ = 4 := exK_many hk0 h30
    have hK : exK ⟨pf, pa, pb, pl, hv, hs⟩ ≠ 0 := by rw [hK4]; decide
    have hV : exE ⟨pf, pa, pb, pl, hv, hs⟩ hp ht idx = 4 := (exE_no hK).trans hK4
    refine wpc_seq <| wpc_region ?_
    refine wpl_q (q_build (cs := Pth.z.c) rfl built_pz) rfl ?_
    refine wpl_t0 (t_stA Tryd.ti29 rfl rfl LenC.h OneC.h LenC.h) (fun _ => ?_)
    refine wpl_q (q_pure rfl) rfl <| wpl_nil <| ex_then <| wpc_ret ?_
    refine ex_then_ret ?_
    refine retv2 (.inl rfl) rfl (rv_agg Tryd.underlying29 rfl Tryd.ti29 rfl (fun w h => h.atB) zz2) (rv_tmp rfl) ?_
    exact fun w1 h => ⟨(.slice none 0 0, []), ⟨by rw [exP_no hK]; exact SV.nil, by rw [exP_no hK]; exact ⟨rfl, fun i hi => by cases hi⟩⟩, by rw [exP_no hK, hV]; rfl, h.below, by rw [exP_no hK]; exact er_made h⟩
   ·
    have h30q : ¬ ((hs.length : Nat) : Int) = 30 := by simpa using hc23
    have h30 : ¬ hs.length = 30 := by omega
    have hK : exK ⟨pf, pa, pb, pl, hv, hs⟩ = 0 := exK_ok hk0 h30
    have hn0 : hs.length ≠ 0 := (chk_inv hk0).2.2.1
    refine wpc_skip <| ex_then <| wpc_seq <| wpc_region <| wpl_q (q_field Tryd.underlying29 rfl Tryd.ti27 rfl rfl _ rfl) rfl <| wpl_q (q_ld Tryd.underlying27 rfl rfl rfl) rfl <| wpl_q (q_field Tryd.underlying29 rfl Tryd.ti27 rfl rfl _ rfl) rfl <| wpl_q (q_ld Tryd.underlying27 rfl rfl rfl) rfl ?_
    refine wpl_q (q_lenW Tryd.underlying27 rfl zz4) rfl ?_
    refine wpl_q (q_subN (b := 1) rfl rfl zz14 zz1) rfl ?_
    refine wpl_q (q_idxW Tryd.underlying27 Tryd.ti68 rfl rfl zz4 zz1) rfl ?_
    refine wpl_q (q_fieldPo 3 Tryd.underlying68 rfl Tryd.ti49 rfl rfl rfl) rfl ?_
    refine wpl_q (q_ldWF Tryd.underlying49 rfl rfl (fun w h => h.seen_old hh) (cat_get Hop.c_length Hop.z (show hs.length - 1 < hs.length from zz14) (Hop.c_to _))) rfl ?_
    refine wpl_q (q_field Tryd.underlying68 rfl Tryd.ti49 rfl rfl _ rfl) rfl ?_
    refine wpl_t0 (t_st1 Tryd.ti49 rfl rfl rfl (by rw [Hop.c_length]; decide) (hp.wa (lastTo ⟨pf, pa, pb, pl, hv, hs⟩)).c rfl) (fun _ => ?_)
    refine wpl_nil <| ex_then <| wpc_seq ?_
    haveI : OneC (hp.wa (lastTo ⟨pf, pa, pb, pl, hv, hs⟩)).c := Hop.sv.one (h := (hp.wa (lastTo ⟨pf, pa, pb, pl, hv, hs⟩))) hsvh
    refine wpc_region <| wpl_q (q_ldN Tryd.underlying29 rfl Tryd.ti29 rfl LenC.h) rfl <| wpl_q (q_ldN Tryd.underlying68 rfl Tryd.ti68 rfl LenC.h) rfl <| wpl_q (q_ldN Tryd.underlying61 rfl Tryd.ti61 rfl LenC.h) rfl <| wpl_q (q_pure rfl) rfl <| wpl_q (q_pure rfl) rfl ?_
    refine wpl_tp (t_callPF Tryd.hb52 rfl fun w h => signP ⟨pf, pa, pb, pl, hv, hs⟩ (hp.wa (lastTo ⟨pf, pa, pb, pl, hv, hs⟩)) s ht idx w (hpp.old h) hsvh hlim (glob h hG) hn35) rfl (fun b41 p41 => ?_)
    haveI : OneC (reP (sgP ⟨pf, pa, pb, pl, hv, hs⟩ (hp.wa (lastTo ⟨pf, pa, pb, pl, hv, hs⟩)) s ht idx) b41).c := reP_one p41.1
    refine wpl_q (q_pure rfl) rfl <| wpl_q (q_pure rfl) rfl <| wpl_q (q_pure rfl) rfl ?_
    refine wpl_t (t_alloc Tryd.ti29 Pth.z.c rfl) rfl (fun b13 => ?_)
    refine wpl_t0 (t_stA Tryd.ti29 rfl rfl LenC.h OneC.h LenC.h) (fun _ => ?_)
    refine wpl_q (q_pure rfl) rfl <| wpl_nil <| ex_then <| wpc_seq <| wpc_region <| wpl_q (q_ldN Tryd.underlying29 rfl Tryd.ti29 rfl LenC.h) rfl <| wpl_q (q_pure rfl) rfl ?_
    refine wpl_t0 (t_stA Tryd.ti29 rfl rfl LenC.h OneC.h LenC.h) (fun _ => ?_)
    refine wpl_q (q_pure rfl) rfl <| wpl_nil <| ex_then <| wpc_ret ?_
    refine retv2 (.inl rfl) rfl (rv_agg Tryd.underlying29 rfl Tryd.ti29 rfl (fun w h => h.atB) zz2) (rv_tmp rfl) ?_
    exact fun w1 h => ⟨b41, by rw [exP_ok hK]; exact p41, by rw [exP_ok hK, exE_ok hK]; rfl, h.below, by rw [exP_ok hK]; exact h.made zz8 zz8⟩
theorem refExtend (p : Pth) (hp : Hop) (s : S16) (ht : Int) (idx : Int) (w : World) (hpp : p.seen w.cell?) (hsvh : hp.sv) (hlim : SmP p) (hn35 : p.hs.length ≤ 35) :
    Calls Tryd.prog 29 [.agg p.c.toArray, .agg hp.c.toArray, .agg (v8s s.1).toArray, .int .i64 ht, .int .i64 idx].toArray w (GivesP w (fun x : Value × List Hop => SV x.1 (exP p hp s ht idx).hs.length ∧ HsEqv (exP p hp s ht idx).hs x.2) (fun x => .tuple #[.agg (reP (exP p hp s ht idx) x).c.toArray, .int .i64 (exE p hp ht idx)]) (fun x => [.row x.1 (exP p hp s ht idx).hs.length 68 24 (hcs x.2)]) (fun x => [hopsF x.2])) := by
  obtain ⟨pf, pa, pb, pl, hv, hs⟩ := p
  have hh : Seen w.cell? hv hs.length 24 (hcs hs) := hpp.1
  have svh := hh.sv
  have lh := svh.le
  simp only [maxLen] at lh
  have hn35 : hs.length ≤ 35 := hn35
  haveI := hsvh.one
  refine enter (m := 45) (R := Mem w [] [] []) Tryd.func29 rfl rfl (Nat.le_of_ble_eq_true rfl) (Mem.start w) ?_
  refine wpc_seq <| wpc_region ?_
  refine wpl_t (t_box rfl [.int .u8 (pf.toNat : Int), .int .u64 (pa.toNat : Int), .int .u64 (pb.toNat : Int), .int .i64 pl, hv] rfl) rfl (fun b5 => ?_)
  refine wpl_t (t_box rfl hp.c rfl) rfl (fun b6 => ?_)
  refine wpl_t (t_box rfl (v8s s.1) rfl) rfl (fun b7 => ?_)
  refine wpl_t (t_alloc Tryd.ti29 Pth.z.c rfl) rfl (fun b10 => ?_)
  refine wpl_q (q_pure rfl) rfl <| wpl_nil <| ex_then <| wpc_seq <| wpc_region <| wpl_q (q_ldN Tryd.underlying29 rfl Tryd.ti29 rfl LenC.h) rfl ?_
  refine wpl_t (t_pur Tryd.hb18 rfl fun w h => refCheck42 ⟨pf, pa, pb, pl, hv, hs⟩ w (hpp.old h)) rfl (fun b14 => ?_)
  refine wpl_q (q_pure rfl) rfl <| wpl_nil <| ex_then ?_
  refine wpc_cutc ({ x : Int // (x = exK ⟨pf, pa, pb, pl, hv, hs⟩) }) [(3, .int .i64 ht), (4, .int .i64 idx), (5, .pointer (some ⟨b5, 0, none⟩)), (6, .pointer (some ⟨b6, 0, none⟩)), (7, .pointer (some ⟨b7, 0, none⟩)), (10, .pointer (some ⟨b10, 0, none⟩))] (fun x Lc => (12, .int .i64 x.1) :: Lc) (fun x => Mem w [] [.blk b10 29 Pth.z.c, .blk b7 61 (v8s s.1), .blk b6 68 hp.c, .blk b5 29 [.int .u8 (pf.toNat : Int), .int .u64 (pa.toNat : Int), .int .u64 (pb.toNat : Int), .int .i64 pl, hv]] []) ?_ ?_
  ·
   refine wpc_seq <| wpc_region <| wpl_q (q_pure rfl) rfl <| wpl_q (q_pure rfl) rfl <| wpl_q (q_pure rfl) rfl ?_
   refine wpl_bool2 17 16 rfl rfl (fun hb17 => ?_) (fun hb17 => ?_)
   ·
    have hk0 : chkP ⟨pf, pa, pb, pl, hv, hs⟩ = 0 := by simpa using hb17
    refine wpl_on rfl rfl <| wpl_q (q_field Tryd.underlying29 rfl Tryd.ti27 rfl rfl _ rfl) rfl <| wpl_on rfl rfl <| wpl_q (q_ld Tryd.underlying27 rfl rfl rfl) rfl <| wpl_on rfl rfl ?_
    refine wpl_q (q_lenW Tryd.underlying27 rfl zz4) rfl ?_
    refine wpl_on rfl rfl <| wpl_q (q_pure rfl) rfl <| wpl_q (q_pure rfl) rfl <| wpl_nil <| ex_then ?_
    refine wpc_cond rfl (fun hc22 => ?_) (fun hc22 => ?_)
    ·
     have h30q : ((hs.length : Nat) : Int) = 30 := by simpa using hc22
     have hX : 4 = exK ⟨pf, pa, pb, pl, hv, hs⟩ := (exK_many hk0 (by show hs.length = 30; omega)).symm
     refine wpc_region <| wpl_q (q_pure rfl) rfl <| wpl_nil ?_
     refine ex_mid ⟨4, hX⟩ ?_ ?_
     ·
      exact zz10
     ·
      exact fun w h => by first | exact h | exact h.sub SubC.h SubC.h | exact h.sub zz8 zz8
    ·
     have h30q : ¬ ((hs.length : Nat) : Int) = 30 := by simpa using hc22
     have hX : chkP ⟨pf, pa, pb, pl, hv, hs⟩ = exK ⟨pf, pa, pb, pl, hv, hs⟩ := hk0.trans (exK_ok hk0 (by show ¬ hs.length = 30; omega)).symm
     refine wpc_skip ?_
     refine ex_mid ⟨chkP ⟨pf, pa, pb, pl, hv, hs⟩, hX⟩ ?_ ?_
     ·
      exact zz10
     ·
      exact fun w h => by first | exact h | exact h.sub SubC.h SubC.h | exact h.sub zz8 zz8
   ·
    have hk : chkP ⟨pf, pa, pb, pl, hv, hs⟩ ≠ 0 := by simpa using hb17
    have hX : chkP ⟨pf, pa, pb, pl, hv, hs⟩ = exK ⟨pf, pa, pb, pl, hv, hs⟩ := (exK_chk hk).symm
    refine wpl_off rfl rfl rfl rfl <| wpl_off rfl rfl rfl rfl <| wpl_off rfl rfl rfl rfl <| wpl_off rfl rfl rfl rfl <| wpl_q (q_pure rfl) rfl <| wpl_nil <| ex_then ?_
    refine wpc_cond_f rfl ?_
    refine wpc_skip ?_
    refine ex_mid ⟨chkP ⟨pf, pa, pb, pl, hv, hs⟩, hX⟩ ?_ ?_
    ·
     exact zz10
    ·
     exact fun w h => by first | exact h | exact h.sub SubC.h SubC.h | exact h.sub zz8 zz8
  ·
   rintro ⟨e, hi0⟩; try dsimp only
   have hi0 : e = exK ⟨pf, pa, pb, pl, hv, hs⟩ := hi0
   refine wpc_seq <| wpc_seq <| wpc_region <| wpl_q (q_pure rfl) rfl <| wpl_q (q_pure rfl) rfl <| wpl_nil <| ex_then ?_
   refine wpc_cond rfl (fun hc24 => ?_) (fun hc24 => ?_)
   ·
    have hK : exK ⟨pf, pa, pb, pl, hv, hs⟩ ≠ 0 := by rw [← hi0]; simpa using hc24
    have hV : exE ⟨pf, pa, pb, pl, hv, hs⟩ hp ht idx = e := by rw [hi0]; exact exE_no hK
    refine wpc_seq <| wpc_region ?_
    refine wpl_q (q_build (cs := Pth.z.c) rfl built_pz) rfl ?_
    refine wpl_q (q_pure rfl) rfl ?_
    refine wpl_t0 (t_stA Tryd.ti29 rfl rfl LenC.h OneC.h LenC.h) (fun _ => ?_)
    refine wpl_q (q_pure rfl) rfl <| wpl_nil <| ex_then <| wpc_ret ?_
    refine ex_then_ret ?_
    refine retv2 (.inl rfl) rfl (rv_agg Tryd.underlying29 rfl Tryd.ti29 rfl (fun w h => h.atB) zz2) (rv_tmp rfl) ?_
    exact fun w1 h => ⟨(.slice none 0 0, []), ⟨by rw [exP_no hK]; exact SV.nil, by rw [exP_no hK]; exact ⟨rfl, fun i hi => by cases hi⟩⟩, by rw [exP_no hK, hV]; rfl, h.below, by rw [exP_no hK]; exact er_made h⟩
   ·
    have hK : exK ⟨pf, pa, pb, pl, hv, hs⟩ = 0 := by rw [← hi0]; simpa using hc24
    have hk0 : chkP ⟨pf, pa, pb, pl, hv, hs⟩ = 0 := exK_inv hK
    have hn0 : hs.length ≠ 0 := (chk_inv hk0).2.2.1
    refine wpc_skip <| ex_then <| wpc_seq <| wpc_region <| wpl_q (q_field Tryd.underlying29 rfl Tryd.ti27 rfl rfl _ rfl) rfl <| wpl_q (q_ld Tryd.underlying27 rfl rfl rfl) rfl <| wpl_q (q_field Tryd.underlying29 rfl Tryd.ti27 rfl rfl _ rfl) rfl <| wpl_q (q_ld Tryd.underlying27 rfl rfl rfl) rfl ?_
    refine wpl_q (q_lenW Tryd.underlying27 rfl zz4) rfl ?_
    refine wpl_q (q_subN (b := 1) rfl rfl zz14 zz1) rfl ?_
    refine wpl_q (q_idxW Tryd.underlying27 Tryd.ti68 rfl rfl zz4 zz1) rfl ?_
    refine wpl_q (q_fieldPo 3 Tryd.underlying68 rfl Tryd.ti49 rfl rfl rfl) rfl ?_
    refine wpl_q (q_ldWF Tryd.underlying49 rfl rfl (fun w h => h.seen_old hh) (cat_get Hop.c_length Hop.z (show hs.length - 1 < hs.length from zz14) (Hop.c_to _))) rfl ?_
    refine wpl_q (q_field Tryd.underlying68 rfl Tryd.ti49 rfl rfl _ rfl) rfl ?_
    refine wpl_t0 (t_st1 Tryd.ti49 rfl rfl rfl (by rw [Hop.c_length]; decide) (hp.wa (lastTo ⟨pf, pa, pb, pl, hv, hs⟩)).c rfl) (fun _ => ?_)
    refine wpl_nil <| ex_then <| wpc_seq ?_
    haveI : OneC (hp.wa (lastTo ⟨pf, pa, pb, pl, hv, hs⟩)).c := Hop.sv.one (h := (hp.wa (lastTo ⟨pf, pa, pb, pl, hv, hs⟩))) hsvh
    refine wpc_region <| wpl_q (q_ldN Tryd.underlying29 rfl Tryd.ti29 rfl LenC.h) rfl <| wpl_q (q_ldN Tryd.underlying68 rfl Tryd.ti68 rfl LenC.h) rfl <| wpl_q (q_ldN Tryd.underlying61 rfl Tryd.ti61 rfl LenC.h) rfl <| wpl_q (q_pure rfl) rfl <| wpl_q (q_pure rfl) rfl ?_
    refine wpl_tp (t_callPF Tryd.hb53 rfl fun w h => refSignP ⟨pf, pa, pb, pl, hv, hs⟩ (hp.wa (lastTo ⟨pf, pa, pb, pl, hv, hs⟩)) s ht idx w (hpp.old h) hsvh hlim hn35) rfl (fun b42 p42 => ?_)
    haveI : OneC (reP (sgP ⟨pf, pa, pb, pl, hv, hs⟩ (hp.wa (lastTo ⟨pf, pa, pb, pl, hv, hs⟩)) s ht idx) b42).c := reP_one p42.1
    refine wpl_q (q_pure rfl) rfl <| wpl_q (q_pure rfl) rfl ?_
    refine wpl_t0 (t_stA Tryd.ti29 rfl rfl LenC.h OneC.h LenC.h) (fun _ => ?_)
    refine wpl_q (q_pure rfl) rfl <| wpl_nil <| ex_then <| wpc_ret ?_
    refine retv2 (.inl rfl) rfl (rv_agg Tryd.underlying29 rfl Tryd.ti29 rfl (fun w h => h.atB) zz2) (rv_tmp rfl) ?_
    exact fun w1 h => ⟨b42, by rw [exP_ok hK]; exact p42, by rw [exP_ok hK, exE_ok hK]; rfl, h.below, by rw [exP_ok hK]; exact h.made zz8 zz8⟩
end Go.Proofs.YtjpfhkjmjnjggaaDoor
namespace Go.Proofs.YtjpfhkjmjnjggaaDoor
open Go Go.PL Go.RowKit
theorem tw2_eqv {p : Pth} {x : Value × List Hop} (h : HsEqv p.hs x.2) : p.eqv (tw2 p x) := ⟨⟨rfl, rfl, rfl, rfl⟩, h⟩
theorem tw2_seen {p : Pth} {x : Value × List Hop} {r : Rd} (h : HsEqv p.hs x.2) (h1 : Seen r x.1 p.hs.length 24 (hcs x.2)) (h2 : ∀ q ∈ x.2, q.seen r) : (tw2 p x).seen r := ⟨by
  show Seen r x.1 x.2.length 24 (hcs x.2)
  rw [← h.1]; exact h1, h2⟩
theorem lawSigns (f : UInt8) (a b : UInt64) (l : Int) (p : Pth) (hp : Hop) (s : S16) (ht : Int) (idx : Int) (w : World) (hpp : p.seen w.cell?) (hsvh : hp.sv) (hG : Glb w) :
    Calls Tryd.prog 5 [.agg (pfL f a b l).toArray, .agg p.c.toArray, .agg hp.c.toArray, .agg (v8s s.1).toArray, .int .i64 ht, .int .i64 idx].toArray w (Pur w (.bool true)) := by
  obtain ⟨pf, pa, pb, pl, hv, hs⟩ := p
  have hh : Seen w.cell? hv hs.length 24 (hcs hs) := hpp.1
  have svh := hh.sv
  have lh := svh.le
  simp only [maxLen] at lh
  haveI := hsvh.one
  refine enter (m := 93) (R := Mem w [] [] []) Tryd.func5 rfl rfl (Nat.le_of_ble_eq_true rfl) (Mem.start w) ?_
  refine wpc_seq <| wpc_region ?_
  refine wpl_t (t_box rfl (pfL f a b l) rfl) rfl (fun b6 => ?_)
  refine wpl_t (t_box rfl [.int .u8 (pf.toNat : Int), .int .u64 (pa.toNat : Int), .int .u64 (pb.toNat : Int), .int .i64 pl, hv] rfl) rfl (fun b7 => ?_)
  refine wpl_t (t_box rfl hp.c rfl) rfl (fun b8 => ?_)
  refine wpl_t (t_box rfl (v8s s.1) rfl) rfl (fun b9 => ?_)
  refine wpl_q (q_pure rfl) rfl <| wpl_nil <| ex_then <| wpc_seq <| wpc_seq <| wpc_region <| wpl_q (q_ldN Tryd.underlying29 rfl Tryd.ti29 rfl LenC.h) rfl ?_
  refine wpl_t (t_pur Tryd.hb11 rfl fun w h => refGreat42 ⟨pf, pa, pb, pl, hv, hs⟩ w (hpp.old h)) rfl (fun b23 => ?_)
  refine wpl_q (q_pure rfl) rfl ?_
  refine wpl_bool2 24 23 rfl rfl (fun hb24 => ?_) (fun hb24 => ?_)
  ·
   refine wpl_off rfl rfl rfl rfl <| wpl_off rfl rfl rfl rfl <| wpl_off rfl rfl rfl rfl <| wpl_off rfl rfl rfl rfl <| wpl_off rfl rfl rfl rfl <| wpl_off rfl rfl rfl rfl <| wpl_q (q_pure rfl) rfl <| wpl_nil <| ex_then ?_
   refine wpc_cond_t rfl ?_
   refine wpc_seq <| wpc_region <| wpl_q (q_pure rfl) rfl <| wpl_nil <| ex_then <| wpc_ret ?_
   refine ex_then_ret ?_
   refine ret1 (.inl rfl) rfl rfl ?_
   exact fun w h => ⟨rfl, h.below⟩
  ·
   have hng : ¬ GreatP ⟨pf, pa, pb, pl, hv, hs⟩ := of_decide_eq_false hb24
   obtain ⟨hsm, hn35⟩ := great_no hng
   refine wpl_on rfl rfl <| wpl_q (q_pure rfl) rfl <| wpl_on rfl rfl <| wpl_q (q_pure rfl) rfl <| wpl_on rfl rfl <| wpl_q (q_pure rfl) rfl ?_
   refine wpl_bool2 27 26 rfl rfl (fun hb27 => ?_) (fun hb27 => ?_)
   ·
    refine wpl_on rfl rfl <| wpl_q (q_pure rfl) rfl <| wpl_on rfl rfl <| wpl_q (q_pure rfl) rfl <| wpl_on rfl rfl <| wpl_q (q_pure rfl) rfl <| wpl_q (q_pure rfl) rfl <| wpl_nil <| ex_then ?_
    refine wpc_cond rfl (fun hc31 => ?_) (fun hc31 => ?_)
    ·
     refine wpc_seq <| wpc_region <| wpl_q (q_pure rfl) rfl <| wpl_nil <| ex_then <| wpc_ret ?_
     refine ex_then_ret ?_
     refine ret1 (.inl rfl) rfl rfl ?_
     exact fun w h => ⟨rfl, h.below⟩
    ·
     refine wpc_skip <| ex_then <| wpc_seq <| wpc_region <| wpl_q (q_ldN Tryd.underlying29 rfl Tryd.ti29 rfl LenC.h) rfl ?_
     refine wpl_tp (t_callPF Tryd.hb12 rfl fun w h => refTwin42 ⟨pf, pa, pb, pl, hv, hs⟩ w (hpp.old h) hsm hn35) rfl (fun b33 p33 => ?_)
     haveI : OneC (tw2 ⟨pf, pa, pb, pl, hv, hs⟩ b33).c := Pth.sv.one (p := tw2 ⟨pf, pa, pb, pl, hv, hs⟩ b33) (by show SV b33.1 b33.2.length; rw [← p33.2.1]; exact p33.1)
     refine wpl_t (t_alloc Tryd.ti29 Pth.z.c rfl) rfl (fun b13 => ?_)
     refine wpl_t0 (t_stA Tryd.ti29 rfl rfl LenC.h OneC.h LenC.h) (fun _ => ?_)
     refine wpl_nil <| ex_then <| wpc_seq <| wpc_region <| wpl_q (q_ldN Tryd.underlying26 rfl Tryd.ti26 rfl LenC.h) rfl <| wpl_q (q_ldN Tryd.underlying68 rfl Tryd.ti68 rfl LenC.h) rfl <| wpl_q (q_ldN Tryd.underlying61 rfl Tryd.ti61 rfl LenC.h) rfl <| wpl_q (q_pure rfl) rfl <| wpl_q (q_pure rfl) rfl ?_
     refine wpl_tp (t_callPF Tryd.hb26 rfl fun w h => start f a b l hp s ht idx w hsvh (glob h hG)) rfl (fun b40 p40 => ?_)
     haveI : OneC (reP (stP f a b l hp s ht idx) b40).c := reP_one p40.1
     refine wpl_q (q_pure rfl) rfl <| wpl_q (q_pure rfl) rfl <| wpl_q (q_pure rfl) rfl ?_
     refine wpl_t (t_alloc Tryd.ti29 Pth.z.c rfl) rfl (fun b14 => ?_)
     refine wpl_t0 (t_stA Tryd.ti29 rfl rfl LenC.h OneC.h LenC.h) (fun _ => ?_)
     refine wpl_q (q_pure rfl) rfl <| wpl_nil <| ex_then <| wpc_seq <| wpc_region <| wpl_q (q_ldN Tryd.underlying26 rfl Tryd.ti26 rfl LenC.h) rfl <| wpl_q (q_ldN Tryd.underlying68 rfl Tryd.ti68 rfl LenC.h) rfl <| wpl_q (q_ldN Tryd.underlying61 rfl Tryd.ti61 rfl LenC.h) rfl <| wpl_q (q_pure rfl) rfl <| wpl_q (q_pure rfl) rfl ?_
     refine wpl_tp (t_callPF Tryd.hb27 rfl fun w h => refStart f a b l hp s ht idx w hsvh) rfl (fun b49 p49 => ?_)
     haveI : OneC (reP (stP f a b l hp s ht idx) b49).c := reP_one p49.1
     refine wpl_q (q_pure rfl) rfl <| wpl_q (q_pure rfl) rfl <| wpl_q (q_pure rfl) rfl ?_
     refine wpl_t (t_alloc Tryd.ti29 Pth.z.c rfl) rfl (fun b16 => ?_)
     refine wpl_t0 (t_stA Tryd.ti29 rfl rfl LenC.h OneC.h LenC.h) (fun _ => ?_)
     refine wpl_q (q_pure rfl) rfl <| wpl_nil <| ex_then <| wpc_seq <| wpc_region <| wpl_q (q_ldN Tryd.underlying29 rfl Tryd.ti29 rfl LenC.h) rfl <| wpl_q (q_ldN Tryd.underlying68 rfl Tryd.ti68 rfl LenC.h) rfl <| wpl_q (q_ldN Tryd.underlying61 rfl Tryd.ti61 rfl LenC.h) rfl <| wpl_q (q_pure rfl) rfl <| wpl_q (q_pure rfl) rfl ?_
     refine wpl_tp (t_callPF Tryd.hb28 rfl fun w h => extend ⟨pf, pa, pb, pl, hv, hs⟩ hp s ht idx w (hpp.old h) hsvh hsm (glob h hG) hn35) rfl (fun b58 p58 => ?_)
     haveI : OneC (reP (exP ⟨pf, pa, pb, pl, hv, hs⟩ hp s ht idx) b58).c := reP_one p58.1
     refine wpl_q (q_pure rfl) rfl <| wpl_q (q_pure rfl) rfl <| wpl_q (q_pure rfl) rfl ?_
     refine wpl_t (t_alloc Tryd.ti29 Pth.z.c rfl) rfl (fun b18 => ?_)
     refine wpl_t0 (t_stA Tryd.ti29 rfl rfl LenC.h OneC.h LenC.h) (fun _ => ?_)
     refine wpl_q (q_pure rfl) rfl <| wpl_nil <| ex_then <| wpc_seq <| wpc_region <| wpl_q (q_ldN Tryd.underlying29 rfl Tryd.ti29 rfl LenC.h) rfl <| wpl_q (q_ldN Tryd.underlying68 rfl Tryd.ti68 rfl LenC.h) rfl <| wpl_q (q_ldN Tryd.underlying61 rfl Tryd.ti61 rfl LenC.h) rfl <| wpl_q (q_pure rfl) rfl <| wpl_q (q_pure rfl) rfl ?_
     refine wpl_tp (t_callPF Tryd.hb29 rfl fun w h => refExtend ⟨pf, pa, pb, pl, hv, hs⟩ hp s ht idx w (hpp.old h) hsvh hsm hn35) rfl (fun b67 p67 => ?_)
     haveI : OneC (reP (exP ⟨pf, pa, pb, pl, hv, hs⟩ hp s ht idx) b67).c := reP_one p67.1
     refine wpl_q (q_pure rfl) rfl <| wpl_q (q_pure rfl) rfl <| wpl_q (q_pure rfl) rfl ?_
     refine wpl_t (t_alloc Tryd.ti29 Pth.z.c rfl) rfl (fun b20 => ?_)
     refine wpl_t0 (t_stA Tryd.ti29 rfl rfl LenC.h OneC.h LenC.h) (fun _ => ?_)
     refine wpl_q (q_pure rfl) rfl <| wpl_nil <| ex_then <| wpc_seq <| wpc_region <| wpl_q (q_ldN Tryd.underlying29 rfl Tryd.ti29 rfl LenC.h) rfl <| wpl_q (q_ldN Tryd.underlying29 rfl Tryd.ti29 rfl LenC.h) rfl ?_
     refine wpl_t (t_pur (v := .bool true) Tryd.hb21 rfl fun w h => by
       have q := refSame42 (reP (stP f a b l hp s ht idx) b40) (reP (stP f a b l hp s ht idx) b49) w (reP_seen p40.2 (h.seen_row zz7) (hopsF_at h zz7)) (reP_seen p49.2 (h.seen_row zz7) (hopsF_at h zz7))
       rwa [decide_eq_true (reP_eqv p40.2 p49.2)] at q) rfl (fun b72 => ?_)
     refine wpl_q (q_pure rfl) rfl <| wpl_on rfl rfl <| wpl_q (q_pure rfl) rfl <| wpl_on rfl rfl <| wpl_q (q_pure rfl) rfl <| wpl_on rfl rfl <| wpl_q (q_tru (q_eqI rfl rfl) rfl) rfl <| wpl_q (q_pure rfl) rfl <| wpl_q (q_pure rfl) rfl <| wpl_on rfl rfl <| wpl_q (q_ldN Tryd.underlying29 rfl Tryd.ti29 rfl LenC.h) rfl <| wpl_on rfl rfl ?_
     refine wpl_q (q_ldN Tryd.underlying29 rfl Tryd.ti29 rfl LenC.h) rfl <| wpl_on rfl rfl ?_
     refine wpl_t (t_pur (v := .bool true) Tryd.hb21 rfl fun w h => by
       have q := refSame42 (reP (exP ⟨pf, pa, pb, pl, hv, hs⟩ hp s ht idx) b58) (reP (exP ⟨pf, pa, pb, pl, hv, hs⟩ hp s ht idx) b67) w (reP_seen p58.2 (h.seen_row zz7) (hopsF_at h zz7)) (reP_seen p67.2 (h.seen_row zz7) (hopsF_at h zz7))
       rwa [decide_eq_true (reP_eqv p58.2 p67.2)] at q) rfl (fun b81 => ?_)
     refine wpl_q (q_pure rfl) rfl <| wpl_q (q_pure rfl) rfl <| wpl_on rfl rfl <| wpl_q (q_pure rfl) rfl <| wpl_on rfl rfl <| wpl_q (q_pure rfl) rfl <| wpl_on rfl rfl <| wpl_q (q_tru (q_eqI rfl rfl) rfl) rfl <| wpl_q (q_pure rfl) rfl <| wpl_q (q_pure rfl) rfl <| wpl_on rfl rfl <| wpl_q (q_ldN Tryd.underlying29 rfl Tryd.ti29 rfl LenC.h) rfl ?_
     refine wpl_on rfl rfl <| wpl_q (q_ldN Tryd.underlying29 rfl Tryd.ti29 rfl LenC.h) rfl <| wpl_on rfl rfl ?_
     refine wpl_t (t_pur (v := .bool true) Tryd.hb21 rfl fun w h => by
       have q := refSame42 ⟨pf, pa, pb, pl, hv, hs⟩ (tw2 ⟨pf, pa, pb, pl, hv, hs⟩ b33) w (hpp.old h) (tw2_seen p33.2 (h.seen_row zz7) (hopsF_at h zz7))
       rwa [decide_eq_true (tw2_eqv p33.2)] at q) rfl (fun b91 => ?_)
     refine wpl_q (q_pure rfl) rfl <| wpl_q (q_pure rfl) rfl <| wpl_nil <| ex_then <| wpc_ret ?_
     refine ret1 (.inl rfl) rfl rfl ?_
     exact fun w h => ⟨rfl, h.below⟩
   ·
    refine wpl_off rfl rfl rfl rfl <| wpl_off rfl rfl rfl rfl <| wpl_on rfl rfl <| wpl_q (q_pure rfl) rfl <| wpl_q (q_pure rfl) rfl <| wpl_nil <| ex_then ?_
    refine wpc_cond_f rfl ?_
    refine wpc_skip <| ex_then <| wpc_seq <| wpc_region <| wpl_q (q_ldN Tryd.underlying29 rfl Tryd.ti29 rfl LenC.h) rfl ?_
    refine wpl_tp (t_callPF Tryd.hb12 rfl fun w h => refTwin42 ⟨pf, pa, pb, pl, hv, hs⟩ w (hpp.old h) hsm hn35) rfl (fun b33 p33 => ?_)
    haveI : OneC (tw2 ⟨pf, pa, pb, pl, hv, hs⟩ b33).c := Pth.sv.one (p := tw2 ⟨pf, pa, pb, pl, hv, hs⟩ b33) (by show SV b33.1 b33.2.length; rw [← p33.2.1]; exact p33.1)
    refine wpl_t (t_alloc Tryd.ti29 Pth.z.c rfl) rfl (fun b13 => ?_)
    refine wpl_t0 (t_stA Tryd.ti29 rfl rfl LenC.h OneC.h LenC.h) (fun _ => ?_)
    refine wpl_nil <| ex_then <| wpc_seq <| wpc_region <| wpl_q (q_ldN Tryd.underlying26 rfl Tryd.ti26 rfl LenC.h) rfl <| wpl_q (q_ldN Tryd.underlying68 rfl Tryd.ti68 rfl LenC.h) rfl <| wpl_q (q_ldN Tryd.underlying61 rfl Tryd.ti61 rfl LenC.h) rfl <| wpl_q (q_pure rfl) rfl <| wpl_q (q_pure rfl) rfl ?_
    refine wpl_tp (t_callPF Tryd.hb26 rfl fun w h => start f a b l hp s ht idx w hsvh (glob h hG)) rfl (fun b40 p40 => ?_)
    haveI : OneC (reP (stP f a b l hp s ht idx) b40).c := reP_one p40.1
    refine wpl_q (q_pure rfl) rfl <| wpl_q (q_pure rfl) rfl <| wpl_q (q_pure rfl) rfl ?_
    refine wpl_t (t_alloc Tryd.ti29 Pth.z.c rfl) rfl (fun b14 => ?_)
    refine wpl_t0 (t_stA Tryd.ti29 rfl rfl LenC.h OneC.h LenC.h) (fun _ => ?_)
    refine wpl_q (q_pure rfl) rfl <| wpl_nil <| ex_then <| wpc_seq <| wpc_region <| wpl_q (q_ldN Tryd.underlying26 rfl Tryd.ti26 rfl LenC.h) rfl <| wpl_q (q_ldN Tryd.underlying68 rfl Tryd.ti68 rfl LenC.h) rfl <| wpl_q (q_ldN Tryd.underlying61 rfl Tryd.ti61 rfl LenC.h) rfl <| wpl_q (q_pure rfl) rfl <| wpl_q (q_pure rfl) rfl ?_
    refine wpl_tp (t_callPF Tryd.hb27 rfl fun w h => refStart f a b l hp s ht idx w hsvh) rfl (fun b49 p49 => ?_)
    haveI : OneC (reP (stP f a b l hp s ht idx) b49).c := reP_one p49.1
    refine wpl_q (q_pure rfl) rfl <| wpl_q (q_pure rfl) rfl <| wpl_q (q_pure rfl) rfl ?_
    refine wpl_t (t_alloc Tryd.ti29 Pth.z.c rfl) rfl (fun b16 => ?_)
    refine wpl_t0 (t_stA Tryd.ti29 rfl rfl LenC.h OneC.h LenC.h) (fun _ => ?_)
    refine wpl_q (q_pure rfl) rfl <| wpl_nil <| ex_then <| wpc_seq <| wpc_region <| wpl_q (q_ldN Tryd.underlying29 rfl Tryd.ti29 rfl LenC.h) rfl <| wpl_q (q_ldN Tryd.underlying68 rfl Tryd.ti68 rfl LenC.h) rfl <| wpl_q (q_ldN Tryd.underlying61 rfl Tryd.ti61 rfl LenC.h) rfl <| wpl_q (q_pure rfl) rfl <| wpl_q (q_pure rfl) rfl ?_
    refine wpl_tp (t_callPF Tryd.hb28 rfl fun w h => extend ⟨pf, pa, pb, pl, hv, hs⟩ hp s ht idx w (hpp.old h) hsvh hsm (glob h hG) hn35) rfl (fun b58 p58 => ?_)
    haveI : OneC (reP (exP ⟨pf, pa, pb, pl, hv, hs⟩ hp s ht idx) b58).c := reP_one p58.1
    refine wpl_q (q_pure rfl) rfl <| wpl_q (q_pure rfl) rfl <| wpl_q (q_pure rfl) rfl ?_
    refine wpl_t (t_alloc Tryd.ti29 Pth.z.c rfl) rfl (fun b18 => ?_)
    refine wpl_t0 (t_stA Tryd.ti29 rfl rfl LenC.h OneC.h LenC.h) (fun _ => ?_)
    refine wpl_q (q_pure rfl) rfl <| wpl_nil <| ex_then <| wpc_seq <| wpc_region <| wpl_q (q_ldN Tryd.underlying29 rfl Tryd.ti29 rfl LenC.h) rfl <| wpl_q (q_ldN Tryd.underlying68 rfl Tryd.ti68 rfl LenC.h) rfl <| wpl_q (q_ldN Tryd.underlying61 rfl Tryd.ti61 rfl LenC.h) rfl <| wpl_q (q_pure rfl) rfl <| wpl_q (q_pure rfl) rfl ?_
    refine wpl_tp (t_callPF Tryd.hb29 rfl fun w h => refExtend ⟨pf, pa, pb, pl, hv, hs⟩ hp s ht idx w (hpp.old h) hsvh hsm hn35) rfl (fun b67 p67 => ?_)
    haveI : OneC (reP (exP ⟨pf, pa, pb, pl, hv, hs⟩ hp s ht idx) b67).c := reP_one p67.1
    refine wpl_q (q_pure rfl) rfl <| wpl_q (q_pure rfl) rfl <| wpl_q (q_pure rfl) rfl ?_
    refine wpl_t (t_alloc Tryd.ti29 Pth.z.c rfl) rfl (fun b20 => ?_)
    refine wpl_t0 (t_stA Tryd.ti29 rfl rfl LenC.h OneC.h LenC.h) (fun _ => ?_)
    refine wpl_q (q_pure rfl) rfl <| wpl_nil <| ex_then <| wpc_seq <| wpc_region <| wpl_q (q_ldN Tryd.underlying29 rfl Tryd.ti29 rfl LenC.h) rfl <| wpl_q (q_ldN Tryd.underlying29 rfl Tryd.ti29 rfl LenC.h) rfl ?_
    refine wpl_t (t_pur (v := .bool true) Tryd.hb21 rfl fun w h => by
      have q := refSame42 (reP (stP f a b l hp s ht idx) b40) (reP (stP f a b l hp s ht idx) b49) w (reP_seen p40.2 (h.seen_row zz7) (hopsF_at h zz7)) (reP_seen p49.2 (h.seen_row zz7) (hopsF_at h zz7))
      rwa [decide_eq_true (reP_eqv p40.2 p49.2)] at q) rfl (fun b72 => ?_)
    refine wpl_q (q_pure rfl) rfl <| wpl_on rfl rfl <| wpl_q (q_pure rfl) rfl <| wpl_on rfl rfl <| wpl_q (q_pure rfl) rfl <| wpl_on rfl rfl <| wpl_q (q_tru (q_eqI rfl rfl) rfl) rfl <| wpl_q (q_pure rfl) rfl <| wpl_q (q_pure rfl) rfl <| wpl_on rfl rfl <| wpl_q (q_ldN Tryd.underlying29 rfl Tryd.ti29 rfl LenC.h) rfl <| wpl_on rfl rfl ?_
    refine wpl_q (q_ldN Tryd.underlying29 rfl Tryd.ti29 rfl LenC.h) rfl <| wpl_on rfl rfl ?_
    refine wpl_t (t_pur (v := .bool true) Tryd.hb21 rfl fun w h => by
      have q := refSame42 (reP (exP ⟨pf, pa, pb, pl, hv, hs⟩ hp s ht idx) b58) (reP (exP ⟨pf, pa, pb, pl, hv, hs⟩ hp s ht idx) b67) w (reP_seen p58.2 (h.seen_row zz7) (hopsF_at h zz7)) (reP_seen p67.2 (h.seen_row zz7) (hopsF_at h zz7))
      rwa [decide_eq_true (reP_eqv p58.2 p67.2)] at q) rfl (fun b81 => ?_)
    refine wpl_q (q_pure rfl) rfl <| wpl_q (q_pure rfl) rfl <| wpl_on rfl rfl <| wpl_q (q_pure rfl) rfl <| wpl_on rfl rfl <| wpl_q (q_pure rfl) rfl <| wpl_on rfl rfl <| wpl_q (q_tru (q_eqI rfl rfl) rfl) rfl <| wpl_q (q_pure rfl) rfl <| wpl_q (q_pure rfl) rfl <| wpl_on rfl rfl <| wpl_q (q_ldN Tryd.underlying29 rfl Tryd.ti29 rfl LenC.h) rfl ?_
    refine wpl_on rfl rfl <| wpl_q (q_ldN Tryd.underlying29 rfl Tryd.ti29 rfl LenC.h) rfl <| wpl_on rfl rfl ?_
    refine wpl_t (t_pur (v := .bool true) Tryd.hb21 rfl fun w h => by
      have q := refSame42 ⟨pf, pa, pb, pl, hv, hs⟩ (tw2 ⟨pf, pa, pb, pl, hv, hs⟩ b33) w (hpp.old h) (tw2_seen p33.2 (h.seen_row zz7) (hopsF_at h zz7))
      rwa [decide_eq_true (tw2_eqv p33.2)] at q) rfl (fun b91 => ?_)
    refine wpl_q (q_pure rfl) rfl <| wpl_q (q_pure rfl) rfl <| wpl_nil <| ex_then <| wpc_ret ?_
    refine ret1 (.inl rfl) rfl rfl ?_
    exact fun w h => ⟨rfl, h.below⟩
end Go.Proofs.YtjpfhkjmjnjggaaDoor
