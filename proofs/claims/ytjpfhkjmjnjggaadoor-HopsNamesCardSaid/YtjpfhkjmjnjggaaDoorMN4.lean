/- What the statement reaches, in order. -/
import Derived.Test.YtjpfhkjmjnjggaaDoorMNTI
import Derived.Test.YtjpfhkjmjnjggaaDoorMNPLI
import Derived.Test.YtjpfhkjmjnjggaaDoorMNPLZ
import Derived.Test.YtjpfhkjmjnjggaaDoorMNPLL
import Derived.Test.YtjpfhkjmjnjggaaDoorMNPLN
import Derived.Test.YtjpfhkjmjnjggaaDoorMNPLP
import Derived.WalkKit
import Derived.ProofKit
import Derived.OpenShut
import Derived.ChangeOld
import Derived.Below
import Derived.Carry
import Derived.LaidMore
import Derived.Deep.DeepHandedRow
import Derived.Deep.DeepWitnessRowRef
import Derived.Lib.LaidTab
import Derived.Stop.Joined
import Derived.Test.YtjpfhkjmjnjggaaDoorMN3
set_option linter.unusedSimpArgs false
set_option linter.unusedVariables false
set_option maxRecDepth 100000
namespace Go.Proofs.YtjpfhkjmjnjggaaDoor
open Go Go.PL Go.RowKit
def vrE (ks : List RK) : Int := if 100 < ks.length then 4 else 0
def vrV (p : Pth) (to : UInt32) (ks : List RK) : UInt8 := if 100 < ks.length then 0 else if p.hs.length = 0 then 0 else if wrE p ks ≠ 0 ∨ 0 ≤ wrI p ks ∨ ¬ (p.hs.getD (p.hs.length - 1) Hop.z).to = to then 2 else 1
theorem vrE_many {ks : List RK} (h : 100 < ks.length) : vrE ks = 4 := if_pos h
theorem vrE_ok {ks : List RK} (h : ¬ 100 < ks.length) : vrE ks = 0 := if_neg h
theorem vrV_many {p : Pth} {to : UInt32} {ks : List RK} (h : 100 < ks.length) : vrV p to ks = 0 := if_pos h
theorem vrV_none {p : Pth} {to : UInt32} {ks : List RK} (h : ¬ 100 < ks.length) (h2 : p.hs.length = 0) : vrV p to ks = 0 := (if_neg h).trans (if_pos h2)
theorem vrV_bad {p : Pth} {to : UInt32} {ks : List RK} (h : ¬ 100 < ks.length) (h2 : ¬ p.hs.length = 0) (h3 : wrE p ks ≠ 0 ∨ 0 ≤ wrI p ks ∨ ¬ (p.hs.getD (p.hs.length - 1) Hop.z).to = to) : vrV p to ks = 2 := (if_neg h).trans ((if_neg h2).trans (if_pos h3))
theorem vrV_ok {p : Pth} {to : UInt32} {ks : List RK} (h : ¬ 100 < ks.length) (h2 : ¬ p.hs.length = 0) (h3 : ¬ (wrE p ks ≠ 0 ∨ 0 ≤ wrI p ks ∨ ¬ (p.hs.getD (p.hs.length - 1) Hop.z).to = to)) : vrV p to ks = 1 := (if_neg h).trans ((if_neg h2).trans (if_neg h3))
theorem verify42 (p : Pth) (to : UInt32) (kv : Value) (ks : List RK) (w : World) (hp : p.seen w.cell?) (hkv : Seen w.cell? kv ks.length 18 (rks ks)) (hlim : SmP p) (hG : Glb w) :
    Calls Tryd.prog 24 [.agg p.c.toArray, .int .u32 to.toNat, kv].toArray w (Pur w (.tuple #[.int .u8 ((vrV p to ks).toNat : Int), .int .i64 (vrE ks)])) := by
  obtain ⟨pf, pa, pb, pl, hv, hs⟩ := p
  have hh : Seen w.cell? hv hs.length 24 (hcs hs) := hp.1
  have svh := hh.sv
  have lh := svh.le
  simp only [maxLen] at lh
  have skv := hkv.sv
  have lkv := skv.le
  simp only [maxLen] at lkv
  refine enter (m := 42) (R := Mem w [] [] []) Tryd.func24 rfl rfl (Nat.le_of_ble_eq_true rfl) (Mem.start w) ?_
  refine wpc_seq <| wpc_region ?_
  refine wpl_t (t_box rfl [.int .u8 (pf.toNat : Int), .int .u64 (pa.toNat : Int), .int .u64 (pb.toNat : Int), .int .i64 pl, hv] rfl) rfl (fun b3 => ?_)
  refine wpl_q (q_pure rfl) rfl <| wpl_q (q_pure rfl) rfl <| wpl_nil <| ex_then <| wpc_seq <| wpc_seq <| wpc_region <| wpl_q (q_pure rfl) rfl ?_
  refine wpl_q (q_lenW Tryd.underlying50 rfl zz4) rfl ?_
  refine wpl_q (q_pure rfl) rfl <| wpl_nil <| ex_then ?_
  refine wpc_cond rfl (fun hc13 => ?_) (fun hc13 => ?_)
  ·
   simp only [decide_eq_true_eq] at hc13
   have hk100 : 100 < ks.length := by omega
   have hR : vrV ⟨pf, pa, pb, pl, hv, hs⟩ to ks = 0 := vrV_many hk100
   have hE : vrE ks = 4 := vrE_many hk100
   refine wpc_seq <| wpc_region <| wpl_q (q_pure rfl) rfl <| wpl_q (q_pure rfl) rfl <| wpl_nil <| ex_then <| wpc_ret ?_
   refine ex_then_ret ?_
   refine ret2 (.inl rfl) rfl rfl rfl ?_
   exact fun w2 h => ⟨by rw [hR, hE]; rfl, h.below⟩
  ·
   simp only [decide_eq_false_iff_not] at hc13
   have hk100 : ¬ 100 < ks.length := by omega
   have hE : vrE ks = 0 := vrE_ok hk100
   refine wpc_skip <| ex_then <| wpc_seq <| wpc_region <| wpl_q (q_field Tryd.underlying29 rfl Tryd.ti27 rfl rfl _ rfl) rfl <| wpl_q (q_ld Tryd.underlying27 rfl rfl rfl) rfl ?_
   refine wpl_q (q_lenW Tryd.underlying27 rfl zz4) rfl ?_
   refine wpl_q (q_pure rfl) rfl <| wpl_nil <| ex_then <| wpc_seq <| wpc_seq <| wpc_region <| wpl_q (q_pure rfl) rfl <| wpl_q (q_pure rfl) rfl <| wpl_nil <| ex_then ?_
   refine wpc_cond rfl (fun hc18 => ?_) (fun hc18 => ?_)
   ·
    have h0q : ((hs.length : Nat) : Int) = 0 := by simpa using hc18
    have h0 : hs.length = 0 := by omega
    have hR : vrV ⟨pf, pa, pb, pl, hv, hs⟩ to ks = 0 := vrV_none hk100 h0
    refine wpc_seq <| wpc_region <| wpl_q (q_pure rfl) rfl <| wpl_q (q_pure rfl) rfl <| wpl_nil <| ex_then <| wpc_ret ?_
    refine ex_then_ret ?_
    refine ret2 (.inl rfl) rfl rfl rfl ?_
    exact fun w2 h => ⟨by rw [hR, hE]; rfl, h.below⟩
   ·
    have h0q : ¬ ((hs.length : Nat) : Int) = 0 := by simpa using hc18
    have h0 : ¬ hs.length = 0 := by omega
    refine wpc_skip <| ex_then <| wpc_seq <| wpc_region <| wpl_q (q_ldN Tryd.underlying29 rfl Tryd.ti29 rfl LenC.h) rfl <| wpl_q (q_pure rfl) rfl ?_
    refine wpl_t (t_pur Tryd.hb22 rfl fun w h => wrong ⟨pf, pa, pb, pl, hv, hs⟩ kv ks w (hp.old h) (h.seen_old hkv) hlim (glob h hG)) rfl (fun b22 => ?_)
    refine wpl_q (q_pure rfl) rfl <| wpl_q (q_pure rfl) rfl <| wpl_q (q_pure rfl) rfl <| wpl_q (q_pure rfl) rfl <| wpl_q (q_pure rfl) rfl <| wpl_nil <| ex_then <| wpc_seq <| wpc_seq <| wpc_region <| wpl_q (q_pure rfl) rfl <| wpl_q (q_pure rfl) rfl ?_
    refine wpl_q (q_pure rfl) rfl ?_
    refine wpl_bool2 27 26 rfl rfl (fun hb27 => ?_) (fun hb27 => ?_)
    ·
     have h1 : wrE ⟨pf, pa, pb, pl, hv, hs⟩ ks ≠ 0 := by simpa using hb27
     have hbad : wrE ⟨pf, pa, pb, pl, hv, hs⟩ ks ≠ 0 ∨ 0 ≤ wrI ⟨pf, pa, pb, pl, hv, hs⟩ ks ∨ ¬ (hs.getD (hs.length - 1) Hop.z).to = to := .inl h1
     have hR : vrV ⟨pf, pa, pb, pl, hv, hs⟩ to ks = 2 := vrV_bad hk100 h0 hbad
     refine wpl_off rfl rfl rfl rfl <| wpl_off rfl rfl rfl rfl <| wpl_q (q_pure rfl) rfl <| wpl_q (q_pure rfl) rfl <| wpl_off rfl rfl rfl rfl <| wpl_off rfl rfl rfl rfl <| wpl_off rfl rfl rfl rfl <| wpl_off rfl rfl rfl rfl <| wpl_off rfl rfl rfl rfl <| wpl_off rfl rfl rfl rfl <| wpl_off rfl rfl rfl rfl <| wpl_off rfl rfl rfl rfl ?_
     refine wpl_off rfl rfl rfl rfl <| wpl_q (q_pure rfl) rfl <| wpl_nil <| ex_then ?_
     refine wpc_cond_t rfl ?_
     refine wpc_seq <| wpc_region <| wpl_q (q_pure rfl) rfl <| wpl_q (q_pure rfl) rfl <| wpl_nil <| ex_then <| wpc_ret ?_
     refine ex_then_ret ?_
     refine ret2 (.inl rfl) rfl rfl rfl ?_
     exact fun w2 h => ⟨by rw [hR, hE]; rfl, h.below⟩
    ·
     have h1 : ¬ wrE ⟨pf, pa, pb, pl, hv, hs⟩ ks ≠ 0 := by simpa using hb27
     refine wpl_on rfl rfl <| wpl_q (q_pure rfl) rfl <| wpl_on rfl rfl <| wpl_q (q_pure rfl) rfl <| wpl_q (q_pure rfl) rfl <| wpl_q (q_pure rfl) rfl ?_
     refine wpl_bool2 31 29 rfl rfl (fun hb31 => ?_) (fun hb31 => ?_)
     ·
      have h2 : 0 ≤ wrI ⟨pf, pa, pb, pl, hv, hs⟩ ks := by simpa using hb31
      have hbad : wrE ⟨pf, pa, pb, pl, hv, hs⟩ ks ≠ 0 ∨ 0 ≤ wrI ⟨pf, pa, pb, pl, hv, hs⟩ ks ∨ ¬ (hs.getD (hs.length - 1) Hop.z).to = to := .inr (.inl h2)
      have hR : vrV ⟨pf, pa, pb, pl, hv, hs⟩ to ks = 2 := vrV_bad hk100 h0 hbad
      refine wpl_off rfl rfl rfl rfl <| wpl_off rfl rfl rfl rfl <| wpl_off rfl rfl rfl rfl <| wpl_off rfl rfl rfl rfl <| wpl_off rfl rfl rfl rfl <| wpl_off rfl rfl rfl rfl <| wpl_off rfl rfl rfl rfl <| wpl_off rfl rfl rfl rfl <| wpl_off rfl rfl rfl rfl <| wpl_q (q_pure rfl) rfl <| wpl_nil <| ex_then ?_
      refine wpc_cond_t rfl ?_
      refine wpc_seq <| wpc_region <| wpl_q (q_pure rfl) rfl <| wpl_q (q_pure rfl) rfl <| wpl_nil <| ex_then <| wpc_ret ?_
      refine ex_then_ret ?_
      refine ret2 (.inl rfl) rfl rfl rfl ?_
      exact fun w2 h => ⟨by rw [hR, hE]; rfl, h.below⟩
     ·
      have h2 : ¬ 0 ≤ wrI ⟨pf, pa, pb, pl, hv, hs⟩ ks := by simpa using hb31
      refine wpl_on rfl rfl <| wpl_q (q_field Tryd.underlying29 rfl Tryd.ti27 rfl rfl _ rfl) rfl <| wpl_on rfl rfl <| wpl_q (q_ld Tryd.underlying27 rfl rfl rfl) rfl <| wpl_on rfl rfl <| wpl_q (q_pure rfl) rfl <| wpl_on rfl rfl ?_
      refine wpl_q (q_subN (b := 1) rfl rfl zz13 zz2) rfl ?_
      refine wpl_on rfl rfl ?_
      refine wpl_q (q_idxW Tryd.underlying27 Tryd.ti68 rfl rfl zz4 zz2) rfl ?_
      refine wpl_on rfl rfl <| wpl_q (q_fieldPo 3 Tryd.underlying68 rfl Tryd.ti49 rfl rfl rfl) rfl <| wpl_on rfl rfl ?_
      refine wpl_q (q_ldWF Tryd.underlying49 rfl rfl (fun w h => h.seen_old hh) (cat_get Hop.c_length Hop.z (show hs.length - 1 < hs.length from zz13) (Hop.c_to _))) rfl ?_
      refine wpl_on rfl rfl <| wpl_q (q_pure rfl) rfl <| wpl_on rfl rfl <| wpl_q (q32_neq rfl rfl) rfl <| wpl_q (q_pure rfl) rfl <| wpl_nil <| ex_then ?_
      refine wpc_cond rfl (fun hc41 => ?_) (fun hc41 => ?_)
      ·
       have h3 : ¬ (hs.getD (hs.length - 1) Hop.z).to = to := by simpa using hc41
       have hbad : wrE ⟨pf, pa, pb, pl, hv, hs⟩ ks ≠ 0 ∨ 0 ≤ wrI ⟨pf, pa, pb, pl, hv, hs⟩ ks ∨ ¬ (hs.getD (hs.length - 1) Hop.z).to = to := .inr (.inr h3)
       have hR : vrV ⟨pf, pa, pb, pl, hv, hs⟩ to ks = 2 := vrV_bad hk100 h0 hbad
       refine wpc_seq <| wpc_region <| wpl_q (q_pure rfl) rfl <| wpl_q (q_pure rfl) rfl <| wpl_nil <| ex_then <| wpc_ret ?_
       refine ex_then_ret ?_
       refine ret2 (.inl rfl) rfl rfl rfl ?_
       exact fun w2 h => ⟨by rw [hR, hE]; rfl, h.below⟩
      ·
       have h3 : (hs.getD (hs.length - 1) Hop.z).to = to := by simpa using hc41
       have hR : vrV ⟨pf, pa, pb, pl, hv, hs⟩ to ks = 1 := vrV_ok hk100 h0 (by rintro (q | q | q); exact h1 q; exact h2 q; exact q h3)
       refine wpc_skip <| ex_then <| wpc_seq <| wpc_region <| wpl_q (q_pure rfl) rfl <| wpl_q (q_pure rfl) rfl <| wpl_nil <| ex_then <| wpc_ret ?_
       refine ret2 (.inl rfl) rfl rfl rfl ?_
       exact fun w2 h => ⟨by rw [hR, hE]; rfl, h.below⟩
end Go.Proofs.YtjpfhkjmjnjggaaDoor
namespace Go.Proofs.YtjpfhkjmjnjggaaDoor
open Go Go.PL Go.RowKit
theorem firstW_neg {p : Pth} {ks : List RK} (h : ¬ 0 ≤ firstW p ks) : ∀ i, i < p.hs.length → ¬ wrongH p ks i := fun i hi hw => by
  unfold firstW at h
  split at h
  · exact h (Int.natCast_nonneg _)
  · rename_i e
    have := List.find?_eq_none.1 e i (List.mem_range.2 hi)
    exact this (decide_eq_true hw)
theorem vrV_one {p : Pth} {to : UInt32} {ks : List RK} (hk : ks.length ≤ 100) (hn : p.hs.length ≠ 0) : vrV p to ks = 1 ↔ chkP p = 0 ∧ (p.hs.getD (p.hs.length - 1) Hop.z).to = to ∧ ∀ i, i < p.hs.length → ¬ wrongH p ks i := by
  have hk' : ¬ 100 < ks.length := by omega
  by_cases hb : wrE p ks ≠ 0 ∨ 0 ≤ wrI p ks ∨ ¬ (p.hs.getD (p.hs.length - 1) Hop.z).to = to
  · rw [vrV_bad hk' hn hb]
    refine ⟨fun h => absurd h zz17, fun ⟨h1, h2, h3⟩ => ?_⟩
    exfalso
    have he : wrE p ks = 0 := wrE_ok h1 hk'
    rcases hb with hb | hb | hb
    · exact hb he
    · rw [wrI_ok he, firstW_no h3] at hb; exact absurd hb zz17
    · exact hb h2
  · rw [vrV_ok hk' hn hb]
    refine ⟨fun _ => ?_, fun _ => rfl⟩
    rw [not_or, not_or, Decidable.not_not, Decidable.not_not] at hb
    obtain ⟨he, hi, ht⟩ := hb
    rw [wrI_ok he] at hi
    exact ⟨(wrE_inv he).1, ht, firstW_neg hi⟩
end Go.Proofs.YtjpfhkjmjnjggaaDoor
namespace Go.Proofs.YtjpfhkjmjnjggaaDoor
open Go Go.PL Go.RowKit
theorem cl_nil {a : Option Addr} {cap : Nat} {sz : Nat} {n : Nat} {cs : List Value} {r : Rd} (h : Seen r (.slice a n cap) n sz cs) (hn : a.isNone = true) : n = 0 := by
  obtain ⟨a', cap', e, h1, h2, h3⟩ := h.sv
  simp only [Value.slice.injEq] at e
  obtain ⟨rfl, _, rfl⟩ := e
  have := h3 (by simpa using hn)
  omega
theorem cloneS0 (a : Option Addr) (cap : Nat) (l : List (List UInt8)) (w : World) (hav : Seen w.cell? (.slice a l.length cap) l.length 16 (v8s l.flatten)) (hll : ∀ x ∈ l, x.length = 16) (hl : l.length ≤ 1000) :
    Calls Tryd.prog 96 [.slice a l.length cap].toArray w (GivesP w (fun v => SV v l.length) (fun v => v) (fun v => [.row v l.length 61 16 (v8s l.flatten)]) (fun _ => [])) := by
  have sav := hav.sv
  refine enter (m := 8) (R := Mem w [] [] []) Tryd.func96 rfl rfl (Nat.le_of_ble_eq_true rfl) (Mem.start w) ?_
  refine wpc_seq <| wpc_region <| wpl_q (q_pure rfl) rfl <| wpl_nil <| ex_then <| wpc_seq <| wpc_seq <| wpc_region <| wpl_q (q_pure rfl) rfl ?_
  refine wpl_q (q_slNil Tryd.underlying64 rfl rfl zz6) rfl ?_
  refine wpl_nil <| ex_then ?_
  refine wpc_cond rfl (fun hc4 => ?_) (fun hc4 => ?_)
  ·
   have h0 := cl_nil hav hc4
   have hx0 := List.eq_nil_of_length_eq_zero h0
   subst hx0
   refine wpc_seq <| wpc_region <| wpl_q (q_pure rfl) rfl <| wpl_nil <| ex_then <| wpc_ret ?_
   refine ex_then_ret ?_
   refine ret1 (.inl rfl) rfl rfl ?_
   exact fun w h => ⟨.slice none 0 0, SV.nil, rfl, h.below, (h.nilRow 61 16).made zz8 .nil⟩
  ·
   refine wpc_skip <| ex_then <| wpc_seq <| wpc_region ?_
   refine wpl_tp (t_bs0W Tryd.underlying64 Tryd.ti61) rfl (fun b5 p5 => ?_)
   refine wpl_q (q_pure rfl) rfl ?_
   refine wpl_tp (t_ap0 Tryd.underlying64 Tryd.ti61 rfl zz17 rfl rfl (fun w h => h.seen_old hav) (v8s_one _) zz2 zz2) rfl (fun b7 p7 => ?_)
   refine wpl_q (q_pure rfl) rfl <| wpl_nil <| ex_then <| wpc_ret ?_
   refine ret1 (.inl rfl) rfl rfl ?_
   exact fun w h => ⟨b7, p7, rfl, h.below, h.made SubC.h .nil⟩
theorem cloneS (v : Value) (l : List (List UInt8)) (w : World) (h : Seen w.cell? v l.length 16 (v8s l.flatten)) (hll : ∀ x ∈ l, x.length = 16) (hl : l.length ≤ 1000) : Calls Tryd.prog 96 [v].toArray w (GivesP w (fun v => SV v l.length) (fun v => v) (fun v => [.row v l.length 61 16 (v8s l.flatten)]) (fun _ => [])) := by
  obtain ⟨a, cap, rfl, _⟩ := h.sv
  exact cloneS0 a cap l w h hll hl
def Hop.wc (h : Hop) (v : Value) : Hop := { h with cv := v }
def Hop.wp (h : Hop) (v : Value) : Hop := { h with pv := v }
theorem Hop.c_split (h : Hop) : h.c = (.int .u32 (h.sy.toNat : Int) :: .int .u8 (h.cnt.toNat : Int) :: .int .u8 (h.fl.toNat : Int) :: .int .u32 (h.to.toNat : Int) :: (v8s h.root.1 ++ [.int .i64 h.ht])) ++ [.int .i64 h.ix, h.cv, h.pv] := by simp [Hop.c]
theorem Hop.c_pre (h : Hop) : (.int .u32 (h.sy.toNat : Int) :: .int .u8 (h.cnt.toNat : Int) :: .int .u8 (h.fl.toNat : Int) :: .int .u32 (h.to.toNat : Int) :: (v8s h.root.1 ++ [Value.int .i64 h.ht])).length = 21 := by simp [v8s_length, h.root.2]
theorem Hop.c_set22 (h : Hop) (v : Value) : h.c.set 22 v = (h.wc v).c := by
  rw [h.c_split, List.set_append_right _ _ (by rw [h.c_pre]; decide), h.c_pre, (h.wc v).c_split]; rfl
theorem Hop.c_set23 (h : Hop) (v : Value) : h.c.set 23 v = (h.wp v).c := by
  rw [h.c_split, List.set_append_right _ _ (by rw [h.c_pre]; decide), h.c_pre, (h.wp v).c_split]; rfl
theorem twin (hp : Hop) (w : World) (hs : hp.seen w.cell?) (hlc : hp.chs.length ≤ 1000) (hlp : hp.ps.length ≤ 1000) :
    Calls Tryd.prog 79 [.agg hp.c.toArray].toArray w (GivesP w (fun x : Value × Value => SV x.1 hp.chs.length ∧ SV x.2 hp.ps.length) (fun x => .agg (hp.re x).c.toArray) (fun x => [.row x.1 hp.chs.length 61 16 (v8s hp.chs.flatten), .row x.2 hp.ps.length 61 16 (v8s hp.ps.flatten)]) (fun _ => [])) := by
  haveI := hs.sv.one
  refine enter (m := 16) (R := Mem w [] [] []) Tryd.func79 rfl rfl (Nat.le_of_ble_eq_true rfl) (Mem.start w) ?_
  refine wpc_seq <| wpc_region ?_
  refine wpl_t (t_box rfl hp.c rfl) rfl (fun b1 => ?_)
  refine wpl_t (t_alloc Tryd.ti68 Hop.z.c rfl) rfl (fun b2 => ?_)
  refine wpl_nil <| ex_then <| wpc_seq ?_
  refine wpc_draw 10 zz6 (fun _ h => h.drew) ?_
  refine wpd_p 0 rfl zz6 trivial (q_field Tryd.underlying68 rfl Tryd.ti66 rfl rfl _ rfl) rfl sk0 ?_
  refine wpd_p 1 rfl zz6 trivial (q_field Tryd.underlying66 rfl Tryd.ti64 rfl rfl _ rfl) rfl sk0 ?_
  refine wpd_q 2 rfl zz6 trivial (q_ld Tryd.underlying64 rfl rfl hp.c_cv) rfl (fun _ h => h) ?_
  refine wpd_p 4 rfl zz6 trivial (q_field Tryd.underlying68 rfl Tryd.ti66 rfl rfl _ rfl) rfl sk0 ?_
  refine wpd_p 5 rfl zz6 trivial (q_field Tryd.underlying66 rfl Tryd.ti64 rfl rfl _ rfl) rfl sk0 ?_
  refine wpd_q 6 rfl zz6 trivial (q_ld Tryd.underlying64 rfl rfl hp.c_pv) rfl (fun _ h => h) ?_
  refine wpd_tp 3 rfl zz6 trivial (t_callP1 Tryd.hb96 rfl fun w h => cloneS hp.cv hp.chs w (hs.old h).1 hs.2.1 zz13) rfl (fun _ => (fun w h => .inr (h.sub SubC.h SubC.h))) (fun b6 p6 => ?_)
  refine wpd_p 8 rfl zz6 trivial (q_field Tryd.underlying68 rfl Tryd.ti66 rfl rfl _ rfl) rfl (fun w h => .inr (h.sub SubC.h SubC.h)) ?_
  refine wpd_p 9 rfl zz6 trivial (q_field Tryd.underlying66 rfl Tryd.ti64 rfl rfl _ rfl) rfl (fun w h => .inr (h.sub SubC.h SubC.h)) ?_
  refine wpd_tp 7 rfl zz6 trivial (t_callP1 Tryd.hb96 rfl fun w h => cloneS hp.pv hp.ps w (hs.old h).2.2.1 hs.2.2.2 zz13) rfl (fun _ => (fun w h => .inr (h.sub SubC.h SubC.h))) (fun b10 p10 => ?_)
  refine wpd_t0 10 rfl zz6 trivial (t_st1 Tryd.ti64 rfl rfl (SV.one p6) (by rw [Hop.c_length]; decide) _ (Hop.c_set22 _ _)) (fun _ => skk rfl) (fun _ => ?_)
  refine wpd_p 11 rfl zz6 trivial (q_field Tryd.underlying68 rfl Tryd.ti66 rfl rfl _ rfl) rfl (skk rfl) ?_
  refine wpd_p 12 rfl zz6 trivial (q_field Tryd.underlying66 rfl Tryd.ti64 rfl rfl _ rfl) rfl (skk rfl) ?_
  refine wpd_t0 13 rfl zz6 trivial (t_st1 Tryd.ti64 rfl rfl (SV.one p10) (by rw [Hop.c_length]; decide) _ (Hop.c_set23 _ _)) (fun _ => skk rfl) (fun _ => ?_)
  refine wpd_done zz6 ?_
  refine ex_then <| wpc_seq ?_
  haveI : OneC ((hp.wc b6).wp b10).c := Hop.sv.one ⟨p6, p10⟩
  haveI : OneC ((hp.wp b10).wc b6).c := Hop.sv.one ⟨p6, p10⟩
  refine wpc_region <| wpl_q (q_ldN Tryd.underlying68 rfl Tryd.ti68 rfl LenC.h) rfl ?_
  refine wpl_t0 (t_stA Tryd.ti68 rfl rfl LenC.h OneC.h LenC.h) (fun _ => ?_)
  refine wpl_nil <| ex_then <| wpc_ret ?_
  refine retv1 (.inl rfl) rfl (rv_agg Tryd.underlying68 rfl Tryd.ti68 rfl (fun w h => h.atB) (Hop.c_length _)) ?_
  exact fun w1 h => ⟨(b6, b10), ⟨p6, p10⟩, rfl, h.below, (h.sel : Mem w [] [.row b6 hp.chs.length 61 16 (v8s hp.chs.flatten), .row b10 hp.ps.length 61 16 (v8s hp.ps.flatten)] [] w1).made (Sub.refl _) .nil⟩
theorem headB_eqv {a b : Hop} (h : a.eqv b) : headB a = headB b := by
  obtain ⟨h1, h2, h3, h4, ⟨h5, h6⟩, _⟩ := h
  unfold headB
  rw [h1, h2, h3, h4, h5, h6]
theorem tailH_eqv {a b : Hop} (h : a.eqv b) : tailH a = tailH b := by
  obtain ⟨_, _, _, _, _, h7, h8, h9⟩ := h
  unfold tailH
  rw [h7, h8, h9]
theorem restF_eqv {p q : Pth} (h : p.eqv q) : ∀ i, i ≤ p.hs.length → restF p i = restF q i
  | 0, _ => by
    obtain ⟨⟨h1, h2, h3, h4⟩, _⟩ := h
    show rest0 p = rest0 q
    unfold rest0
    rw [h1, h2, h3, h4]
  | i + 1, hi => by
    have e := h.2.2 i zz13
    show sumF ((headB (p.hs.getD i Hop.z) ++ restF p i) ++ tailH (p.hs.getD i Hop.z)) = sumF ((headB (q.hs.getD i Hop.z) ++ restF q i) ++ tailH (q.hs.getD i Hop.z))
    rw [headB_eqv e, tailH_eqv e, restF_eqv h i zz13]
theorem msgB_eqv {p q : Pth} (h : p.eqv q) {i : Nat} (hi : i < p.hs.length) : msgB p i = msgB q i := by
  unfold msgB
  rw [headB_eqv (h.2.2 i hi), restF_eqv h i zz13]
end Go.Proofs.YtjpfhkjmjnjggaaDoor
namespace Go.Proofs.YtjpfhkjmjnjggaaDoor
open Go Go.PL Go.RowKit
theorem t_stWFN {P : Program} {Q : Exit → Act → World → Prop} {n : Cx} {L : Slots} {w0 : World} {Ln : List Nat} {M : List Ent} {S : List Fact} {t : TypeId} {x y : Operand} {v u : Value} {m j k : Nat} {e : TypeId} {s' : Nat} {xs vs : List Value} {f : Ent → List Ent} {z : Value} {sz by_ : Nat} (ht : TyI P t z sz by_)
    (hx : ev L x = some (.pointer (some (((sa v).add j).add k)))) (hy : ev L y = some u) [hr : ReplV M v m e s' xs f] (hu : u.cells.toList = vs) (hl : vs.length = sz) (h1 : ∀ u ∈ vs, u.oneCell' = true) (hin : j + k + vs.length ≤ xs.length) (hpos : 0 < xs.length) (ys : List Value)
    (hys : xs.take (j + k) ++ vs ++ xs.drop (j + k + vs.length) = ys) :
    TOp P Q n (Mem w0 Ln M S) L (.store t x y) Unit (fun _ => undef) (fun _ => Mem w0 Ln (f (.row v m e s' ys)) S) := by
  rw [addr_add_add] at hx
  exact t_stWN ht hx hy hu hl h1 hin hpos ys hys
theorem keyR_l (s : S16) (ht : Int) : (keyR s.1 ht).length = 16 := keyR_length _ _
def newH (h : Hop) (s : S16) (ht : Int) : Hop := ⟨h.sy, h.cnt, h.fl, h.to, ⟨keyR s.1 ht, keyR_l s ht⟩, keyH ht, 0, .slice none 0 0, [], .slice none 0 0, []⟩
def newO (p : Pth) (h : Hop) (s : S16) (ht : Int) : Pth := ⟨p.pf, p.pa, p.pb, p.pl, .slice none 0 0, p.hs ++ [newH h s ht]⟩
def sgM (p : Pth) (h : Hop) (s : S16) (ht : Int) : List UInt8 := msgB (newO p h s ht) p.hs.length
def newS (p : Pth) (h : Hop) (s : S16) (ht idx : Int) (x : Value × Value) : Hop := ⟨h.sy, h.cnt, h.fl, h.to, ⟨keyR s.1 ht, keyR_l s ht⟩, keyH ht, sigI ht idx, x.1, sigC s.1 ht idx (sgM p h s ht), x.2, sigP s.1 ht idx⟩
def nl2 : Value × Value := (.slice none 0 0, .slice none 0 0)
def sgE (h : Hop) (ht idx : Int) : Int := if 1 < h.fl.toNat then 2 else if keyE ht ≠ 0 then keyE ht else sigE ht idx
def sgP (p : Pth) (h : Hop) (s : S16) (ht idx : Int) : Pth := if sgE h ht idx = 0 then ⟨p.pf, p.pa, p.pb, p.pl, .slice none 0 0, p.hs ++ [newS p h s ht idx nl2]⟩ else Pth.z
theorem sgE_fl {h : Hop} {ht idx : Int} (h1 : 1 < h.fl.toNat) : sgE h ht idx = 2 := if_pos h1
theorem sgE_key {h : Hop} {ht idx : Int} (h1 : ¬ 1 < h.fl.toNat) (h2 : keyE ht ≠ 0) : sgE h ht idx = keyE ht := (if_neg h1).trans (if_pos h2)
theorem sgE_sig {h : Hop} {ht idx : Int} (h1 : ¬ 1 < h.fl.toNat) (h2 : ¬ keyE ht ≠ 0) : sgE h ht idx = sigE ht idx := (if_neg h1).trans (if_neg h2)
theorem sgP_no {p : Pth} {h : Hop} {s : S16} {ht idx : Int} (h1 : sgE h ht idx ≠ 0) : sgP p h s ht idx = Pth.z := if_neg h1
theorem sgP_ok {p : Pth} {h : Hop} {s : S16} {ht idx : Int} (h1 : sgE h ht idx = 0) : sgP p h s ht idx = ⟨p.pf, p.pa, p.pb, p.pl, .slice none 0 0, p.hs ++ [newS p h s ht idx nl2]⟩ := if_pos h1
theorem newO_eqv {p : Pth} {h : Hop} {s : S16} {ht : Int} {qs : List Hop} {v : Value} (hl : qs.length = p.hs.length) (hq : ∀ j, j < p.hs.length → Hop.eqv (p.hs.getD j Hop.z) (qs.getD j Hop.z)) : (newO p h s ht).eqv ⟨p.pf, p.pa, p.pb, p.pl, v, qs ++ [newH h s ht]⟩ := by
  refine ⟨⟨rfl, rfl, rfl, rfl⟩, by show (p.hs ++ [newH h s ht]).length = (qs ++ [newH h s ht]).length; rw [List.length_append, List.length_append, hl], fun i hi => ?_⟩
  show Hop.eqv ((p.hs ++ [newH h s ht]).getD i Hop.z) ((qs ++ [newH h s ht]).getD i Hop.z)
  have hi : i < (p.hs ++ [newH h s ht]).length := hi
  rw [List.length_append, List.length_singleton] at hi
  rcases Nat.lt_or_ge i p.hs.length with h1 | h1
  · rw [getD_left rfl h1, getD_left hl h1]; exact hq i h1
  · obtain rfl : i = p.hs.length := by omega
    rw [getD_app rfl, getD_app hl]; exact ⟨rfl, rfl, rfl, rfl, ⟨rfl, rfl⟩, rfl, rfl, rfl⟩
theorem newS_eqv {p : Pth} {h : Hop} {s : S16} {ht idx : Int} {qs : List Hop} {x : Value × Value} (hl : qs.length = p.hs.length) (hq : ∀ j, j < p.hs.length → Hop.eqv (p.hs.getD j Hop.z) (qs.getD j Hop.z)) : HsEqv (p.hs ++ [newS p h s ht idx nl2]) (qs ++ [newS p h s ht idx x]) := by
  refine ⟨by rw [List.length_append, List.length_append, hl]; rfl, fun i hi => ?_⟩
  rw [List.length_append, List.length_singleton] at hi
  rcases Nat.lt_or_ge i p.hs.length with h1 | h1
  · rw [getD_left rfl h1, getD_left hl h1]; exact hq i h1
  · obtain rfl : i = p.hs.length := by omega
    rw [getD_app rfl, getD_app hl]; exact ⟨rfl, rfl, rfl, rfl, ⟨rfl, rfl⟩, rfl, rfl, rfl⟩
theorem Hop.c_setkey (h : Hop) (r : S16) (t : Int) : h.c.take 4 ++ (v8s r.1 ++ [.int .i64 t]) ++ h.c.drop (4 + 17) = (Hop.mk h.sy h.cnt h.fl h.to r t h.ix h.cv h.chs h.pv h.ps).c := by
  have e : h.c.drop (4 + 17) = [.int .i64 h.ix, h.cv, h.pv] := by rw [h.c_split, show 4 + 17 = 21 from rfl, List.drop_left' h.c_pre]
  rw [e]
  simp [Hop.c]
theorem Hop.c_setsig (h : Hop) (i : Int) (a b : Value) (l m : List (List UInt8)) : h.c.take 21 ++ [.int .i64 i, a, b] ++ h.c.drop (21 + 3) = (Hop.mk h.sy h.cnt h.fl h.to h.root h.ht i a l b m).c := by
  rw [h.c_split, List.take_left' h.c_pre, List.drop_of_length_le (by rw [List.length_append, h.c_pre]; exact Nat.le_refl _)]
  simp [Hop.c]
theorem hcs_setsig {qs : List Hop} {a : Hop} {n : Nat} (hn : qs.length = n) (i : Int) (u v : Value) (l m : List (List UInt8)) : (hcs (qs ++ [a])).take (n * 24 + 21) ++ [.int .i64 i, u, v] ++ (hcs (qs ++ [a])).drop (n * 24 + 21 + [Value.int .i64 i, u, v].length) = hcs (qs ++ [Hop.mk a.sy a.cnt a.fl a.to a.root a.ht i u l v m]) := by
  have hq : (hcs qs).length = n * 24 := by rw [hcs, cat_len Hop.c_length, hn]
  rw [← hcs_snoc, ← hcs_snoc, ← Hop.c_setsig a i u v l m, ← hq, List.take_append, List.drop_append]
  simp only [List.length_cons, List.length_nil]
  rw [List.take_of_length_le zz13, List.drop_of_length_le zz13, List.append_assoc, List.append_assoc, List.append_assoc, List.nil_append, show (hcs qs).length + 21 - (hcs qs).length = 21 from zz13, show (hcs qs).length + 21 + (0 + 1 + 1 + 1) - (hcs qs).length = 21 + 3 from zz13]
end Go.Proofs.YtjpfhkjmjnjggaaDoor
namespace Go.Proofs.YtjpfhkjmjnjggaaDoor
open Go Go.PL Go.RowKit
theorem built_pz : Tryd.prog.built 29 [] = some Pth.z.c.toArray := by kernel_rfl
theorem built_sz : Tryd.prog.built 66 [] = some #[.int .i64 0, .slice none 0 0, .slice none 0 0] := by kernel_rfl
theorem key_rl (s : S16) (ht : Int) : (v8s (keyR s.1 ht) ++ [Value.int .i64 (keyH ht)]).length = 17 := by rw [List.length_append, v8s_length, keyR_l]; rfl
theorem key_ro (s : S16) (ht : Int) : ∀ u ∈ v8s (keyR s.1 ht) ++ [Value.int .i64 (keyH ht)], u.oneCell' = true := fun u hu => by
  rcases List.mem_append.1 hu with hu | hu
  · exact v8s_one _ u hu
  · rw [List.mem_singleton] at hu; subst hu; rfl
instance lenC_keyR {s : S16} {ht : Int} : LenC (v8s (keyR s.1 ht) ++ [Value.int .i64 (keyH ht)]) 17 := ⟨key_rl s ht⟩
instance oneC_keyR {s : S16} {ht : Int} : OneC (v8s (keyR s.1 ht) ++ [Value.int .i64 (keyH ht)]) := ⟨key_ro s ht⟩
theorem Hop.setkey {h : Hop} {s : S16} {ht : Int} : h.c.take 4 ++ (v8s (keyR s.1 ht) ++ [Value.int .i64 (keyH ht)]) ++ h.c.drop (4 + (v8s (keyR s.1 ht) ++ [Value.int .i64 (keyH ht)]).length) = (Hop.mk h.sy h.cnt h.fl h.to ⟨keyR s.1 ht, keyR_l s ht⟩ (keyH ht) h.ix h.cv h.chs h.pv h.ps).c := by
  rw [key_rl]; exact h.c_setkey ⟨keyR s.1 ht, keyR_l s ht⟩ (keyH ht)
instance lenC_s16 {s : S16} : LenC (v8s s.1) 16 := ⟨S16.len s⟩
theorem newH_sv (h : Hop) (s : S16) (ht : Int) : (newH h s ht).sv := ⟨SV.nil, SV.nil⟩
instance oneC_newH {h : Hop} {s : S16} {ht : Int} : OneC (newH h s ht).c := (newH_sv h s ht).one
theorem newH_seen (r : Rd) (h : Hop) (s : S16) (ht : Int) : (newH h s ht).seen r := ⟨seen_nil _ _, fun x hx => (by cases hx), seen_nil _ _, fun x hx => (by cases hx)⟩
def reP (q : Pth) (x : Value × List Hop) : Pth := ⟨q.pf, q.pa, q.pb, q.pl, x.1, x.2⟩
theorem so_seen {r : Rd} {f : UInt8} {a b : UInt64} {l : Int} {v : Value} {qs : List Hop} {n : Nat} {h : Hop} {s : S16} {ht : Int} (hl : qs.length = n) (h1 : Seen r v (n + 1) 24 (hcs (qs ++ [newH h s ht]))) (h2 : ∀ q ∈ qs, q.seen r) : (Pth.mk f a b l v (qs ++ [newH h s ht])).seen r := by
  refine ⟨?_, fun q hq => ?_⟩
  · show Seen r v (qs ++ [newH h s ht]).length 24 (hcs (qs ++ [newH h s ht]))
    rw [List.length_append, hl]; exact h1
  · rcases List.mem_append.1 hq with hq | hq
    · exact h2 q hq
    · rw [List.mem_singleton] at hq; subst hq; exact newH_seen _ _ _ _
theorem so_small {f : UInt8} {a b : UInt64} {l : Int} {v : Value} {hs qs : List Hop} {h : Hop} {s : S16} {ht : Int} (hl : qs.length = hs.length) (hq : ∀ j, j < hs.length → Hop.eqv (hs.getD j Hop.z) (qs.getD j Hop.z)) (hm : ∀ x ∈ hs, x.chs.length ≤ 100 ∧ x.ps.length ≤ 100) : SmP (Pth.mk f a b l v (qs ++ [newH h s ht])) := fun x hx => by
  rcases List.mem_append.1 hx with hx | hx
  · obtain ⟨i, hi, rfl⟩ := List.mem_iff_getElem.1 hx
    have e := hq i zz13
    rw [List.getD_eq_getElem?_getD (l := qs), List.getElem?_eq_getElem hi] at e
    have m := hm _ (getD_memO (show i < hs.length from zz13))
    obtain ⟨_, _, _, _, _, _, e8, e9⟩ := e
    rw [e8, e9] at m
    exact m
  · rw [List.mem_singleton] at hx; subst hx; exact ⟨Nat.zero_le _, Nat.zero_le _⟩
theorem sg_made {w0 w : World} {M : List Ent} {p : Pth} {h : Hop} {s : S16} {ht idx : Int} {x : Value × Value} {v : Value} {qs : List Hop} {n : Nat} (hn : n = p.hs.length) (hok : sgE h ht idx = 0) (hm : Mem w0 [] (.row x.1 (sigC s.1 ht idx (sgM p h s ht)).length 61 16 (v8s (sigC s.1 ht idx (sgM p h s ht)).flatten) :: .row x.2 (sigP s.1 ht idx).length 61 16 (v8s (sigP s.1 ht idx).flatten) :: .row v (n + 1) 68 24 (hcs (qs ++ [newS p h s ht idx x])) :: M) [hopsF qs] w) : New w0.heap.size [.row v (sgP p h s ht idx).hs.length 68 24 (hcs (qs ++ [newS p h s ht idx x]))] [hopsF (qs ++ [newS p h s ht idx x])] w := by
  rw [sgP_ok hok]
  show New w0.heap.size [.row v (p.hs ++ [newS p h s ht idx nl2]).length 68 24 _] _ w
  rw [List.length_append, ← hn]
  have h2 := (hm.freezeRow .here).freezeRow .here
  have h3 : Mem w0 [] (.row v (n + 1) 68 24 (hcs (qs ++ [newS p h s ht idx x])) :: M) [hopsF (qs ++ [newS p h s ht idx x])] w := h2.imp fun r hr t htm => by
    rw [List.mem_singleton] at htm
    subst htm
    intro q hq
    rcases List.mem_append.1 hq with hq | hq
    · exact hr (hopsF qs) zz38 q hq
    · rw [List.mem_singleton] at hq; subst hq
      exact ⟨hr (Go.PL.seen x.1 (sigC s.1 ht idx (sgM p h s ht)).length 16 (v8s (sigC s.1 ht idx (sgM p h s ht)).flatten)) zz38, sigC_all _ _ _ _, hr (Go.PL.seen x.2 (sigP s.1 ht idx).length 16 (v8s (sigP s.1 ht idx).flatten)) zz38, sigP_all _ _ _⟩
  exact h3.made (.keep .nil) (Sub.refl _)
theorem sg_err {w0 w : World} {M : List Ent} {S : List Fact} {p : Pth} {h : Hop} {s : S16} {ht idx : Int} (hm : Mem w0 [] M S w) (he : sgE h ht idx ≠ 0) : New w0.heap.size [.row (.slice none 0 0) (sgP p h s ht idx).hs.length 68 24 (hcs [])] [hopsF []] w := by
  rw [sgP_no he]
  have h1 : Mem w0 [] (.row (.slice none 0 0) 0 68 24 [] :: M) [hopsF []] w := Mem.imp (hm.nilRow 68 24) (fun r _ t ht => zz48)
  exact h1.made (.keep .nil) (Sub.refl _)
end Go.Proofs.YtjpfhkjmjnjggaaDoor
namespace Go.Proofs.YtjpfhkjmjnjggaaDoor
open Go Go.PL Go.RowKit
theorem signP (p : Pth) (hp : Hop) (s : S16) (ht : Int) (idx : Int) (w : World) (hpp : p.seen w.cell?) (hsvh : hp.sv) (hlim : SmP p) (hG : Glb w) (hn35 : p.hs.length ≤ 35) :
    Calls Tryd.prog 52 [.agg p.c.toArray, .agg hp.c.toArray, .agg (v8s s.1).toArray, .int .i64 ht, .int .i64 idx].toArray w (GivesP w (fun x : Value × List Hop => SV x.1 (sgP p hp s ht idx).hs.length ∧ HsEqv (sgP p hp s ht idx).hs x.2) (fun x => .tuple #[.agg (reP (sgP p hp s ht idx) x).c.toArray, .int .i64 (sgE hp ht idx)]) (fun x => [.row x.1 (sgP p hp s ht idx).hs.length 68 24 (hcs x.2)]) (fun x => [hopsF x.2])) := by
  obtain ⟨pf, pa, pb, pl, hv, hs⟩ := p
  have hh : Seen w.cell? hv hs.length 24 (hcs hs) := hpp.1
  have svh := hh.sv
  have lh := svh.le
  simp only [maxLen] at lh
  have hn35 : hs.length ≤ 35 := hn35
  haveI := hsvh.one
  refine enter (m := 86) (R := Mem w [] [] []) Tryd.func52 rfl rfl (Nat.le_of_ble_eq_true rfl) (Mem.start w) ?_
  refine wpc_seq <| wpc_region ?_
  refine wpl_t (t_box rfl [.int .u8 (pf.toNat : Int), .int .u64 (pa.toNat : Int), .int .u64 (pb.toNat : Int), .int .i64 pl, hv] rfl) rfl (fun b5 => ?_)
  refine wpl_t (t_box rfl hp.c rfl) rfl (fun b6 => ?_)
  refine wpl_t (t_box rfl (v8s s.1) rfl) rfl (fun b7 => ?_)
  refine wpl_t (t_alloc Tryd.ti29 Pth.z.c rfl) rfl (fun b10 => ?_)
  refine wpl_q (q_pure rfl) rfl <| wpl_nil <| ex_then <| wpc_seq <| wpc_seq <| wpc_region <| wpl_q (q_field Tryd.underlying68 rfl Tryd.ti5 rfl rfl _ rfl) rfl <| wpl_q (q_ld Tryd.underlying5 rfl rfl hp.c_fl) rfl <| wpl_q (q_pure rfl) rfl <| wpl_nil <| ex_then ?_
  refine wpc_cond rfl (fun hc21 => ?_) (fun hc21 => ?_)
  ·
   have hfl : 1 < hp.fl.toNat := by simp only [decide_eq_true_eq] at hc21; omega
   have hV : sgE hp ht idx = 2 := sgE_fl hfl
   have hE0 : sgE hp ht idx ≠ 0 := by rw [hV]; decide
   refine wpc_seq <| wpc_region ?_
   refine wpl_q (q_build (cs := Pth.z.c) rfl built_pz) rfl ?_
   refine wpl_t0 (t_stA Tryd.ti29 rfl rfl LenC.h OneC.h LenC.h) (fun _ => ?_)
   refine wpl_q (q_pure rfl) rfl <| wpl_nil <| ex_then <| wpc_ret ?_
   refine ex_then_ret ?_
   refine retv2 (.inl rfl) rfl (rv_agg Tryd.underlying29 rfl Tryd.ti29 rfl (fun w h => h.atB) zz0) (rv_tmp rfl) ?_
   exact fun w1 h => ⟨(.slice none 0 0, []), ⟨by rw [sgP_no hE0]; exact SV.nil, zz44⟩, by rw [sgP_no hE0, hV]; rfl, h.below, sg_err h hE0⟩
  ·
   have hfl : ¬ 1 < hp.fl.toNat := by simp only [decide_eq_false_iff_not] at hc21; omega
   refine wpc_skip <| ex_then <| wpc_seq <| wpc_region <| wpl_q (q_ldN Tryd.underlying61 rfl Tryd.ti61 rfl LenC.h) rfl <| wpl_q (q_pure rfl) rfl ?_
   refine wpl_t (t_pur Tryd.hb54 rfl fun w h => key7 s.1 ht w s.2 (glob h hG)) rfl (fun b26 => ?_)
   refine wpl_q (q_pure rfl) rfl <| wpl_q (q_pure rfl) rfl <| wpl_q (q_pure rfl) rfl ?_
   refine wpl_t (t_alloc Tryd.ti63 (v8s (List.replicate 16 0) ++ [.int .i64 0]) rfl) rfl (fun b12 => ?_)
   refine wpl_t0 (t_stA Tryd.ti63 rfl rfl LenC.h (key_ro s ht) rfl) (fun _ => ?_)
   refine wpl_q (q_pure rfl) rfl <| wpl_nil <| ex_then <| wpc_seq <| wpc_seq <| wpc_region <| wpl_q (q_pure rfl) rfl <| wpl_q (q_pure rfl) rfl <| wpl_nil <| ex_then ?_
   refine wpc_cond rfl (fun hc30 => ?_) (fun hc30 => ?_)
   ·
    have hke : keyE ht ≠ 0 := by simpa using hc30
    have hV : sgE hp ht idx = keyE ht := sgE_key hfl hke
    have hE0 : sgE hp ht idx ≠ 0 := by rw [hV]; exact hke
    refine wpc_seq <| wpc_region ?_
    refine wpl_q (q_build (cs := Pth.z.c) rfl built_pz) rfl ?_
    refine wpl_q (q_pure rfl) rfl ?_
    refine wpl_t0 (t_stA Tryd.ti29 rfl rfl LenC.h OneC.h LenC.h) (fun _ => ?_)
    refine wpl_q (q_pure rfl) rfl <| wpl_nil <| ex_then <| wpc_ret ?_
    refine ex_then_ret ?_
    refine retv2 (.inl rfl) rfl (rv_agg Tryd.underlying29 rfl Tryd.ti29 rfl (fun w h => h.atB) zz0) (rv_tmp rfl) ?_
    exact fun w1 h => ⟨(.slice none 0 0, []), ⟨by rw [sgP_no hE0]; exact SV.nil, zz44⟩, by rw [sgP_no hE0, hV]; rfl, h.below, sg_err h hE0⟩
   ·
    have hke : ¬ keyE ht ≠ 0 := by simpa using hc30
    have hES : sgE hp ht idx = sigE ht idx := sgE_sig hfl hke
    refine wpc_skip <| ex_then <| wpc_seq <| wpc_region <| wpl_q (q_field Tryd.underlying29 rfl Tryd.ti26 rfl rfl _ rfl) rfl ?_
    refine wpl_q (q_ldP Tryd.underlying26 rfl Tryd.ti26 rfl (pfL pf pa pb pl) rfl zz0) rfl ?_
    refine wpl_q (q_build (cs := [.int .u8 (pf.toNat : Int), .int .u64 (pa.toNat : Int), .int .u64 (pb.toNat : Int), .int .i64 pl, .slice none 0 0]) rfl (built_pre pf pa pb pl)) rfl ?_
    refine wpl_t (t_alloc Tryd.ti29 Pth.z.c rfl) rfl (fun b14 => ?_)
    refine wpl_t0 (t_stA Tryd.ti29 rfl rfl LenC.h OneC.h LenC.h) (fun _ => ?_)
    refine wpl_nil <| ex_then <| wpc_seq <| wpc_seq <| wpc_region <| wpl_q (q_field Tryd.underlying29 rfl Tryd.ti27 rfl rfl _ rfl) rfl <| wpl_q (q_ld Tryd.underlying27 rfl rfl rfl) rfl ?_
    refine wpl_q (q_lenW Tryd.underlying27 rfl zz4) rfl ?_
    refine wpl_q (q_pure rfl) rfl <| wpl_nil <| ex_then <| wpc_block ?_
    refine wpc_loopc (ι := { x : Nat × Value × List Hop // (x.1 ≤ hs.length) ∧ (SV x.2.1 x.1) ∧ (x.2.2.length = x.1) ∧ (∀ j, j < x.1 → Hop.eqv (hs.getD j Hop.z) (x.2.2.getD j Hop.z)) }) [(3, _), (4, _), (6, _), (7, _), (10, _), (12, _), (14, _), (37, _), (38, _)] (fun x Lc => (39, .int .i64 ((x.1.1 : Nat) : Int)) :: Lc) (fun x => Mem w [] [.row x.1.2.1 x.1.1 68 24 (hcs x.1.2.2), .blk b14 29 [.int .u8 (pf.toNat : Int), .int .u64 (pa.toNat : Int), .int .u64 (pb.toNat : Int), .int .i64 pl, x.1.2.1], .blk b12 63 (v8s (keyR s.1 ht) ++ [Value.int .i64 (keyH ht)]), .blk b10 29 Pth.z.c, .blk b7 61 (v8s s.1), .blk b6 68 hp.c, .blk b5 29 [.int .u8 (pf.toNat : Int), .int .u64 (pa.toNat : Int), .int .u64 (pb.toNat : Int), .int .i64 pl, hv]] [hopsF x.1.2.2]) (fun x => hs.length - x.1.1) ⟨(0, .slice none 0 0, []), ⟨Nat.zero_le _, SV.nil, rfl, fun j hj => zz13⟩⟩ zz12 ?_ ?_
    ·
     exact fun w h => Mem.imp (h.nilRow 68 24) (fun r _ t ht => zz48)
    ·
     rintro ⟨⟨i, v, qs⟩, ⟨hi0, hi1, hi2, hi3⟩⟩; try dsimp only
     have hi0 : i ≤ hs.length := hi0; have hi1 : SV v i := hi1; have hi2 : qs.length = i := hi2; have hi3 : ∀ j, j < i → Hop.eqv (hs.getD j Hop.z) (qs.getD j Hop.z) := hi3
     refine wpc_seq <| wpc_region <| wpl_q (q_pure rfl) rfl <| wpl_nil <| ex_then <| wpc_seq ?_
     refine wpc_cond rfl (fun hc40 => ?_) (fun hc40 => ?_)
     ·
      simp only [decide_eq_true_eq] at hc40
      have hil : i < hs.length := by omega
      have hsi : ((hs.getD i Hop.z)).seen w.cell? := hpp.2 _ (getD_memO hil)
      haveI := hsi.sv.one
      have hlm : (hs.getD i Hop.z).chs.length ≤ 100 ∧ (hs.getD i Hop.z).ps.length ≤ 100 := hlim _ (getD_memO hil)
      refine wpc_skip <| ex_then <| wpc_seq <| wpc_block <| wpc_seq <| wpc_region ?_
      refine wpl_q (q_idxW Tryd.underlying27 Tryd.ti68 rfl rfl zz4 zz2) rfl ?_
      refine wpl_q (q_ldWN Tryd.underlying68 rfl Tryd.ti68 rfl (fun w h => h.seen_old hh) (hs.getD i Hop.z).c (cat_part Hop.c_length Hop.z hil) (Hop.c_length _)) rfl ?_
      refine wpl_t (t_alloc Tryd.ti68 Hop.z.c rfl) rfl (fun b16 => ?_)
      refine wpl_t0 (t_stA Tryd.ti68 rfl rfl LenC.h OneC.h LenC.h) (fun _ => ?_)
      refine wpl_nil <| ex_then ?_
      refine wpc_draw 5 zz6 (fun _ h => h.drew) ?_
      refine wpd_p 0 rfl zz6 trivial (q_field Tryd.underlying29 rfl Tryd.ti27 rfl rfl _ rfl) rfl sk0 ?_
      refine wpd_q 1 rfl zz6 trivial (q_ld Tryd.underlying27 rfl rfl rfl) rfl (fun _ h => h) ?_
      refine wpd_qB 2 [3, 4, 5] rfl zz6 trivial (q_ldN Tryd.underlying68 rfl Tryd.ti68 rfl LenC.h) rfl (fun _ h => h) ?_
      refine wpd_tp 3 rfl zz6 trivial (t_callP2 Tryd.hb79 rfl fun w h => twin (hs.getD i Hop.z) w (hsi.old h) zz13 zz13) rfl (fun _ => (fun w h => .inr (h.sub SubC.h SubC.h))) (fun b46 p46 => ?_)
      haveI : OneC (((hs.getD i Hop.z).re b46)).c := Hop.sv.one ⟨p46.1, p46.2⟩
      refine wpd_tp 4 rfl zz6 trivial (t_bsG [.agg ((hs.getD i Hop.z).re b46).c.toArray] ((hs.getD i Hop.z).re b46).c Tryd.underlying27 Tryd.ti68 rfl zz17 rfl zz17 zz17 rfl (by intro v hv; rw [List.mem_singleton] at hv; subst hv; exact Hop.c_length _) (List.append_nil _)) rfl (fun _ => (fun w h => .inr (h.sub SubC.h SubC.h))) (fun b47 p47 => ?_)
      refine wpd_tp 5 rfl zz6 trivial (t_apW Tryd.underlying27 Tryd.ti68 rfl zz17 rfl rfl (fun w h => zz9) OneC.h zz2 zz2 (hcs (qs ++ [((hs.getD i Hop.z).re b46)])) (hcs_snoc _ _)) rfl (fun _ => skk rfl) (fun b48 p48 => ?_)
      refine wpd_p 6 rfl zz6 trivial (q_field Tryd.underlying29 rfl Tryd.ti27 rfl rfl _ rfl) rfl (skk rfl) ?_
      refine wpd_t0 7 rfl zz6 trivial (t_st1 Tryd.ti27 rfl rfl (SV.one zz4) zz7 [.int .u8 (pf.toNat : Int), .int .u64 (pa.toNat : Int), .int .u64 (pb.toNat : Int), .int .i64 pl, b48] rfl) (fun _ => skk rfl) (fun _ => ?_)
      refine wpd_done zz6 ?_
      refine ex_block <| ex_then <| wpc_region ?_
      refine wpl_q (q_addN (b := 1) rfl rfl zz2) rfl ?_
      refine wpl_q (q_pure rfl) rfl <| wpl_nil ?_
      refine ex_again ⟨(i + 1, b48, qs ++ [((hs.getD i Hop.z).re b46)]), ⟨zz41, p48, by show (qs ++ [((hs.getD i Hop.z).re b46)]).length = i + 1; rw [List.length_append, hi2]; rfl, fun j hj => by
        dsimp only
        rcases Nat.lt_or_ge j i with h | h
        · rw [getD_left hi2 h]; exact hi3 j h
        · obtain rfl : j = i := (by have hj : j < i + 1 := hj; omega)
          rw [getD_app hi2]; exact eqv_re _ _⟩⟩ ?_ ?_ ?_
      ·
       exact zz12
      ·
       exact fun w h => by
         have h1 := h.sel (M' := .row b46.1 (hs.getD i Hop.z).chs.length 61 16 (v8s (hs.getD i Hop.z).chs.flatten) :: .row b46.2 (hs.getD i Hop.z).ps.length 61 16 (v8s (hs.getD i Hop.z).ps.flatten) :: [.row b48 (i + 1) 68 24 (hcs (qs ++ [((hs.getD i Hop.z).re b46)])), .blk b14 29 [.int .u8 (pf.toNat : Int), .int .u64 (pa.toNat : Int), .int .u64 (pb.toNat : Int), .int .i64 pl, b48], .blk b12 63 (v8s (keyR s.1 ht) ++ [Value.int .i64 (keyH ht)]), .blk b10 29 Pth.z.c, .blk b7 61 (v8s s.1), .blk b6 68 hp.c, .blk b5 29 [.int .u8 (pf.toNat : Int), .int .u64 (pa.toNat : Int), .int .u64 (pb.toNat : Int), .int .i64 pl, hv]])
         have h2 := (h1.freezeRow .here).freezeRow .here
         exact h2.imp fun r hr t ht => by
           rw [List.mem_singleton] at ht
           subst ht
           exact twin_fact (hr (hopsF qs) zz38) (hr (Go.PL.seen b46.1 (hs.getD i Hop.z).chs.length 16 (v8s (hs.getD i Hop.z).chs.flatten)) zz38) (hr (Go.PL.seen b46.2 (hs.getD i Hop.z).ps.length 16 (v8s (hs.getD i Hop.z).ps.flatten)) zz38) hsi.2.1 hsi.2.2.2
      ·
       (show hs.length - (i + 1) < hs.length - i); omega
     ·
      simp only [decide_eq_false_iff_not] at hc40
      obtain rfl : i = hs.length := by omega
      have svv := hi1
      refine wpc_exit ?_
      refine ex_then_exit ?_
      refine ex_then_exit ?_
      refine ex_block_hit ?_
      refine ex_then <| wpc_seq <| wpc_region <| wpl_q (q_ldN Tryd.underlying63 rfl Tryd.ti63 rfl LenC.h) rfl ?_
      refine wpl_q (q_build (cs := [.int .i64 0, .slice none 0 0, .slice none 0 0]) rfl built_sz) rfl ?_
      refine wpl_q (q_field Tryd.underlying68 rfl Tryd.ti63 rfl rfl _ rfl) rfl ?_
      refine wpl_t0 (t_stP Tryd.ti63 rfl rfl zz0 (key_ro s ht) (by rw [key_rl, Hop.c_length]; decide) _ Hop.setkey) (fun _ => ?_)
      refine wpl_q (q_field Tryd.underlying68 rfl Tryd.ti66 rfl rfl _ rfl) rfl ?_
      refine wpl_t0 (t_stP Tryd.ti66 rfl rfl zz0 zz3 (by rw [Hop.c_length]; exact Nat.le_refl _) (newH hp s ht).c (Hop.c_setsig _ _ _ _ _ _)) (fun _ => ?_)
      refine wpl_nil <| ex_then <| wpc_seq <| wpc_region <| wpl_q (q_field Tryd.underlying29 rfl Tryd.ti27 rfl rfl _ rfl) rfl <| wpl_q (q_ld Tryd.underlying27 rfl rfl rfl) rfl <| wpl_q (q_ldN Tryd.underlying68 rfl Tryd.ti68 rfl LenC.h) rfl ?_
      refine wpl_tp (t_bsG [.agg (newH hp s ht).c.toArray] (newH hp s ht).c Tryd.underlying27 Tryd.ti68 rfl zz17 rfl zz17 zz17 rfl (by intro v hv; rw [List.mem_singleton] at hv; subst hv; exact Hop.c_length _) (List.append_nil _)) rfl (fun b58 p58 => ?_)
      refine wpl_tp (t_apW Tryd.underlying27 Tryd.ti68 rfl zz17 rfl rfl (fun w h => zz9) OneC.h zz2 zz2 (hcs (qs ++ [(newH hp s ht)])) (hcs_snoc _ _)) rfl (fun b59 p59 => ?_)
      refine wpl_q (q_field Tryd.underlying29 rfl Tryd.ti27 rfl rfl _ rfl) rfl ?_
      refine wpl_t0 (t_st1 Tryd.ti27 rfl rfl (SV.one zz4) zz7 [.int .u8 (pf.toNat : Int), .int .u64 (pa.toNat : Int), .int .u64 (pb.toNat : Int), .int .i64 pl, b59] rfl) (fun _ => ?_)
      refine wpl_nil <| ex_then <| wpc_seq <| wpc_region <| wpl_q (q_field Tryd.underlying29 rfl Tryd.ti27 rfl rfl _ rfl) rfl <| wpl_q (q_ld Tryd.underlying27 rfl rfl rfl) rfl ?_
      refine wpl_q (q_lenW Tryd.underlying27 rfl zz4) rfl ?_
      refine wpl_q (q_subN (b := 1) rfl rfl zz13 zz2) rfl ?_
      refine wpl_q (q_pure rfl) rfl <| wpl_nil <| ex_then <| wpc_seq ?_
      have hqe := newO_eqv (p := ⟨pf, pa, pb, pl, hv, hs⟩) (h := hp) (s := s) (ht := ht) (v := b59) hi2 hi3
      have hme : msgB (Pth.mk pf pa pb pl b59 (qs ++ [(newH hp s ht)])) hs.length = (sgM ⟨pf, pa, pb, pl, hv, hs⟩ hp s ht) := (msgB_eqv hqe (show hs.length < (hs ++ [(newH hp s ht)]).length by rw [List.length_append]; exact Nat.lt_succ_self _)).symm
      have hsm : SmP (Pth.mk pf pa pb pl b59 (qs ++ [(newH hp s ht)])) := so_small hi2 hi3 hlim
      have hjn : hs.length < (qs ++ [(newH hp s ht)]).length := by rw [List.length_append, hi2]; exact Nat.lt_succ_self _
      refine wpc_draw 11 zz6 (fun _ h => h.drew) ?_
      refine wpd_q 0 rfl zz6 trivial (q_ldN Tryd.underlying61 rfl Tryd.ti61 rfl LenC.h) rfl (fun _ h => h) ?_
      refine wpd_p 1 rfl zz6 trivial (q_pure rfl) rfl sk0 ?_
      refine wpd_p 2 rfl zz6 trivial (q_pure rfl) rfl sk0 ?_
      refine wpd_q 3 rfl zz6 trivial (q_ldN Tryd.underlying29 rfl Tryd.ti29 rfl LenC.h) rfl (fun _ h => h) ?_
      refine wpd_p 4 rfl zz6 trivial (q_pure rfl) rfl sk0 ?_
      refine wpd_two 5 10 zz6 ?_ ?_
      ·
       refine wpa_tp 5 rfl trivial (t_callP1 Tryd.hb38 rfl fun w h => by
         have q := message_ (Pth.mk pf pa pb pl b59 (qs ++ [(newH hp s ht)])) hs.length w (so_seen hi2 (h.seen_row zz5) (hopsF_at h zz5)) hjn hsm (glob h hG)
         rw [hme] at q
         exact q) rfl (fun _ => (fun w h => .inr (h.sub SubC.h SubC.h))) (fun b71 p71 => ?_)
       refine wpd_two 6 10 zz6 ?_ ?_
       ·
        refine wpa_tp 6 rfl trivial (t_callP2 Tryd.hb80 rfl fun w h => sign7 s.1 ht idx b71 (sgM ⟨pf, pa, pb, pl, hv, hs⟩ hp s ht) w s.2 (h.seen_row zz5) (glob h hG)) rfl (fun _ => (fun w h => .inr (h.sub SubC.h SubC.h))) (fun b72 p72 => ?_)
        refine wpd_p 7 rfl zz6 trivial (q_pure rfl) rfl (fun w h => .inr (h.sub SubC.h SubC.h)) ?_
        refine wpd_p 8 rfl zz6 trivial (q_pure rfl) rfl (fun w h => .inr (h.sub SubC.h SubC.h)) ?_
        refine wpd_p 9 rfl zz6 trivial (q_pure rfl) rfl (fun w h => .inr (h.sub SubC.h SubC.h)) ?_
        refine wpd_t 10 rfl zz6 trivial (t_alloc Tryd.ti66 [.int .i64 0, .slice none 0 0, .slice none 0 0] rfl) rfl (fun _ => (fun w h => .inr (h.sub SubC.h SubC.h))) (fun b18 => ?_)
        refine wpd_t0 11 rfl zz6 trivial (t_stA Tryd.ti66 rfl rfl rfl (OneC.cons rfl (OneC.cons (SV.one p72.1) (OneC.cons (SV.one p72.2) oneC_nil))).h rfl) (fun _ => skk rfl) (fun _ => ?_)
        refine wpd_p 12 rfl zz6 trivial (q_pure rfl) rfl (skk rfl) ?_
        refine wpd_done zz6 ?_
        refine ex_then <| wpc_seq <| wpc_seq <| wpc_region <| wpl_q (q_pure rfl) rfl <| wpl_q (q_pure rfl) rfl <| wpl_nil <| ex_then ?_
        refine wpc_cond rfl (fun hc76 => ?_) (fun hc76 => ?_)
        ·
         have hse : sigE ht idx ≠ 0 := by simpa using hc76
         have hV := hES
         have hE0 : sgE hp ht idx ≠ 0 := by rw [hV]; exact hse
         refine wpc_seq <| wpc_region ?_
         refine wpl_q (q_build (cs := Pth.z.c) rfl built_pz) rfl ?_
         refine wpl_q (q_pure rfl) rfl ?_
         refine wpl_t0 (t_stA Tryd.ti29 rfl rfl LenC.h OneC.h LenC.h) (fun _ => ?_)
         refine wpl_q (q_pure rfl) rfl <| wpl_nil <| ex_then <| wpc_ret ?_
         refine ex_then_ret ?_
         refine retv2 (.inl rfl) rfl (rv_agg Tryd.underlying29 rfl Tryd.ti29 rfl (fun w h => h.atB) zz0) (rv_tmp rfl) ?_
         exact fun w1 h => ⟨(.slice none 0 0, []), ⟨by rw [sgP_no hE0]; exact SV.nil, zz44⟩, by rw [sgP_no hE0, hV]; rfl, h.below, sg_err h hE0⟩
        ·
         have hse : sigE ht idx = 0 := by simpa using hc76
         have hE0 : sgE hp ht idx = 0 := hES.trans hse
         refine wpc_skip <| ex_then <| wpc_seq <| wpc_region <| wpl_q (q_field Tryd.underlying29 rfl Tryd.ti27 rfl rfl _ rfl) rfl <| wpl_q (q_ld Tryd.underlying27 rfl rfl rfl) rfl <| wpl_q (q_pure rfl) rfl <| wpl_q (q_ldN Tryd.underlying66 rfl Tryd.ti66 rfl LenC.h) rfl ?_
         refine wpl_q (q_idxW Tryd.underlying27 Tryd.ti68 rfl rfl zz4 zz2) rfl ?_
         refine wpl_q (q_fieldPo 21 Tryd.underlying68 rfl Tryd.ti66 rfl rfl rfl) rfl ?_
         refine wpl_t0 (t_stWFN (j := hs.length * 24) (k := 21) (vs := [.int .i64 (sigI ht idx), b72.1, b72.2]) Tryd.ti66 rfl rfl rfl rfl (OneC.cons rfl (OneC.cons (SV.one p72.1) (OneC.cons (SV.one p72.2) oneC_nil))).h zz42 (by rw [hcs, cat_len Hop.c_length, List.length_append]; simp) (hcs (qs ++ [(newS ⟨pf, pa, pb, pl, hv, hs⟩ hp s ht idx b72)])) (hcs_setsig hi2 _ _ _ _ _)) (fun _ => ?_)
         refine wpl_nil <| ex_then <| wpc_seq ?_
         haveI : OneC [.int .u8 (pf.toNat : Int), .int .u64 (pa.toNat : Int), .int .u64 (pb.toNat : Int), .int .i64 pl, b59] := Pth.sv.one (p := ⟨pf, pa, pb, pl, b59, qs ++ [(newH hp s ht)]⟩) (by show SV b59 (qs ++ [(newH hp s ht)]).length; rw [List.length_append, hi2]; exact p59)
         refine wpc_region <| wpl_q (q_ldN Tryd.underlying29 rfl Tryd.ti29 rfl LenC.h) rfl ?_
         refine wpl_t0 (t_stA Tryd.ti29 rfl rfl LenC.h OneC.h LenC.h) (fun _ => ?_)
         refine wpl_q (q_pure rfl) rfl <| wpl_nil <| ex_then <| wpc_ret ?_
         refine retv2 (.inl rfl) rfl (rv_agg Tryd.underlying29 rfl Tryd.ti29 rfl (fun w h => h.atB) zz0) (rv_tmp rfl) ?_
         exact fun w1 h => ⟨(b59, qs ++ [(newS ⟨pf, pa, pb, pl, hv, hs⟩ hp s ht idx b72)]), ⟨by rw [sgP_ok hE0]; show SV b59 (hs ++ [_]).length; rw [List.length_append]; exact p59, by rw [sgP_ok hE0]; exact newS_eqv (p := ⟨pf, pa, pb, pl, hv, hs⟩) hi2 hi3⟩, by rw [sgP_ok hE0, hE0]; rfl, h.below, sg_made (M := []) (v := b59) (n := hs.length) (p := ⟨pf, pa, pb, pl, hv, hs⟩) rfl hE0 h.sel⟩
       ·
        refine wpa_t 10 rfl trivial (t_alloc Tryd.ti66 [.int .i64 0, .slice none 0 0, .slice none 0 0] rfl) rfl (fun _ => (fun w h => .inr (h.sub SubC.h SubC.h))) (fun b18 => ?_)
        refine wpd_tp 6 rfl zz6 trivial (t_callP2 Tryd.hb80 rfl fun w h => sign7 s.1 ht idx b71 (sgM ⟨pf, pa, pb, pl, hv, hs⟩ hp s ht) w s.2 (h.seen_row zz5) (glob h hG)) rfl (fun _ => (fun w h => .inr (h.sub SubC.h SubC.h))) (fun b72 p72 => ?_)
        refine wpd_p 7 rfl zz6 trivial (q_pure rfl) rfl (fun w h => .inr (h.sub SubC.h SubC.h)) ?_
        refine wpd_p 8 rfl zz6 trivial (q_pure rfl) rfl (fun w h => .inr (h.sub SubC.h SubC.h)) ?_
        refine wpd_p 9 rfl zz6 trivial (q_pure rfl) rfl (fun w h => .inr (h.sub SubC.h SubC.h)) ?_
        refine wpd_t0 11 rfl zz6 trivial (t_stA Tryd.ti66 rfl rfl rfl (OneC.cons rfl (OneC.cons (SV.one p72.1) (OneC.cons (SV.one p72.2) oneC_nil))).h rfl) (fun _ => skk rfl) (fun _ => ?_)
        refine wpd_p 12 rfl zz6 trivial (q_pure rfl) rfl (skk rfl) ?_
        refine wpd_done zz6 ?_
        refine ex_then <| wpc_seq <| wpc_seq <| wpc_region <| wpl_q (q_pure rfl) rfl <| wpl_q (q_pure rfl) rfl <| wpl_nil <| ex_then ?_
        refine wpc_cond rfl (fun hc76 => ?_) (fun hc76 => ?_)
        ·
         have hse : sigE ht idx ≠ 0 := by simpa using hc76
         have hV := hES
         have hE0 : sgE hp ht idx ≠ 0 := by rw [hV]; exact hse
         refine wpc_seq <| wpc_region ?_
         refine wpl_q (q_build (cs := Pth.z.c) rfl built_pz) rfl ?_
         refine wpl_q (q_pure rfl) rfl ?_
         refine wpl_t0 (t_stA Tryd.ti29 rfl rfl LenC.h OneC.h LenC.h) (fun _ => ?_)
         refine wpl_q (q_pure rfl) rfl <| wpl_nil <| ex_then <| wpc_ret ?_
         refine ex_then_ret ?_
         refine retv2 (.inl rfl) rfl (rv_agg Tryd.underlying29 rfl Tryd.ti29 rfl (fun w h => h.atB) zz0) (rv_tmp rfl) ?_
         exact fun w1 h => ⟨(.slice none 0 0, []), ⟨by rw [sgP_no hE0]; exact SV.nil, zz44⟩, by rw [sgP_no hE0, hV]; rfl, h.below, sg_err h hE0⟩
        ·
         have hse : sigE ht idx = 0 := by simpa using hc76
         have hE0 : sgE hp ht idx = 0 := hES.trans hse
         refine wpc_skip <| ex_then <| wpc_seq <| wpc_region <| wpl_q (q_field Tryd.underlying29 rfl Tryd.ti27 rfl rfl _ rfl) rfl <| wpl_q (q_ld Tryd.underlying27 rfl rfl rfl) rfl <| wpl_q (q_pure rfl) rfl <| wpl_q (q_ldN Tryd.underlying66 rfl Tryd.ti66 rfl LenC.h) rfl ?_
         refine wpl_q (q_idxW Tryd.underlying27 Tryd.ti68 rfl rfl zz4 zz2) rfl ?_
         refine wpl_q (q_fieldPo 21 Tryd.underlying68 rfl Tryd.ti66 rfl rfl rfl) rfl ?_
         refine wpl_t0 (t_stWFN (j := hs.length * 24) (k := 21) (vs := [.int .i64 (sigI ht idx), b72.1, b72.2]) Tryd.ti66 rfl rfl rfl rfl (OneC.cons rfl (OneC.cons (SV.one p72.1) (OneC.cons (SV.one p72.2) oneC_nil))).h zz42 (by rw [hcs, cat_len Hop.c_length, List.length_append]; simp) (hcs (qs ++ [(newS ⟨pf, pa, pb, pl, hv, hs⟩ hp s ht idx b72)])) (hcs_setsig hi2 _ _ _ _ _)) (fun _ => ?_)
         refine wpl_nil <| ex_then <| wpc_seq ?_
         haveI : OneC [.int .u8 (pf.toNat : Int), .int .u64 (pa.toNat : Int), .int .u64 (pb.toNat : Int), .int .i64 pl, b59] := Pth.sv.one (p := ⟨pf, pa, pb, pl, b59, qs ++ [(newH hp s ht)]⟩) (by show SV b59 (qs ++ [(newH hp s ht)]).length; rw [List.length_append, hi2]; exact p59)
         refine wpc_region <| wpl_q (q_ldN Tryd.underlying29 rfl Tryd.ti29 rfl LenC.h) rfl ?_
         refine wpl_t0 (t_stA Tryd.ti29 rfl rfl LenC.h OneC.h LenC.h) (fun _ => ?_)
         refine wpl_q (q_pure rfl) rfl <| wpl_nil <| ex_then <| wpc_ret ?_
         refine retv2 (.inl rfl) rfl (rv_agg Tryd.underlying29 rfl Tryd.ti29 rfl (fun w h => h.atB) zz0) (rv_tmp rfl) ?_
         exact fun w1 h => ⟨(b59, qs ++ [(newS ⟨pf, pa, pb, pl, hv, hs⟩ hp s ht idx b72)]), ⟨by rw [sgP_ok hE0]; show SV b59 (hs ++ [_]).length; rw [List.length_append]; exact p59, by rw [sgP_ok hE0]; exact newS_eqv (p := ⟨pf, pa, pb, pl, hv, hs⟩) hi2 hi3⟩, by rw [sgP_ok hE0, hE0]; rfl, h.below, sg_made (M := []) (v := b59) (n := hs.length) (p := ⟨pf, pa, pb, pl, hv, hs⟩) rfl hE0 h.sel⟩
      ·
       refine wpa_t 10 rfl trivial (t_alloc Tryd.ti66 [.int .i64 0, .slice none 0 0, .slice none 0 0] rfl) rfl (fun _ => (fun w h => .inr (h.sub SubC.h SubC.h))) (fun b18 => ?_)
       refine wpd_tp 5 rfl zz6 trivial (t_callP1 Tryd.hb38 rfl fun w h => by
         have q := message_ (Pth.mk pf pa pb pl b59 (qs ++ [(newH hp s ht)])) hs.length w (so_seen hi2 (h.seen_row zz5) (hopsF_at h zz5)) hjn hsm (glob h hG)
         rw [hme] at q
         exact q) rfl (fun _ => (fun w h => .inr (h.sub SubC.h SubC.h))) (fun b71 p71 => ?_)
       refine wpd_tp 6 rfl zz6 trivial (t_callP2 Tryd.hb80 rfl fun w h => sign7 s.1 ht idx b71 (sgM ⟨pf, pa, pb, pl, hv, hs⟩ hp s ht) w s.2 (h.seen_row zz5) (glob h hG)) rfl (fun _ => (fun w h => .inr (h.sub SubC.h SubC.h))) (fun b72 p72 => ?_)
       refine wpd_p 7 rfl zz6 trivial (q_pure rfl) rfl (fun w h => .inr (h.sub SubC.h SubC.h)) ?_
       refine wpd_p 8 rfl zz6 trivial (q_pure rfl) rfl (fun w h => .inr (h.sub SubC.h SubC.h)) ?_
       refine wpd_p 9 rfl zz6 trivial (q_pure rfl) rfl (fun w h => .inr (h.sub SubC.h SubC.h)) ?_
       refine wpd_t0 11 rfl zz6 trivial (t_stA Tryd.ti66 rfl rfl rfl (OneC.cons rfl (OneC.cons (SV.one p72.1) (OneC.cons (SV.one p72.2) oneC_nil))).h rfl) (fun _ => skk rfl) (fun _ => ?_)
       refine wpd_p 12 rfl zz6 trivial (q_pure rfl) rfl (skk rfl) ?_
       refine wpd_done zz6 ?_
       refine ex_then <| wpc_seq <| wpc_seq <| wpc_region <| wpl_q (q_pure rfl) rfl <| wpl_q (q_pure rfl) rfl <| wpl_nil <| ex_then ?_
       refine wpc_cond rfl (fun hc76 => ?_) (fun hc76 => ?_)
       ·
        have hse : sigE ht idx ≠ 0 := by simpa using hc76
        have hV := hES
        have hE0 : sgE hp ht idx ≠ 0 := by rw [hV]; exact hse
        refine wpc_seq <| wpc_region ?_
        refine wpl_q (q_build (cs := Pth.z.c) rfl built_pz) rfl ?_
        refine wpl_q (q_pure rfl) rfl ?_
        refine wpl_t0 (t_stA Tryd.ti29 rfl rfl LenC.h OneC.h LenC.h) (fun _ => ?_)
        refine wpl_q (q_pure rfl) rfl <| wpl_nil <| ex_then <| wpc_ret ?_
        refine ex_then_ret ?_
        refine retv2 (.inl rfl) rfl (rv_agg Tryd.underlying29 rfl Tryd.ti29 rfl (fun w h => h.atB) zz0) (rv_tmp rfl) ?_
        exact fun w1 h => ⟨(.slice none 0 0, []), ⟨by rw [sgP_no hE0]; exact SV.nil, zz44⟩, by rw [sgP_no hE0, hV]; rfl, h.below, sg_err h hE0⟩
       ·
        have hse : sigE ht idx = 0 := by simpa using hc76
        have hE0 : sgE hp ht idx = 0 := hES.trans hse
        refine wpc_skip <| ex_then <| wpc_seq <| wpc_region <| wpl_q (q_field Tryd.underlying29 rfl Tryd.ti27 rfl rfl _ rfl) rfl <| wpl_q (q_ld Tryd.underlying27 rfl rfl rfl) rfl <| wpl_q (q_pure rfl) rfl <| wpl_q (q_ldN Tryd.underlying66 rfl Tryd.ti66 rfl LenC.h) rfl ?_
        refine wpl_q (q_idxW Tryd.underlying27 Tryd.ti68 rfl rfl zz4 zz2) rfl ?_
        refine wpl_q (q_fieldPo 21 Tryd.underlying68 rfl Tryd.ti66 rfl rfl rfl) rfl ?_
        refine wpl_t0 (t_stWFN (j := hs.length * 24) (k := 21) (vs := [.int .i64 (sigI ht idx), b72.1, b72.2]) Tryd.ti66 rfl rfl rfl rfl (OneC.cons rfl (OneC.cons (SV.one p72.1) (OneC.cons (SV.one p72.2) oneC_nil))).h zz42 (by rw [hcs, cat_len Hop.c_length, List.length_append]; simp) (hcs (qs ++ [(newS ⟨pf, pa, pb, pl, hv, hs⟩ hp s ht idx b72)])) (hcs_setsig hi2 _ _ _ _ _)) (fun _ => ?_)
        refine wpl_nil <| ex_then <| wpc_seq ?_
        haveI : OneC [.int .u8 (pf.toNat : Int), .int .u64 (pa.toNat : Int), .int .u64 (pb.toNat : Int), .int .i64 pl, b59] := Pth.sv.one (p := ⟨pf, pa, pb, pl, b59, qs ++ [(newH hp s ht)]⟩) (by show SV b59 (qs ++ [(newH hp s ht)]).length; rw [List.length_append, hi2]; exact p59)
        refine wpc_region <| wpl_q (q_ldN Tryd.underlying29 rfl Tryd.ti29 rfl LenC.h) rfl ?_
        refine wpl_t0 (t_stA Tryd.ti29 rfl rfl LenC.h OneC.h LenC.h) (fun _ => ?_)
        refine wpl_q (q_pure rfl) rfl <| wpl_nil <| ex_then <| wpc_ret ?_
        refine retv2 (.inl rfl) rfl (rv_agg Tryd.underlying29 rfl Tryd.ti29 rfl (fun w h => h.atB) zz0) (rv_tmp rfl) ?_
        exact fun w1 h => ⟨(b59, qs ++ [(newS ⟨pf, pa, pb, pl, hv, hs⟩ hp s ht idx b72)]), ⟨by rw [sgP_ok hE0]; show SV b59 (hs ++ [_]).length; rw [List.length_append]; exact p59, by rw [sgP_ok hE0]; exact newS_eqv (p := ⟨pf, pa, pb, pl, hv, hs⟩) hi2 hi3⟩, by rw [sgP_ok hE0, hE0]; rfl, h.below, sg_made (M := []) (v := b59) (n := hs.length) (p := ⟨pf, pa, pb, pl, hv, hs⟩) rfl hE0 h.sel⟩
end Go.Proofs.YtjpfhkjmjnjggaaDoor
namespace Go.Proofs.YtjpfhkjmjnjggaaDoor
open Go Go.PL Go.RowKit
instance lenC_pth2 {p : Pth} : LenC p.c 5 := ⟨rfl⟩
abbrev tw2 (p : Pth) (x : Value × List Hop) : Pth := ⟨p.pf, p.pa, p.pb, p.pl, x.1, x.2⟩
end Go.Proofs.YtjpfhkjmjnjggaaDoor
namespace Go.Proofs.YtjpfhkjmjnjggaaDoor
open Go Go.PL Go.RowKit
instance lenC_pfL {f : UInt8} {a b : UInt64} {l : Int} : LenC (pfL f a b l) 4 := ⟨rfl⟩
instance oneC_pfL {f : UInt8} {a b : UInt64} {l : Int} : OneC (pfL f a b l) := OneC.cons rfl (OneC.cons rfl (OneC.cons rfl (OneC.cons rfl oneC_nil)))
theorem reP_seen {q : Pth} {x : Value × List Hop} {r : Rd} (h : HsEqv q.hs x.2) (h1 : Seen r x.1 q.hs.length 24 (hcs x.2)) (h2 : ∀ y ∈ x.2, y.seen r) : (reP q x).seen r := ⟨by
  show Seen r x.1 x.2.length 24 (hcs x.2)
  rw [← h.1]; exact h1, h2⟩
theorem reP_one {q : Pth} {x : Value × List Hop} (h : SV x.1 q.hs.length) : OneC (reP q x).c := OneC.cons rfl (OneC.cons rfl (OneC.cons rfl (OneC.cons rfl (OneC.cons (SV.one h) oneC_nil))))
theorem er_made {w0 w : World} {M : List Ent} {S : List Fact} (hm : Mem w0 [] M S w) : New w0.heap.size [.row (.slice none 0 0) Pth.z.hs.length 68 24 (hcs [])] [hopsF []] w := by
  have h1 : Mem w0 [] (.row (.slice none 0 0) 0 68 24 [] :: M) [hopsF []] w := Mem.imp (hm.nilRow 68 24) (fun r _ t ht => zz48)
  exact h1.made (.keep .nil) (Sub.refl _)
abbrev P0 (f : UInt8) (a b : UInt64) (l : Int) : Pth := ⟨f, a, b, l, .slice none 0 0, []⟩
theorem p0_seen {f : UInt8} {a b : UInt64} {l : Int} (r : Rd) : (P0 f a b l).seen r := ⟨seen_nil _ _, fun h hh => by cases hh⟩
def stE (f : UInt8) (a b : UInt64) (l : Int) (h : Hop) (ht idx : Int) : Int := if pfxF f a b l ≠ 0 then pfxF f a b l else sgE h ht idx
def stP (f : UInt8) (a b : UInt64) (l : Int) (h : Hop) (s : S16) (ht idx : Int) : Pth := if pfxF f a b l ≠ 0 then Pth.z else sgP (P0 f a b l) h s ht idx
theorem stE_no {f : UInt8} {a b : UInt64} {l : Int} {h : Hop} {ht idx : Int} (k : pfxF f a b l ≠ 0) : stE f a b l h ht idx = pfxF f a b l := if_pos k
theorem stE_ok {f : UInt8} {a b : UInt64} {l : Int} {h : Hop} {ht idx : Int} (k : ¬ pfxF f a b l ≠ 0) : stE f a b l h ht idx = sgE h ht idx := if_neg k
theorem stP_no {f : UInt8} {a b : UInt64} {l : Int} {h : Hop} {s : S16} {ht idx : Int} (k : pfxF f a b l ≠ 0) : stP f a b l h s ht idx = Pth.z := if_pos k
theorem stP_ok {f : UInt8} {a b : UInt64} {l : Int} {h : Hop} {s : S16} {ht idx : Int} (k : ¬ pfxF f a b l ≠ 0) : stP f a b l h s ht idx = sgP (P0 f a b l) h s ht idx := if_neg k
def Hop.wa (h : Hop) (x : UInt32) : Hop := { h with sy := x }
def lastTo (p : Pth) : UInt32 := (p.hs.getD (p.hs.length - 1) Hop.z).to
def exK (p : Pth) : Int := if chkP p ≠ 0 then chkP p else if p.hs.length = 30 then 4 else 0
def exE (p : Pth) (h : Hop) (ht idx : Int) : Int := if exK p ≠ 0 then exK p else sgE (h.wa (lastTo p)) ht idx
def exP (p : Pth) (h : Hop) (s : S16) (ht idx : Int) : Pth := if exK p ≠ 0 then Pth.z else sgP p (h.wa (lastTo p)) s ht idx
theorem exE_no {p : Pth} {h : Hop} {ht idx : Int} (k : exK p ≠ 0) : exE p h ht idx = exK p := if_pos k
theorem exE_ok {p : Pth} {h : Hop} {ht idx : Int} (k : exK p = 0) : exE p h ht idx = sgE (h.wa (lastTo p)) ht idx := if_neg (by simp [k])
theorem exP_no {p : Pth} {h : Hop} {s : S16} {ht idx : Int} (k : exK p ≠ 0) : exP p h s ht idx = Pth.z := if_pos k
theorem exP_ok {p : Pth} {h : Hop} {s : S16} {ht idx : Int} (k : exK p = 0) : exP p h s ht idx = sgP p (h.wa (lastTo p)) s ht idx := if_neg (by simp [k])
theorem exK_chk {p : Pth} (h : chkP p ≠ 0) : exK p = chkP p := if_pos h
theorem exK_many {p : Pth} (h : chkP p = 0) (h2 : p.hs.length = 30) : exK p = 4 := (if_neg (by simp [h])).trans (if_pos h2)
theorem exK_ok {p : Pth} (h : chkP p = 0) (h2 : ¬ p.hs.length = 30) : exK p = 0 := (if_neg (by simp [h])).trans (if_neg h2)
end Go.Proofs.YtjpfhkjmjnjggaaDoor
namespace Go.Proofs.YtjpfhkjmjnjggaaDoor
open Go Go.PL Go.RowKit
theorem climb_add (x : List UInt8) (i f n : Nat) : ∀ m, climbF (climbF x i f n) i (f + n) m = climbF x i f (n + m)
  | 0 => rfl
  | m + 1 => by rw [climbF, climb_add x i f n m, ← Nat.add_assoc, climbF, Nat.add_assoc]
theorem chain_up (s : List UInt8) (i a b : Nat) (h : a ≤ b) : climbF (chainF s i a) i a (b - a) = chainF s i b := by
  have := climb_add (beginF s i) i 0 a (b - a)
  rw [Nat.zero_add, show a + (b - a) = b from zz13] at this
  exact this
theorem sg_get (s m : List UInt8) (n i : Nat) (h : i < n) : (sg s m n).getD i [] = chainF s i (dig m i) := by
  rw [sg, List.getD_eq_getElem?_getD, List.getElem?_map, List.getElem?_eq_getElem (by simpa using h)]; simp
theorem rec_signE (s m : List UInt8) (n : Nat) (i : Nat) (hi : i < n) (q : Nat) (hq : dig m i ≤ q) : climbF ((sg s m n).getD i []) i (dig m i) (q - dig m i) = chainF s i q := by
  rw [sg_get s m n i hi, chain_up s i _ _ hq]
theorem rec_acc (s m : List UInt8) (n q : Nat) (hq : ∀ i, dig m i ≤ q) : accF (fun i => climbF ((sg s m n).getD i []) i (dig m i) (q - dig m i)) n = accF (fun i => chainF s i q) n :=
  accF_congr _ _ n (fun i hi => rec_signE s m n i hi q (hq i)) n (Nat.le_refl _)
theorem recE_eq (m : List UInt8) (chs : List (List UInt8)) : recE m chs = fun i => climbF (chs.getD i []) i (dig m i) (15 - dig m i) := rfl
theorem rec_sign (s m : List UInt8) : recF m (signF s m) = publicF s := by
  have h1 : recF m (signF s m) = shortF (accF (recE m (signF s m)) 35) := if_pos (signF_length s m)
  rw [h1, recE_eq]
  exact congrArg shortF (rec_acc s m 35 15 (dig_le m))
theorem upF_path (s : List UInt8) (q m : Nat) : ∀ i, i ≤ m → upF (nodeF s 0 q) q (pathF s q m) i = nodeF s i (q / 2 ^ i)
  | 0, _ => by rw [upF, Nat.pow_zero, Nat.div_one]
  | i + 1, h => by
    have hg : (pathF s q m).getD i [] = nodeF s i ((q / 2 ^ i) ^^^ 1) := by
      rw [pathF, List.getD_eq_getElem?_getD, List.getElem?_map, List.getElem?_eq_getElem (by rw [List.length_range]; exact h)]; simp
    rw [upF, upF_path s q m i zz13, hg, show q / 2 ^ (i + 1) = q / 2 ^ i / 2 by rw [Nat.pow_succ, Nat.div_div_eq_div_mul]]
    generalize q / 2 ^ i = j
    rw [sib_eq, nodeF, stepU]
    by_cases hj : j % 2 = 1
    · rw [if_neg zz13, if_pos hj, show 2 * (j / 2) + 1 = j from zz13, show 2 * (j / 2) = j - 1 from zz13]
    · rw [if_pos zz13, if_neg hj, show 2 * (j / 2) = j from zz13]
theorem root_path (s : List UInt8) (q m : Nat) (bs : List UInt8) (hq : q < 2 ^ m) : upF (recF bs (signF (leafF s q) bs)) q (pathF s q m) m = nodeF s m 0 := by
  rw [rec_sign]
  have := upF_path s q m m (Nat.le_refl _)
  rw [Nat.div_eq_of_lt hq] at this
  exact this
theorem check_sign {s : List UInt8} {m q : Nat} {bs : List UInt8} (hm : m ≤ 4) (hq : q < 2 ^ m) : checkF m q (signF (leafF s q) bs).length (pathF s q m).length = 0 := by
  rw [signF_length, pathF_length]; exact check_0 zz13 ⟨zz13, zz13, rfl, rfl⟩
theorem root_sign {s : List UInt8} {m q : Nat} {bs : List UInt8} (hm : m ≤ 4) (hq : q < 2 ^ m) : rootF m q bs (signF (leafF s q) bs) (pathF s q m) = nodeF s m 0 := by
  have h : rootF m q bs (signF (leafF s q) bs) (pathF s q m) = upF (recF bs (signF (leafF s q) bs)) q (pathF s q m) (pathF s q m).length := if_pos (check_sign hm hq)
  rw [h, pathF_length]; exact root_path s q m bs hq
theorem keyR_in {s : List UInt8} {m : Nat} (hm : m ≤ 4) : keyR s m = nodeF s m 0 := if_pos ⟨zz13, zz13⟩
theorem sig_ver (s : List UInt8) {ht idx : Int} (bs : List UInt8) (h : okS ht idx) : checkF (keyH ht) (sigI ht idx) (sigC s ht idx bs).length (sigP s ht idx).length = 0 ∧ rootF (keyH ht) (sigI ht idx) bs (sigC s ht idx bs) (sigP s ht idx) = keyR s ht := by
  obtain ⟨m, rfl⟩ : ∃ m : Nat, ht = (m : Int) := ⟨ht.toNat, by have := h.1; omega⟩
  obtain ⟨q, rfl⟩ : ∃ q : Nat, idx = (q : Int) := ⟨idx.toNat, by have := h.2; omega⟩
  have hm : m ≤ 4 := by have := h.1; omega
  have hq : q < 2 ^ m := by have h2 := h.2.2; rw [Int.toNat_natCast] at h2; exact Int.ofNat_lt.1 h2
  have e1 : sigC s m q bs = signF (leafF s q) bs := by unfold sigC; rw [if_pos h, Int.toNat_natCast]
  have e2 : sigP s m q = pathF s q m := by unfold sigP; rw [if_pos h, Int.toNat_natCast, Int.toNat_natCast]
  have e3 : keyH m = m := if_pos h.1
  have e4 : sigI m q = q := if_pos h
  rw [e1, e2, e3, e4, keyR_in hm]
  exact ⟨check_sign hm hq, root_sign hm hq⟩
theorem sgE_inv {h : Hop} {ht idx : Int} (k : sgE h ht idx = 0) : ¬ 1 < h.fl.toNat ∧ okS ht idx := by
  unfold sgE at k
  split at k
  · cases k
  · rename_i h1
    refine ⟨h1, ?_⟩
    split at k
    · rename_i h2; exact absurd k h2
    · unfold sigE at k
      split at k
      · assumption
      · cases k
theorem restF_pre {p q : Pth} (h : p.pf = q.pf ∧ p.pa = q.pa ∧ p.pb = q.pb ∧ p.pl = q.pl) (n : Nat) (hj : ∀ j, j < n → Hop.eqv (p.hs.getD j Hop.z) (q.hs.getD j Hop.z)) : ∀ i, i ≤ n → restF p i = restF q i
  | 0, _ => by
    obtain ⟨h1, h2, h3, h4⟩ := h
    show rest0 p = rest0 q
    unfold rest0
    rw [h1, h2, h3, h4]
  | i + 1, hi => by
    have e := hj i zz13
    show sumF ((headB (p.hs.getD i Hop.z) ++ restF p i) ++ tailH (p.hs.getD i Hop.z)) = sumF ((headB (q.hs.getD i Hop.z) ++ restF q i) ++ tailH (q.hs.getD i Hop.z))
    rw [headB_eqv e, tailH_eqv e, restF_pre h n hj i zz13]
def Gd (p : Pth) : Prop := chkP p = 0 ∧ ∀ i, i < p.hs.length → verH (p.hs.getD i Hop.z) (msgB p i)
theorem badH_eqv {l k : List Hop} (h : HsEqv l k) {i : Nat} (hi : i < l.length) (hb : ¬ badH l i) : ¬ badH k i := by
  have e := h.2 i hi
  have e' := h.2 (i - 1) zz13
  obtain ⟨a1, a2, a3, a4, ⟨a5, a6⟩, a7, a8, a9⟩ := e
  unfold badH at hb ⊢
  rw [← a3, ← a6, ← a7, ← a8, ← a9, ← a1, ← e'.2.2.2.1]
  exact hb
theorem chk_mk {p : Pth} (h1 : p.hs.length ≤ 30) (h2 : pfxF p.pf p.pa p.pb p.pl = 0) (h3 : p.hs.length ≠ 0) (h4 : ∀ i, i < p.hs.length → ¬ badH p.hs i) : chkP p = 0 := by
  unfold chkP
  rw [if_neg zz13, if_neg (by simp [h2]), if_neg (by rintro (q | q); exact h3 q; exact q h4)]
theorem chk_eqv {p q : Pth} (h : p.eqv q) (k : chkP p = 0) : chkP q = 0 := by
  obtain ⟨c1, c2, c3, c4⟩ := chk_inv k
  obtain ⟨⟨a, b, c, d⟩, e⟩ := h
  exact chk_mk (by rw [← e.1]; omega) (by rw [← a, ← b, ← c, ← d]; exact c2) (by rw [← e.1]; exact c3) (fun i hi => badH_eqv e (by rw [e.1]; exact hi) (c4 i (by rw [e.1]; exact hi)))
theorem verH_eqv {a b : Hop} (h : a.eqv b) {bs : List UInt8} (k : verH a bs) : verH b bs := by
  obtain ⟨a1, a2, a3, a4, ⟨a5, a6⟩, a7, a8, a9⟩ := h
  unfold verH at k ⊢
  rw [← a6, ← a7, ← a8, ← a9, ← a5]
  exact k
theorem gd_eqv {p q : Pth} (h : p.eqv q) (k : Gd p) : Gd q := ⟨chk_eqv h k.1, fun i hi => by
  have hi' : i < p.hs.length := by rw [h.2.1]; exact hi
  rw [← msgB_eqv h hi']
  exact verH_eqv (h.2.2 i hi') (k.2 i hi')⟩
theorem Hop.eqv.rf (a : Hop) : a.eqv a := ⟨rfl, rfl, rfl, rfl, ⟨rfl, rfl⟩, rfl, rfl, rfl⟩
theorem sgP_get {p : Pth} {h : Hop} {s : S16} {ht idx : Int} (k : sgE h ht idx = 0) (j : Nat) (hj : j < p.hs.length) : (sgP p h s ht idx).hs.getD j Hop.z = p.hs.getD j Hop.z := by
  rw [sgP_ok k]
  exact getD_left rfl hj
theorem sgP_last {p : Pth} {h : Hop} {s : S16} {ht idx : Int} (k : sgE h ht idx = 0) : (sgP p h s ht idx).hs.getD p.hs.length Hop.z = newS p h s ht idx nl2 := by
  rw [sgP_ok k]
  exact getD_app rfl
theorem sgP_len {p : Pth} {h : Hop} {s : S16} {ht idx : Int} (k : sgE h ht idx = 0) : (sgP p h s ht idx).hs.length = p.hs.length + 1 := by
  rw [sgP_ok k]
  exact List.length_append
theorem sgP_pf {p : Pth} {h : Hop} {s : S16} {ht idx : Int} (k : sgE h ht idx = 0) : p.pf = (sgP p h s ht idx).pf ∧ p.pa = (sgP p h s ht idx).pa ∧ p.pb = (sgP p h s ht idx).pb ∧ p.pl = (sgP p h s ht idx).pl := by
  rw [sgP_ok k]
  exact ⟨rfl, rfl, rfl, rfl⟩
theorem sgP_msg {p : Pth} {h : Hop} {s : S16} {ht idx : Int} (k : sgE h ht idx = 0) {i : Nat} (hi : i < p.hs.length) : msgB p i = msgB (sgP p h s ht idx) i := by
  unfold msgB
  rw [sgP_get k i hi, restF_pre (sgP_pf (s := s) k) i (fun j hj => by rw [sgP_get k j zz13]; exact .rf _) i (Nat.le_refl _)]
theorem sgP_msgL {p : Pth} {h : Hop} {s : S16} {ht idx : Int} (k : sgE h ht idx = 0) : sgM p h s ht = msgB (sgP p h s ht idx) p.hs.length := by
  unfold sgM msgB
  rw [sgP_last k, show (newO p h s ht).hs.getD p.hs.length Hop.z = newH h s ht from getD_app rfl]
  rw [restF_pre (p := newO p h s ht) (q := sgP p h s ht idx) (by rw [sgP_ok k]; exact ⟨rfl, rfl, rfl, rfl⟩) p.hs.length (fun j hj => by rw [sgP_get k j hj, show (newO p h s ht).hs.getD j Hop.z = p.hs.getD j Hop.z from getD_left rfl hj]; exact .rf _) p.hs.length (Nat.le_refl _)]
  rfl
theorem newS_ver {p : Pth} {h : Hop} {s : S16} {ht idx : Int} (k : sgE h ht idx = 0) : verH (newS p h s ht idx nl2) (sgM p h s ht) := sig_ver s.1 _ (sgE_inv k).2
theorem gd_sg {p : Pth} {h : Hop} {s : S16} {ht idx : Int} (k : sgE h ht idx = 0) (h1 : pfxF p.pf p.pa p.pb p.pl = 0) (h2 : p.hs.length < 30) (h3 : p.hs.length ≠ 0 → Gd p ∧ h.sy = (p.hs.getD (p.hs.length - 1) Hop.z).to) : Gd (sgP p h s ht idx) := by
  have hl := sgP_len (p := p) (s := s) k
  obtain ⟨e1, e2, e3, e4⟩ := sgP_pf (p := p) (s := s) k
  refine ⟨chk_mk zz13 (by rw [← e1, ← e2, ← e3, ← e4]; exact h1) zz13 (fun i hi => ?_), fun i hi => ?_⟩
  · rcases Nat.lt_or_ge i p.hs.length with hi2 | hi2
    · have hb := (chk_inv (h3 zz13).1.1).2.2.2 i hi2
      unfold badH at hb ⊢
      rw [sgP_get k i hi2, sgP_get k (i - 1) zz13]
      exact hb
    · obtain rfl : i = p.hs.length := by omega
      unfold badH
      rw [sgP_last k]
      rintro (q | q | ⟨q, q2⟩)
      · exact (sgE_inv k).1 q
      · exact q (newS_ver (p := p) (s := s) k).1
      · rw [sgP_get k _ zz13] at q2
        exact q2 (h3 zz13).2
  · rcases Nat.lt_or_ge i p.hs.length with hi2 | hi2
    · rw [← sgP_msg k hi2, sgP_get k i hi2]
      exact (h3 zz13).1.2 i hi2
    · obtain rfl : i = p.hs.length := by omega
      rw [sgP_last k, ← sgP_msgL k]
      exact newS_ver k
theorem vr_two {p : Pth} {to : UInt32} {ks : List RK} (hk : ks.length ≤ 100) (hn : p.hs.length ≠ 0) (h : ¬ vrV p to ks = 1) : vrV p to ks = 2 := by
  have hk' : ¬ 100 < ks.length := by omega
  by_cases hb : wrE p ks ≠ 0 ∨ 0 ≤ wrI p ks ∨ ¬ (p.hs.getD (p.hs.length - 1) Hop.z).to = to
  · exact vrV_bad hk' hn hb
  · exact absurd (vrV_ok hk' hn hb) h
end Go.Proofs.YtjpfhkjmjnjggaaDoor
namespace Go.Proofs.YtjpfhkjmjnjggaaDoor
open Go Go.PL Go.RowKit
def sB (x : UInt8) : S16 := ⟨x :: List.replicate 15 0, rfl⟩
def hpA : Hop := ⟨10, 1, 0, 20, ⟨List.replicate 16 0, rfl⟩, 0, 0, .slice none 0 0, [], .slice none 0 0, []⟩
def hpB : Hop := ⟨0, 2, 0, 30, ⟨List.replicate 16 0, rfl⟩, 0, 0, .slice none 0 0, [], .slice none 0 0, []⟩
theorem hpA_sv : hpA.sv := ⟨SV.nil, SV.nil⟩
theorem hpB_sv : hpB.sv := ⟨SV.nil, SV.nil⟩
theorem built_hpA : Tryd.prog.built 68 [(0, .int .u32 10), (1, .int .u8 1), (3, .int .u32 20)] = some hpA.c.toArray := by kernel_rfl
theorem built_hpB : Tryd.prog.built 68 [(1, .int .u8 2), (3, .int .u32 30)] = some hpB.c.toArray := by kernel_rfl
theorem stE_inv {f : UInt8} {a b : UInt64} {l : Int} {h : Hop} {ht idx : Int} (k : stE f a b l h ht idx = 0) : pfxF f a b l = 0 ∧ sgE h ht idx = 0 := by
  unfold stE at k
  split at k
  · rename_i h1; exact absurd k h1
  · rename_i h1; exact ⟨Decidable.not_not.1 h1, k⟩
theorem st_gd {f : UInt8} {a b : UInt64} {l : Int} {h : Hop} {s : S16} {ht idx : Int} (k : stE f a b l h ht idx = 0) {x : Value × List Hop} (e : HsEqv (stP f a b l h s ht idx).hs x.2) : Gd (reP (stP f a b l h s ht idx) x) ∧ x.2.length = 1 ∧ (newS (P0 f a b l) h s ht idx nl2).eqv (x.2.getD 0 Hop.z) := by
  obtain ⟨k1, k2⟩ := stE_inv k
  have e1 : stP f a b l h s ht idx = sgP (P0 f a b l) h s ht idx := stP_ok (by rw [k1]; decide)
  have hl : (stP f a b l h s ht idx).hs.length = 1 := by rw [e1]; exact sgP_len k2
  refine ⟨gd_eqv (p := stP f a b l h s ht idx) ⟨⟨rfl, rfl, rfl, rfl⟩, e⟩ (by rw [e1]; exact gd_sg k2 k1 (Nat.zero_lt_succ _) (fun q => absurd rfl q)), by rw [← e.1]; exact hl, ?_⟩
  have := e.2 0 zz13
  rw [e1] at this
  rwa [show (sgP (P0 f a b l) h s ht idx).hs.getD 0 Hop.z = newS (P0 f a b l) h s ht idx nl2 from sgP_last (p := P0 f a b l) k2] at this
theorem exE_inv {p : Pth} (g : Gd p) (hn : p.hs.length < 30) {h : Hop} {ht idx : Int} : exE p h ht idx = sgE (h.wa (lastTo p)) ht idx := exE_ok (exK_ok g.1 zz13)
theorem ex_gd {p : Pth} (g : Gd p) (hn : p.hs.length < 30) {h : Hop} {s : S16} {ht idx : Int} (k : exE p h ht idx = 0) {x : Value × List Hop} (e : HsEqv (exP p h s ht idx).hs x.2) : Gd (reP (exP p h s ht idx) x) ∧ x.2.length = p.hs.length + 1 ∧ (∀ j, j < p.hs.length → (p.hs.getD j Hop.z).eqv (x.2.getD j Hop.z)) ∧ (newS p (h.wa (lastTo p)) s ht idx nl2).eqv (x.2.getD p.hs.length Hop.z) := by
  have hk : exK p = 0 := exK_ok g.1 zz13
  have k2 : sgE (h.wa (lastTo p)) ht idx = 0 := (exE_ok hk).symm.trans k
  have e1 : exP p h s ht idx = sgP p (h.wa (lastTo p)) s ht idx := exP_ok hk
  have hl : (exP p h s ht idx).hs.length = p.hs.length + 1 := by rw [e1]; exact sgP_len k2
  obtain ⟨c1, c2, c3, c4⟩ := chk_inv g.1
  refine ⟨gd_eqv (p := exP p h s ht idx) ⟨⟨rfl, rfl, rfl, rfl⟩, e⟩ (by rw [e1]; exact gd_sg k2 c2 hn (fun _ => ⟨g, rfl⟩)), by rw [← e.1]; exact hl, fun j hj => ?_, ?_⟩
  · have := e.2 j zz13
    rw [e1, sgP_get k2 j hj] at this
    exact this
  · have := e.2 p.hs.length zz13
    rw [e1, sgP_last k2] at this
    exact this
theorem chk_small {p : Pth} (h : chkP p = 0) : SmP p := fun x hx => by
  obtain ⟨i, hi, rfl⟩ := List.mem_iff_getElem.1 hx
  have hb := (chk_inv h).2.2.2 i hi
  unfold badH at hb
  rw [not_or, not_or, Decidable.not_not] at hb
  have hc := hb.2.1
  rw [show p.hs.getD i Hop.z = p.hs[i] by rw [List.getD_eq_getElem?_getD, List.getElem?_eq_getElem hi]; rfl] at hc
  unfold checkF at hc
  split at hc
  · rename_i h1
    split at hc
    · rename_i h2; obtain ⟨h3, h4, h5⟩ := h2; omega
    · cases hc
  · cases hc
structure SaysH (h : Hop) (a : UInt32) (c : UInt8) (t : UInt32) (s : S16) (ht : Int) : Prop where
  sy : h.sy = a
  cnt : h.cnt = c
  to : h.to = t
  root : h.root = ⟨keyR s.1 ht, keyR_l s ht⟩
  ht : h.ht = keyH ht
theorem says_new {p : Pth} {h g : Hop} {s : S16} {ht idx : Int} (e : (newS p h s ht idx nl2).eqv g) : SaysH g h.sy h.cnt h.to s ht := by
  obtain ⟨a1, a2, a3, a4, ⟨a5, a6⟩, a7, a8, a9⟩ := e
  exact ⟨a1.symm, a2.symm, a4.symm, Subtype.ext a5.symm, a6.symm⟩
theorem says_eqv {h g : Hop} {a : UInt32} {c : UInt8} {t : UInt32} {s : S16} {ht : Int} (e : h.eqv g) (k : SaysH h a c t s ht) : SaysH g a c t s ht := by
  obtain ⟨a1, a2, a3, a4, ⟨a5, a6⟩, a7, a8, a9⟩ := e
  exact ⟨a1.symm.trans k.sy, a2.symm.trans k.cnt, a4.symm.trans k.to, (Subtype.ext a5.symm).trans k.root, a6.symm.trans k.ht⟩
def rkS (a : UInt32) (s : S16) (ht : Int) : RK := (a, ⟨keyR s.1 ht, keyR_l s ht⟩, keyH ht)
theorem SaysH.rk {h : Hop} {a : UInt32} {c : UInt8} {t : UInt32} {s : S16} {ht : Int} (k : SaysH h a c t s ht) : h.rk = rkS a s ht := by
  unfold Hop.rk rkS
  rw [k.sy, k.root, k.ht]
structure TwoP (p : Pth) : Prop where
  gd : Gd p
  len : p.hs.length = 2
  a : SaysH (p.hs.getD 0 Hop.z) 10 1 20 (sB 1) 0
  b : SaysH (p.hs.getD 1 Hop.z) 20 2 30 (sB 2) 0
  pre : p.pf = 4 ∧ p.pa = 0 ∧ p.pb = 167772160 ∧ p.pl = 8
theorem sgE_00 {h : Hop} (e : h.fl = 0) : sgE h 0 0 = 0 := by
  have : ¬ 1 < h.fl.toNat := by rw [e]; decide
  rw [sgE_sig this zz17]
  decide
theorem ten_ok : pfxF 4 0 167772160 8 = 0 := by kernel_rfl
theorem st_ok : stE 4 0 167772160 8 hpA 0 0 = 0 := by rw [stE_ok (by rw [ten_ok]; decide)]; exact sgE_00 rfl
theorem ex_ok {p : Pth} (g : Gd p) (hn : p.hs.length = 1) : exE p hpB 0 0 = 0 := by rw [exE_inv g zz13]; exact sgE_00 rfl
theorem two_ok {x y : Value × List Hop} (e : HsEqv (stP 4 0 167772160 8 hpA (sB 1) 0 0).hs x.2) (e2 : HsEqv (exP (reP (stP 4 0 167772160 8 hpA (sB 1) 0 0) x) hpB (sB 2) 0 0).hs y.2) : TwoP (reP (exP (reP (stP 4 0 167772160 8 hpA (sB 1) 0 0) x) hpB (sB 2) 0 0) y) := by
  obtain ⟨g1, l1, q1⟩ := st_gd st_ok e
  have l1' : (reP (stP 4 0 167772160 8 hpA (sB 1) 0 0) x).hs.length = 1 := l1
  have k := ex_ok g1 l1
  obtain ⟨g2, l2, q2, q3⟩ := ex_gd g1 zz13 k e2
  rw [l1'] at l2 q2 q3
  have s1 := says_new q1
  have hto : lastTo (reP (stP 4 0 167772160 8 hpA (sB 1) 0 0) x) = 20 := by
    show (x.2.getD (x.2.length - 1) Hop.z).to = 20
    rw [l1]; exact s1.to
  have s3 := says_new q3
  rw [hto] at s3
  refine ⟨g2, l2, says_eqv (q2 0 zz17) s1, s3, ?_⟩
  have e3 : exP (reP (stP 4 0 167772160 8 hpA (sB 1) 0 0) x) hpB (sB 2) 0 0 = sgP _ _ _ _ _ := exP_ok (exK_ok g1.1 zz13)
  have k2 : sgE (hpB.wa (lastTo (reP (stP 4 0 167772160 8 hpA (sB 1) 0 0) x))) 0 0 = 0 := sgE_00 rfl
  have e4 : stP 4 0 167772160 8 hpA (sB 1) 0 0 = sgP _ _ _ _ _ := stP_ok (by rw [ten_ok]; decide)
  have k4 : sgE hpA 0 0 = 0 := sgE_00 rfl
  show (exP (reP (stP 4 0 167772160 8 hpA (sB 1) 0 0) x) hpB (sB 2) 0 0).pf = 4 ∧ (exP (reP (stP 4 0 167772160 8 hpA (sB 1) 0 0) x) hpB (sB 2) 0 0).pa = 0 ∧ (exP (reP (stP 4 0 167772160 8 hpA (sB 1) 0 0) x) hpB (sB 2) 0 0).pb = 167772160 ∧ (exP (reP (stP 4 0 167772160 8 hpA (sB 1) 0 0) x) hpB (sB 2) 0 0).pl = 8
  rw [e3, sgP_ok k2]
  show (stP 4 0 167772160 8 hpA (sB 1) 0 0).pf = 4 ∧ (stP 4 0 167772160 8 hpA (sB 1) 0 0).pa = 0 ∧ (stP 4 0 167772160 8 hpA (sB 1) 0 0).pb = 167772160 ∧ (stP 4 0 167772160 8 hpA (sB 1) 0 0).pl = 8
  rw [e4, sgP_ok k4]
  exact ⟨rfl, rfl, rfl, rfl⟩
theorem TwoP.sm {p : Pth} (t : TwoP p) : SmP p := chk_small t.gd.1
theorem TwoP.sys {p : Pth} (t : TwoP p) : sysE p = 0 ∧ sysV p = [20, 20, 10] := by
  have e : sysR p.hs = [20, 20, 10] := by
    unfold sysR
    rw [t.len]
    unfold sysG sysG sysG
    rw [t.len]
    show ([] ++ List.replicate (p.hs.getD 1 Hop.z).cnt.toNat (p.hs.getD 1 Hop.z).sy) ++ List.replicate (p.hs.getD 0 Hop.z).cnt.toNat (p.hs.getD 0 Hop.z).sy = _
    rw [t.a.cnt, t.a.sy, t.b.cnt, t.b.sy]
    rfl
  have h : sysE p = 0 := by
    unfold sysE
    rw [if_neg (by simp [t.gd.1]), e, if_neg zz17]
  exact ⟨h, by unfold sysV; rw [if_pos h, e]⟩
theorem headB_27 (h : Hop) : (headB h).length = 27 := headB_len h
theorem TwoP.m0 {p : Pth} (t : TwoP p) : (msgB p 0).length = 45 := by
  show (headB _ ++ rest0 p).length = 45
  rw [List.length_append, headB_27]
  unfold rest0
  rw [List.length_append, List.length_append, numK_len, numK_len]; rfl
theorem TwoP.m1 {p : Pth} (t : TwoP p) : (msgB p 1).length = 59 := by
  show (headB _ ++ sumF _).length = 59
  rw [List.length_append, headB_27, sumF_length]
theorem TwoP.msg {p : Pth} (t : TwoP p) (i : Nat) (hi : i < 2) : msgE p (i : Int) = 0 ∧ msgV p (i : Int) = msgB p i := by
  have h1 := t.gd.1
  have h2 := t.len
  unfold msgE msgV msgE
  simp [h1, h2]
  omega
theorem gd_two {p : Pth} (g : Gd p) (l : p.hs.length = 2) {a : UInt32} {c c' : UInt8} {t t' : UInt32} {s s' : S16} {h h' : Int} (h0 : SaysH (p.hs.getD 0 Hop.z) a c t s h) (h1 : SaysH (p.hs.getD 1 Hop.z) t c' t' s' h') {ks : List RK} (hk : ks.length ≤ 100) (to : UInt32) : (vrV p to ks = 1 ↔ t' = to ∧ rkS a s h ∈ ks ∧ rkS t s' h' ∈ ks) := by
  rw [vrV_one hk zz13, l]
  constructor
  · rintro ⟨-, k2, k3⟩
    have k4 := k3 0 zz17
    have k5 := k3 1 zz17
    unfold wrongH at k4 k5
    rw [not_or, Decidable.not_not] at k4 k5
    exact ⟨h1.to.symm.trans k2, by rw [← h0.rk]; exact k4.1, by rw [← h1.rk]; exact k5.1⟩
  · rintro ⟨k1, k2, k3⟩
    refine ⟨g.1, h1.to.trans k1, fun i hi hw => ?_⟩
    unfold wrongH at hw
    rcases hw with hw | hw
    · match i, hi with
      | 0, _ => exact hw (by rw [h0.rk]; exact k2)
      | 1, _ => exact hw (by rw [h1.rk]; exact k3)
    · exact hw (g.2 i zz13)
theorem TwoP.vr {p : Pth} (t : TwoP p) {ks : List RK} (hk : ks.length ≤ 100) (to : UInt32) : (vrV p to ks = 1 ↔ 30 = to ∧ rkS 10 (sB 1) 0 ∈ ks ∧ rkS 20 (sB 2) 0 ∈ ks) := gd_two t.gd t.len t.a t.b hk to
theorem TwoP.no {p : Pth} (t : TwoP p) {ks : List RK} (hk : ks.length ≤ 100) {to : UInt32} (h : ¬ (30 = to ∧ rkS 10 (sB 1) 0 ∈ ks ∧ rkS 20 (sB 2) 0 ∈ ks)) : vrV p to ks = 2 := vr_two hk (by rw [t.len]; decide) fun q => h ((t.vr hk to).1 q)
end Go.Proofs.YtjpfhkjmjnjggaaDoor
namespace Go.Proofs.YtjpfhkjmjnjggaaDoor
open Go Go.PL Go.RowKit
theorem start (f : UInt8) (a b : UInt64) (l : Int) (hp : Hop) (s : S16) (ht : Int) (idx : Int) (w : World) (hsvh : hp.sv) (hG : Glb w) :
    Calls Tryd.prog 26 [.agg (pfL f a b l).toArray, .agg hp.c.toArray, .agg (v8s s.1).toArray, .int .i64 ht, .int .i64 idx].toArray w (GivesP w (fun x : Value × List Hop => SV x.1 (stP f a b l hp s ht idx).hs.length ∧ HsEqv (stP f a b l hp s ht idx).hs x.2) (fun x => .tuple #[.agg (reP (stP f a b l hp s ht idx) x).c.toArray, .int .i64 (stE f a b l hp ht idx)]) (fun x => [.row x.1 (stP f a b l hp s ht idx).hs.length 68 24 (hcs x.2)]) (fun x => [hopsF x.2])) := by
  haveI := hsvh.one
  refine enter (m := 32) (R := Mem w [] [] []) Tryd.func26 rfl rfl (Nat.le_of_ble_eq_true rfl) (Mem.start w) ?_
  refine wpc_seq <| wpc_region ?_
  refine wpl_t (t_box rfl (pfL f a b l) rfl) rfl (fun b5 => ?_)
  refine wpl_t (t_box rfl hp.c rfl) rfl (fun b6 => ?_)
  refine wpl_t (t_box rfl (v8s s.1) rfl) rfl (fun b7 => ?_)
  refine wpl_t (t_alloc Tryd.ti29 Pth.z.c rfl) rfl (fun b10 => ?_)
  refine wpl_q (q_pure rfl) rfl <| wpl_nil <| ex_then <| wpc_seq <| wpc_region <| wpl_q (q_ldN Tryd.underlying26 rfl Tryd.ti26 rfl LenC.h) rfl ?_
  refine wpl_t (t_pur Tryd.hb42 rfl fun w h => numCheck f a b l w) rfl (fun b15 => ?_)
  refine wpl_q (q_pure rfl) rfl <| wpl_nil <| ex_then <| wpc_seq <| wpc_seq <| wpc_region <| wpl_q (q_pure rfl) rfl <| wpl_q (q_pure rfl) rfl <| wpl_nil <| ex_then ?_
  refine wpc_cond rfl (fun hc17 => ?_) (fun hc17 => ?_)
  ·
   have hk : pfxF f a b l ≠ 0 := by simpa using hc17
   have hV : stE f a b l hp ht idx = pfxF f a b l := stE_no hk
   refine wpc_seq <| wpc_region ?_
   refine wpl_q (q_build (cs := Pth.z.c) rfl built_pz) rfl ?_
   refine wpl_q (q_pure rfl) rfl ?_
   refine wpl_t0 (t_stA Tryd.ti29 rfl rfl LenC.h OneC.h LenC.h) (fun _ => ?_)
   refine wpl_q (q_pure rfl) rfl <| wpl_nil <| ex_then <| wpc_ret ?_
   refine ex_then_ret ?_
   refine retv2 (.inl rfl) rfl (rv_agg Tryd.underlying29 rfl Tryd.ti29 rfl (fun w h => h.atB) zz0) (rv_tmp rfl) ?_
   exact fun w1 h => ⟨(.slice none 0 0, []), ⟨by rw [stP_no hk]; exact SV.nil, by rw [stP_no hk]; exact ⟨rfl, fun i hi => by cases hi⟩⟩, by rw [stP_no hk, hV]; rfl, h.below, by rw [stP_no hk]; exact er_made h⟩
  ·
   have hk : ¬ pfxF f a b l ≠ 0 := by simpa using hc17
   refine wpc_skip <| ex_then <| wpc_seq <| wpc_region <| wpl_q (q_ldN Tryd.underlying26 rfl Tryd.ti26 rfl LenC.h) rfl ?_
   refine wpl_q (q_build (cs := (P0 f a b l).c) rfl (built_pre f a b l)) rfl ?_
   refine wpl_q (q_ldN Tryd.underlying68 rfl Tryd.ti68 rfl LenC.h) rfl <| wpl_q (q_ldN Tryd.underlying61 rfl Tryd.ti61 rfl LenC.h) rfl <| wpl_q (q_pure rfl) rfl <| wpl_q (q_pure rfl) rfl ?_
   refine wpl_tp (t_callPF Tryd.hb52 rfl fun w h => signP (P0 f a b l) hp s ht idx w (p0_seen _) hsvh (fun x hx => by cases hx) (glob h hG) (Nat.zero_le _)) rfl (fun b27 p27 => ?_)
   haveI : OneC (reP (sgP (P0 f a b l) hp s ht idx) b27).c := reP_one p27.1
   refine wpl_q (q_pure rfl) rfl <| wpl_q (q_pure rfl) rfl <| wpl_q (q_pure rfl) rfl ?_
   refine wpl_t (t_alloc Tryd.ti29 Pth.z.c rfl) rfl (fun b13 => ?_)
   refine wpl_t0 (t_stA Tryd.ti29 rfl rfl LenC.h OneC.h LenC.h) (fun _ => ?_)
   refine wpl_q (q_pure rfl) rfl <| wpl_nil <| ex_then <| wpc_seq <| wpc_region <| wpl_q (q_ldN Tryd.underlying29 rfl Tryd.ti29 rfl LenC.h) rfl <| wpl_q (q_pure rfl) rfl ?_
   refine wpl_t0 (t_stA Tryd.ti29 rfl rfl LenC.h OneC.h LenC.h) (fun _ => ?_)
   refine wpl_q (q_pure rfl) rfl <| wpl_nil <| ex_then <| wpc_ret ?_
   refine retv2 (.inl rfl) rfl (rv_agg Tryd.underlying29 rfl Tryd.ti29 rfl (fun w h => h.atB) zz0) (rv_tmp rfl) ?_
   exact fun w1 h => ⟨b27, by rw [stP_ok hk]; exact p27, by rw [stP_ok hk, stE_ok hk]; rfl, h.below, by rw [stP_ok hk]; exact h.made zz8 zz8⟩
end Go.Proofs.YtjpfhkjmjnjggaaDoor
namespace Go.Proofs.YtjpfhkjmjnjggaaDoor
open Go Go.PL Go.RowKit
theorem extend (p : Pth) (hp : Hop) (s : S16) (ht : Int) (idx : Int) (w : World) (hpp : p.seen w.cell?) (hsvh : hp.sv) (hlim : SmP p) (hG : Glb w) (hn35 : p.hs.length ≤ 35) :
    Calls Tryd.prog 28 [.agg p.c.toArray, .agg hp.c.toArray, .agg (v8s s.1).toArray, .int .i64 ht, .int .i64 idx].toArray w (GivesP w (fun x : Value × List Hop => SV x.1 (exP p hp s ht idx).hs.length ∧ HsEqv (exP p hp s ht idx).hs x.2) (fun x => .tuple #[.agg (reP (exP p hp s ht idx) x).c.toArray, .int .i64 (exE p hp ht idx)]) (fun x => [.row x.1 (exP p hp s ht idx).hs.length 68 24 (hcs x.2)]) (fun x => [hopsF x.2])) := by
  obtain ⟨pf, pa, pb, pl, hv, hs⟩ := p
  have hh : Seen w.cell? hv hs.length 24 (hcs hs) := hpp.1
  have svh := hh.sv
  have lh := svh.le
  simp only [maxLen] at lh
  have hn35 : hs.length ≤ 35 := hn35
  haveI := hsvh.one
  refine enter (m := 46) (R := Mem w [] [] []) Tryd.func28 rfl rfl (Nat.le_of_ble_eq_true rfl) (Mem.start w) ?_
  refine wpc_seq <| wpc_region ?_
  refine wpl_t (t_box rfl [.int .u8 (pf.toNat : Int), .int .u64 (pa.toNat : Int), .int .u64 (pb.toNat : Int), .int .i64 pl, hv] rfl) rfl (fun b5 => ?_)
  refine wpl_t (t_box rfl hp.c rfl) rfl (fun b6 => ?_)
  refine wpl_t (t_box rfl (v8s s.1) rfl) rfl (fun b7 => ?_)
  refine wpl_t (t_alloc Tryd.ti29 Pth.z.c rfl) rfl (fun b10 => ?_)
  refine wpl_q (q_pure rfl) rfl <| wpl_nil <| ex_then <| wpc_seq <| wpc_region <| wpl_q (q_ldN Tryd.underlying29 rfl Tryd.ti29 rfl LenC.h) rfl ?_
  refine wpl_t (t_pur Tryd.hb17 rfl fun w h => hopCheck ⟨pf, pa, pb, pl, hv, hs⟩ w (hpp.old h)) rfl (fun b15 => ?_)
  refine wpl_q (q_pure rfl) rfl <| wpl_nil <| ex_then <| wpc_seq <| wpc_seq <| wpc_region <| wpl_q (q_pure rfl) rfl <| wpl_q (q_pure rfl) rfl <| wpl_nil <| ex_then ?_
  refine wpc_cond rfl (fun hc17 => ?_) (fun hc17 => ?_)
  ·
   have hk0 : chkP ⟨pf, pa, pb, pl, hv, hs⟩ ≠ 0 := by simpa using hc17
   have hK : exK ⟨pf, pa, pb, pl, hv, hs⟩ ≠ 0 := by rw [exK_chk hk0]; exact hk0
   have hV : exE ⟨pf, pa, pb, pl, hv, hs⟩ hp ht idx = chkP ⟨pf, pa, pb, pl, hv, hs⟩ := (exE_no hK).trans (exK_chk hk0)
   refine wpc_seq <| wpc_region ?_
   refine wpl_q (q_build (cs := Pth.z.c) rfl built_pz) rfl ?_
   refine wpl_q (q_pure rfl) rfl ?_
   refine wpl_t0 (t_stA Tryd.ti29 rfl rfl LenC.h OneC.h LenC.h) (fun _ => ?_)
   refine wpl_q (q_pure rfl) rfl <| wpl_nil <| ex_then <| wpc_ret ?_
   refine ex_then_ret ?_
   refine retv2 (.inl rfl) rfl (rv_agg Tryd.underlying29 rfl Tryd.ti29 rfl (fun w h => h.atB) zz0) (rv_tmp rfl) ?_
   exact fun w1 h => ⟨(.slice none 0 0, []), ⟨by rw [exP_no hK]; exact SV.nil, by rw [exP_no hK]; exact ⟨rfl, fun i hi => by cases hi⟩⟩, by rw [exP_no hK, hV]; rfl, h.below, by rw [exP_no hK]; exact er_made h⟩
  ·
   have hk0 : chkP ⟨pf, pa, pb, pl, hv, hs⟩ = 0 := by simpa using hc17
   refine wpc_skip <| ex_then <| wpc_seq <| wpc_seq <| wpc_region <| wpl_q (q_field Tryd.underlying29 rfl Tryd.ti27 rfl rfl _ rfl) rfl <| wpl_q (q_ld Tryd.underlying27 rfl rfl rfl) rfl ?_
   refine wpl_q (q_lenW Tryd.underlying27 rfl zz4) rfl ?_
   refine wpl_q (q_pure rfl) rfl <| wpl_nil <| ex_then ?_
   refine wpc_cond rfl (fun hc23 => ?_) (fun hc23 => ?_)
   ·
    have h30q : ((hs.length : Nat) : Int) = 30 := by simpa using hc23
    have h30 : hs.length = 30 := by omega
    have hK4 : exK ⟨pf, pa, pb, pl, hv, hs⟩ = 4 := exK_many hk0 h30
    have hK : exK ⟨pf, pa, pb, pl, hv, hs⟩ ≠ 0 := by rw [hK4]; decide
    have hV : exE ⟨pf, pa, pb, pl, hv, hs⟩ hp ht idx = 4 := (exE_no hK).trans hK4
    refine wpc_seq <| wpc_region ?_
    refine wpl_q (q_build (cs := Pth.z.c) rfl built_pz) rfl ?_
    refine wpl_t0 (t_stA Tryd.ti29 rfl rfl LenC.h OneC.h LenC.h) (fun _ => ?_)
    refine wpl_q (q_pure rfl) rfl <| wpl_nil <| ex_then <| wpc_ret ?_
    refine ex_then_ret ?_
    refine retv2 (.inl rfl) rfl (rv_agg Tryd.underlying29 rfl Tryd.ti29 rfl (fun w h => h.atB) zz0) (rv_tmp rfl) ?_
    exact fun w1 h => ⟨(.slice none 0 0, []), ⟨by rw [exP_no hK]; exact SV.nil, by rw [exP_no hK]; exact ⟨rfl, fun i hi => by cases hi⟩⟩, by rw [exP_no hK, hV]; rfl, h.below, by rw [exP_no hK]; exact er_made h⟩
   ·
    have h30q : ¬ ((hs.length : Nat) : Int) = 30 := by simpa using hc23
    have h30 : ¬ hs.length = 30 := by omega
    have hK : exK ⟨pf, pa, pb, pl, hv, hs⟩ = 0 := exK_ok hk0 h30
    have hn0 : hs.length ≠ 0 := (chk_inv hk0).2.2.1
    refine wpc_skip <| ex_then <| wpc_seq <| wpc_region <| wpl_q (q_field Tryd.underlying29 rfl Tryd.ti27 rfl rfl _ rfl) rfl <| wpl_q (q_ld Tryd.underlying27 rfl rfl rfl) rfl <| wpl_q (q_field Tryd.underlying29 rfl Tryd.ti27 rfl rfl _ rfl) rfl <| wpl_q (q_ld Tryd.underlying27 rfl rfl rfl) rfl ?_
    refine wpl_q (q_lenW Tryd.underlying27 rfl zz4) rfl ?_
    refine wpl_q (q_subN (b := 1) rfl rfl zz13 zz2) rfl ?_
    refine wpl_q (q_idxW Tryd.underlying27 Tryd.ti68 rfl rfl zz4 zz2) rfl ?_
    refine wpl_q (q_fieldPo 3 Tryd.underlying68 rfl Tryd.ti49 rfl rfl rfl) rfl ?_
    refine wpl_q (q_ldWF Tryd.underlying49 rfl rfl (fun w h => h.seen_old hh) (cat_get Hop.c_length Hop.z (show hs.length - 1 < hs.length from zz13) (Hop.c_to _))) rfl ?_
    refine wpl_q (q_field Tryd.underlying68 rfl Tryd.ti49 rfl rfl _ rfl) rfl ?_
    refine wpl_t0 (t_st1 Tryd.ti49 rfl rfl rfl (by rw [Hop.c_length]; decide) (hp.wa (lastTo ⟨pf, pa, pb, pl, hv, hs⟩)).c rfl) (fun _ => ?_)
    refine wpl_nil <| ex_then <| wpc_seq ?_
    haveI : OneC (hp.wa (lastTo ⟨pf, pa, pb, pl, hv, hs⟩)).c := Hop.sv.one (h := (hp.wa (lastTo ⟨pf, pa, pb, pl, hv, hs⟩))) hsvh
    refine wpc_region <| wpl_q (q_ldN Tryd.underlying29 rfl Tryd.ti29 rfl LenC.h) rfl <| wpl_q (q_ldN Tryd.underlying68 rfl Tryd.ti68 rfl LenC.h) rfl <| wpl_q (q_ldN Tryd.underlying61 rfl Tryd.ti61 rfl LenC.h) rfl <| wpl_q (q_pure rfl) rfl <| wpl_q (q_pure rfl) rfl ?_
    refine wpl_tp (t_callPF Tryd.hb52 rfl fun w h => signP ⟨pf, pa, pb, pl, hv, hs⟩ (hp.wa (lastTo ⟨pf, pa, pb, pl, hv, hs⟩)) s ht idx w (hpp.old h) hsvh hlim (glob h hG) hn35) rfl (fun b41 p41 => ?_)
    haveI : OneC (reP (sgP ⟨pf, pa, pb, pl, hv, hs⟩ (hp.wa (lastTo ⟨pf, pa, pb, pl, hv, hs⟩)) s ht idx) b41).c := reP_one p41.1
    refine wpl_q (q_pure rfl) rfl <| wpl_q (q_pure rfl) rfl <| wpl_q (q_pure rfl) rfl ?_
    refine wpl_t (t_alloc Tryd.ti29 Pth.z.c rfl) rfl (fun b13 => ?_)
    refine wpl_t0 (t_stA Tryd.ti29 rfl rfl LenC.h OneC.h LenC.h) (fun _ => ?_)
    refine wpl_q (q_pure rfl) rfl <| wpl_nil <| ex_then <| wpc_seq <| wpc_region <| wpl_q (q_ldN Tryd.underlying29 rfl Tryd.ti29 rfl LenC.h) rfl <| wpl_q (q_pure rfl) rfl ?_
    refine wpl_t0 (t_stA Tryd.ti29 rfl rfl LenC.h OneC.h LenC.h) (fun _ => ?_)
    refine wpl_q (q_pure rfl) rfl <| wpl_nil <| ex_then <| wpc_ret ?_
    refine retv2 (.inl rfl) rfl (rv_agg Tryd.underlying29 rfl Tryd.ti29 rfl (fun w h => h.atB) zz0) (rv_tmp rfl) ?_
    exact fun w1 h => ⟨b41, by rw [exP_ok hK]; exact p41, by rw [exP_ok hK, exE_ok hK]; rfl, h.below, by rw [exP_ok hK]; exact h.made zz8 zz8⟩
end Go.Proofs.YtjpfhkjmjnjggaaDoor
namespace Go.Proofs.YtjpfhkjmjnjggaaDoor
open Go Go.PL Go.RowKit
instance lenC_kz : LenC (v8s (List.replicate 16 0) ++ [Value.int .i64 0]) 17 := ⟨rfl⟩
theorem Pth.c_hv (p : Pth) : p.c[4]? = some p.hv := rfl
theorem TwoP.msg0 {p : Pth} (t : TwoP p) : msgE p 0 = 0 ∧ msgV p 0 = msgB p 0 := t.msg 0 zz17
theorem TwoP.msg1 {p : Pth} (t : TwoP p) : msgE p 1 = 0 ∧ msgV p 1 = msgB p 1 := t.msg 1 zz17
theorem rk_ne {a b : UInt32} {s t : S16} {h k : Int} (e : a ≠ b) : rkS a s h ≠ rkS b t k := fun q => e (congrArg Prod.fst q)
theorem two_bad : ¬ ((30 : UInt32) = 30 ∧ rkS 10 (sB 1) 0 ∈ [rkS 10 (sB 1) 0, rkS 21 (sB 2) 0] ∧ rkS 20 (sB 2) 0 ∈ [rkS 10 (sB 1) 0, rkS 21 (sB 2) 0]) := by
  rintro ⟨-, -, h⟩
  simp only [List.mem_cons, List.not_mem_nil, or_false] at h
  rcases h with h | h
  · exact rk_ne zz17 h
  · exact rk_ne zz17 h
theorem ten  (w : World)   :
    Calls Tryd.prog 32 [].toArray w (Pur w (.agg (pfL 4 0 167772160 8).toArray)) := by
  refine enter (m := 3) (R := Mem w [] [] []) Tryd.func32 rfl rfl (Nat.le_of_ble_eq_true rfl) (Mem.start w) ?_
  refine wpc_seq <| wpc_region ?_
  refine wpl_t (t_alloc Tryd.ti26 (pfL 0 0 0 0) rfl) rfl (fun b0 => ?_)
  refine wpl_nil <| ex_then <| wpc_seq <| wpc_region ?_
  refine wpl_q (q_build (cs := adL 0 167772160) rfl zz6) rfl ?_
  refine wpl_q (q_build (cs := pfL 4 0 167772160 8) rfl zz6) rfl ?_
  refine wpl_t0 (t_stA Tryd.ti26 rfl rfl LenC.h OneC.h LenC.h) (fun _ => ?_)
  refine wpl_nil <| ex_then <| wpc_ret ?_
  refine retv1 (.inl rfl) rfl (rv_agg Tryd.underlying26 rfl Tryd.ti26 rfl (fun w h => h.atB) zz0) ?_
  exact fun w h => ⟨rfl, h.below⟩
theorem two_  (w : World)  (hG : Glb w) :
    Calls Tryd.prog 30 [].toArray w (GivesP w (fun p : Pth => SV p.hv p.hs.length ∧ TwoP p) (fun p => .tuple #[.agg p.c.toArray, .bool true]) (fun p => [.row p.hv p.hs.length 68 24 (hcs p.hs)]) (fun p => [hopsF p.hs])) := by
  refine enter (m := 33) (R := Mem w [] [] []) Tryd.func30 rfl rfl (Nat.le_of_ble_eq_true rfl) (Mem.start w) ?_
  refine wpc_seq <| wpc_region ?_
  refine wpl_t (t_alloc Tryd.ti29 Pth.z.c rfl) rfl (fun b0 => ?_)
  refine wpl_q (q_pure rfl) rfl <| wpl_nil <| ex_then <| wpc_seq <| wpc_region ?_
  refine wpl_t (t_pur Tryd.hb32 rfl fun w h => ten w) rfl (fun b7 => ?_)
  refine wpl_q (q_build (cs := hpA.c) rfl built_hpA) rfl ?_
  refine wpl_q (q_build (cs := v8s (sB 1).1) rfl (built_array Tryd.underlying61 Tryd.ti61 Tryd.ti5 rfl)) rfl ?_
  refine wpl_tp (t_callPF Tryd.hb26 rfl fun w h => by
    have q := start 4 0 167772160 8 hpA (sB 1) 0 0 w hpA_sv (glob h hG)
    rw [st_ok] at q
    exact q) rfl (fun b10 p10 => ?_)
  haveI : OneC (reP (stP 4 0 167772160 8 hpA (sB 1) 0 0) b10).c := reP_one p10.1
  obtain ⟨g1, l1, q1⟩ := st_gd st_ok p10.2
  have l1x : (reP (stP 4 0 167772160 8 hpA (sB 1) 0 0) b10).hs.length = 1 := l1
  have hex := ex_ok g1 l1x
  refine wpl_q (q_pure rfl) rfl <| wpl_q (q_pure rfl) rfl <| wpl_q (q_pure rfl) rfl ?_
  refine wpl_t (t_alloc Tryd.ti29 Pth.z.c rfl) rfl (fun b2 => ?_)
  refine wpl_t0 (t_stA Tryd.ti29 rfl rfl LenC.h OneC.h LenC.h) (fun _ => ?_)
  refine wpl_q (q_pure rfl) rfl <| wpl_nil <| ex_then <| wpc_seq <| wpc_region <| wpl_q (q_ldN Tryd.underlying29 rfl Tryd.ti29 rfl LenC.h) rfl ?_
  refine wpl_q (q_build (cs := hpB.c) rfl built_hpB) rfl ?_
  refine wpl_q (q_build (cs := v8s (sB 2).1) rfl (built_array Tryd.underlying61 Tryd.ti61 Tryd.ti5 rfl)) rfl ?_
  refine wpl_tp (t_callPF Tryd.hb28 rfl fun w h => by
    have q := extend (reP (stP 4 0 167772160 8 hpA (sB 1) 0 0) b10) hpB (sB 2) 0 0 w (reP_seen p10.2 (h.seen_row zz5) (hopsF_at h zz5)) hpB_sv (chk_small g1.1) (glob h hG) zz13
    rw [hex] at q
    exact q) rfl (fun b17 p17 => ?_)
  haveI : OneC (reP (exP (reP (stP 4 0 167772160 8 hpA (sB 1) 0 0) b10) hpB (sB 2) 0 0) b17).c := reP_one p17.1
  have t2 := two_ok p10.2 p17.2
  have l2 : b17.2.length = 2 := t2.len
  have l3x := l2
  have svb : SV b17.1 2 := by rw [← p17.2.1.trans l2]; exact p17.1
  have l3 : (exP (reP (stP 4 0 167772160 8 hpA (sB 1) 0 0) b10) hpB (sB 2) 0 0).hs.length = 2 := p17.2.1.trans l2
  refine wpl_q (q_pure rfl) rfl <| wpl_q (q_pure rfl) rfl <| wpl_q (q_pure rfl) rfl ?_
  refine wpl_t (t_alloc Tryd.ti29 Pth.z.c rfl) rfl (fun b4 => ?_)
  refine wpl_t0 (t_stA Tryd.ti29 rfl rfl LenC.h OneC.h LenC.h) (fun _ => ?_)
  refine wpl_q (q_pure rfl) rfl <| wpl_nil <| ex_then <| wpc_seq ?_
  refine wpc_drawM [.blk b4 29 (reP (exP (reP (stP 4 0 167772160 8 hpA (sB 1) 0 0) b10) hpB (sB 2) 0 0) b17).c] 99 zz6 zz8 ?_
  refine wpd_q 0 rfl zz6 trivial (q_ldN Tryd.underlying29 rfl Tryd.ti29 rfl LenC.h) rfl (fun w h => h.sub SubC.h SubC.h) ?_
  refine wpd_p 1 rfl zz6 trivial (q_pure rfl) rfl (fun w h => .inr (h.sub SubC.h SubC.h)) ?_
  refine wpd_p 2 rfl zz6 trivial (q_tru (q_eqI rfl rfl) rfl) rfl (fun w h => .inr (h.sub SubC.h SubC.h)) ?_
  refine wpd_p 3 rfl zz6 trivial (q_pure rfl) rfl (fun w h => .inr (h.sub SubC.h SubC.h)) ?_
  refine wpd_p 4 rfl zz6 ⟨_, rfl, rfl⟩ (q_pure rfl) rfl (fun w h => .inr (h.sub SubC.h SubC.h)) ?_
  refine wpd_p 5 rfl zz6 ⟨_, rfl, rfl⟩ (q_tru (q_eqI rfl rfl) rfl) rfl (fun w h => .inr (h.sub SubC.h SubC.h)) ?_
  refine wpd_p 6 rfl zz6 trivial (q_pure rfl) rfl (fun w h => .inr (h.sub SubC.h SubC.h)) ?_
  refine wpd_p 7 rfl zz6 trivial (q_pure rfl) rfl (fun w h => .inr (h.sub SubC.h SubC.h)) ?_
  refine wpd_p 8 rfl zz6 ⟨_, rfl, rfl⟩ (q_field Tryd.underlying29 rfl Tryd.ti27 rfl rfl _ rfl) rfl (fun w h => .inr (h.sub SubC.h SubC.h)) ?_
  refine wpd_q 9 rfl zz6 ⟨_, rfl, rfl⟩ (q_ld Tryd.underlying27 rfl rfl (Pth.c_hv (reP (exP (reP (stP 4 0 167772160 8 hpA (sB 1) 0 0) b10) hpB (sB 2) 0 0) b17))) rfl (fun w h => h.sub SubC.h SubC.h) ?_
  refine wpd_p 10 rfl zz6 ⟨_, rfl, rfl⟩ (q_lenW Tryd.underlying27 rfl zz4) rfl (fun w h => .inr (h.sub SubC.h SubC.h)) ?_
  refine wpd_p 11 rfl zz6 ⟨_, rfl, rfl⟩ (q_tru (q_eqI rfl rfl) rfl) rfl (fun w h => .inr (h.sub SubC.h SubC.h)) ?_
  refine wpd_p 12 rfl zz6 trivial (q_pure rfl) rfl (fun w h => .inr (h.sub SubC.h SubC.h)) ?_
  refine wpd_t0 13 rfl zz6 trivial (t_stA Tryd.ti29 rfl rfl LenC.h OneC.h LenC.h) (fun _ => (fun w h => .inr (h.sub SubC.h SubC.h))) (fun _ => ?_)
  refine wpd_p 14 rfl zz6 trivial (q_pure rfl) rfl (fun w h => .inr (h.sub SubC.h SubC.h)) ?_
  refine wpd_done zz6 ?_
  refine ex_then <| wpc_ret ?_
  refine retv2 (.inl rfl) rfl (rv_agg Tryd.underlying29 rfl Tryd.ti29 rfl (fun w h => h.atB) zz0) (rv_tmp rfl) ?_
  exact fun w h => ⟨(reP (exP (reP (stP 4 0 167772160 8 hpA (sB 1) 0 0) b10) hpB (sB 2) 0 0) b17), ⟨by show SV b17.1 b17.2.length; rw [l2, ← l3]; exact p17.1, t2⟩, rfl, h.below, by
    have h2 := h.made (N := [.row b17.1 (exP (reP (stP 4 0 167772160 8 hpA (sB 1) 0 0) b10) hpB (sB 2) 0 0).hs.length 68 24 (hcs b17.2)]) (T := [hopsF b17.2]) zz8 zz8
    rw [l3] at h2
    show New _ [.row b17.1 b17.2.length _ 24 _] _ _
    rw [l2]; exact h2⟩
theorem key_ (x : UInt8) (w : World)  (hG : Glb w) :
    Calls Tryd.prog 31 [.int .u8 x.toNat].toArray w (Pur w (.agg (v8s (keyR (sB x).1 0) ++ [Value.int .i64 (keyH 0)]).toArray)) := by
  refine enter (m := 12) (R := Mem w [] [] []) Tryd.func31 rfl rfl (Nat.le_of_ble_eq_true rfl) (Mem.start w) ?_
  refine wpc_seq <| wpc_region ?_
  refine wpl_t (t_alloc Tryd.ti63 (v8s (List.replicate 16 0) ++ [.int .i64 0]) rfl) rfl (fun b2 => ?_)
  refine wpl_nil <| ex_then <| wpc_seq <| wpc_region <| wpl_q (q_pure rfl) rfl ?_
  refine wpl_q (q_build (cs := v8s (sB x).1) rfl (built_array Tryd.underlying61 Tryd.ti61 Tryd.ti5 rfl)) rfl ?_
  refine wpl_t (t_pur Tryd.hb54 rfl fun w h => key7 (sB x).1 0 w (sB x).2 (glob h hG)) rfl (fun b8 => ?_)
  refine wpl_q (q_pure rfl) rfl <| wpl_q (q_pure rfl) rfl <| wpl_q (q_pure rfl) rfl ?_
  refine wpl_t (t_alloc Tryd.ti63 (v8s (List.replicate 16 0) ++ [.int .i64 0]) rfl) rfl (fun b3 => ?_)
  refine wpl_t0 (t_stA Tryd.ti63 rfl rfl LenC.h OneC.h LenC.h) (fun _ => ?_)
  refine wpl_q (q_pure rfl) rfl <| wpl_nil <| ex_then <| wpc_seq <| wpc_region <| wpl_q (q_ldN Tryd.underlying63 rfl Tryd.ti63 rfl LenC.h) rfl ?_
  refine wpl_t0 (t_stA Tryd.ti63 rfl rfl LenC.h OneC.h LenC.h) (fun _ => ?_)
  refine wpl_nil <| ex_then <| wpc_ret ?_
  refine retv1 (.inl rfl) rfl (rv_agg Tryd.underlying63 rfl Tryd.ti63 rfl (fun w h => h.atB) zz0) ?_
  exact fun w h => ⟨rfl, h.below⟩
theorem is_ (p : Pth) (to : UInt32) (want : UInt8) (kv : Value) (ks : List RK) (w : World) (hp : p.seen w.cell?) (hkv : Seen w.cell? kv ks.length 18 (rks ks)) (hlim : SmP p) (hG : Glb w) (hkl : ks.length ≤ 100) :
    Calls Tryd.prog 33 [.agg p.c.toArray, .int .u32 to.toNat, .int .u8 want.toNat, kv].toArray w (Pur w (.bool (decide (vrV p to ks = want)))) := by
  obtain ⟨pf, pa, pb, pl, hv, hs⟩ := p
  have hh : Seen w.cell? hv hs.length 24 (hcs hs) := hp.1
  have svh := hh.sv
  have lh := svh.le
  simp only [maxLen] at lh
  have skv := hkv.sv
  have lkv := skv.le
  simp only [maxLen] at lkv
  refine enter (m := 25) (R := Mem w [] [] []) Tryd.func33 rfl rfl (Nat.le_of_ble_eq_true rfl) (Mem.start w) ?_
  refine wpc_seq <| wpc_region ?_
  refine wpl_t (t_box rfl [.int .u8 (pf.toNat : Int), .int .u64 (pa.toNat : Int), .int .u64 (pb.toNat : Int), .int .i64 pl, hv] rfl) rfl (fun b4 => ?_)
  refine wpl_q (q_pure rfl) rfl <| wpl_nil <| ex_then <| wpc_seq <| wpc_region <| wpl_q (q_ldN Tryd.underlying29 rfl Tryd.ti29 rfl LenC.h) rfl <| wpl_q (q_pure rfl) rfl <| wpl_q (q_pure rfl) rfl ?_
  refine wpl_t (t_pur Tryd.hb24 rfl fun w h => by
    have q := verify42 ⟨pf, pa, pb, pl, hv, hs⟩ to kv ks w (hp.old h) (h.seen_old hkv) hlim (glob h hG)
    rw [vrE_ok (show ¬ 100 < ks.length from zz13)] at q
    exact q) rfl (fun b15 => ?_)
  refine wpl_q (q_pure rfl) rfl <| wpl_q (q_pure rfl) rfl <| wpl_q (q_pure rfl) rfl <| wpl_q (q_pure rfl) rfl <| wpl_q (q_pure rfl) rfl <| wpl_nil <| ex_then <| wpc_seq <| wpc_region <| wpl_q (q_pure rfl) rfl <| wpl_q (q_tru (q_eqI rfl rfl) rfl) rfl <| wpl_q (q_pure rfl) rfl ?_
  refine wpl_on rfl rfl <| wpl_q (q_pure rfl) rfl <| wpl_on rfl rfl <| wpl_q (q_pure rfl) rfl <| wpl_on rfl rfl <| wpl_q (q8_eql rfl rfl) rfl <| wpl_q (q_pure rfl) rfl <| wpl_q (q_pure rfl) rfl <| wpl_nil <| ex_then <| wpc_ret ?_
  refine ret1 (.inl rfl) rfl rfl ?_
  exact fun w h => ⟨rfl, h.below⟩
theorem alive  (w : World)  (hG : Glb w) :
    Calls Tryd.prog 34 [].toArray w (Pur w (.bool true)) := by
  refine enter (m := 84) (R := Mem w [] [] []) Tryd.func34 rfl rfl (Nat.le_of_ble_eq_true rfl) (Mem.start w) ?_
  refine wpc_seq <| wpc_region <| wpl_q (q_pure rfl) rfl <| wpl_nil <| ex_then <| wpc_seq <| wpc_region ?_
  refine wpl_tp (t_callPF Tryd.hb30 rfl fun w h => two_ w (glob h hG)) rfl (fun b12 p12 => ?_)
  haveI : OneC b12.c := Pth.sv.one p12.1
  have t2 := p12.2
  have l2 := t2.len
  refine wpl_q (q_pure rfl) rfl <| wpl_q (q_pure rfl) rfl <| wpl_q (q_pure rfl) rfl ?_
  refine wpl_t (t_alloc Tryd.ti29 Pth.z.c rfl) rfl (fun b1 => ?_)
  refine wpl_t0 (t_stA Tryd.ti29 rfl rfl LenC.h OneC.h LenC.h) (fun _ => ?_)
  refine wpl_q (q_pure rfl) rfl <| wpl_nil <| ex_then <| wpc_seq <| wpc_region ?_
  refine wpl_t (t_pur Tryd.hb31 rfl fun w h => key_ 1 w (glob h hG)) rfl (fun b15 => ?_)
  refine wpl_q (q_build (cs := RK.c (rkS 10 (sB 1) 0)) rfl (built_rk 10 ⟨keyR (sB 1).1 0, keyR_l _ _⟩ (keyH 0))) rfl ?_
  refine wpl_t (t_pur Tryd.hb31 rfl fun w h => key_ 2 w (glob h hG)) rfl (fun b17 => ?_)
  refine wpl_q (q_build (cs := RK.c (rkS 20 (sB 2) 0)) rfl (built_rk 20 ⟨keyR (sB 2).1 0, keyR_l _ _⟩ (keyH 0))) rfl ?_
  refine wpl_t (t_alloc Tryd.ti80 RK.z.c rfl) rfl (fun b3 => ?_)
  refine wpl_t (t_alloc Tryd.ti80 RK.z.c rfl) rfl (fun b4 => ?_)
  refine wpl_t0 (t_stA Tryd.ti80 rfl rfl LenC.h OneC.h LenC.h) (fun _ => ?_)
  refine wpl_t0 (t_stA Tryd.ti80 rfl rfl LenC.h OneC.h LenC.h) (fun _ => ?_)
  refine wpl_nil <| ex_then <| wpc_seq <| wpc_region <| wpl_q (q_ldN Tryd.underlying29 rfl Tryd.ti29 rfl LenC.h) rfl ?_
  refine wpl_tp (t_callP1 Tryd.hb15 rfl fun w h => by
    have q := systems b12 w ⟨h.seen_row zz5, hopsF_at h zz5⟩
    rw [t2.sys.1, t2.sys.2] at q
    exact q) rfl (fun b21 p21 => ?_)
  refine wpl_q (q_pure rfl) rfl <| wpl_q (q_pure rfl) rfl <| wpl_q (q_pure rfl) rfl <| wpl_q (q_pure rfl) rfl <| wpl_q (q_pure rfl) rfl <| wpl_nil <| ex_then <| wpc_seq <| wpc_region <| wpl_q (q_ldN Tryd.underlying29 rfl Tryd.ti29 rfl LenC.h) rfl ?_
  refine wpl_tp (t_callP1 Tryd.hb13 rfl fun w h => by
    have q := hopMessage b12 0 w ⟨h.seen_row zz5, hopsF_at h zz5⟩ t2.sm (glob h hG)
    rw [t2.msg0.1, t2.msg0.2, t2.m0] at q
    exact q) rfl (fun b26 p26 => ?_)
  refine wpl_q (q_pure rfl) rfl <| wpl_q (q_pure rfl) rfl <| wpl_q (q_pure rfl) rfl <| wpl_q (q_pure rfl) rfl <| wpl_q (q_pure rfl) rfl <| wpl_nil <| ex_then <| wpc_seq <| wpc_region <| wpl_q (q_ldN Tryd.underlying29 rfl Tryd.ti29 rfl LenC.h) rfl ?_
  refine wpl_tp (t_callP1 Tryd.hb13 rfl fun w h => by
    have q := hopMessage b12 1 w ⟨h.seen_row zz5, hopsF_at h zz5⟩ t2.sm (glob h hG)
    rw [t2.msg1.1, t2.msg1.2, t2.m1] at q
    exact q) rfl (fun b31 p31 => ?_)
  refine wpl_q (q_pure rfl) rfl <| wpl_q (q_pure rfl) rfl <| wpl_q (q_pure rfl) rfl <| wpl_q (q_pure rfl) rfl <| wpl_q (q_pure rfl) rfl <| wpl_nil <| ex_then <| wpc_seq ?_
  refine wpc_draw 51 zz6 (fun _ h => h.drew) ?_
  refine wpd_p 0 rfl zz6 trivial (q_pure rfl) rfl sk0 ?_
  refine wpd_p 1 rfl zz6 trivial (q_pure rfl) rfl sk0 ?_
  refine wpd_p 2 rfl zz6 ⟨_, rfl, rfl⟩ (q_pure rfl) rfl sk0 ?_
  refine wpd_p 3 rfl zz6 ⟨_, rfl, rfl⟩ (q_tru (q_eqI rfl rfl) rfl) rfl sk0 ?_
  refine wpd_p 4 rfl zz6 trivial (q_pure rfl) rfl sk0 ?_
  refine wpd_p 5 rfl zz6 trivial (q_pure rfl) rfl sk0 ?_
  refine wpd_p 6 rfl zz6 ⟨_, rfl, rfl⟩ (q_pure rfl) rfl sk0 ?_
  refine wpd_tp 7 rfl zz6 ⟨_, rfl, rfl⟩ (t_bsV (v32s [(20 : UInt32), (20 : UInt32), (10 : UInt32)]) Tryd.underlying38 Tryd.ti49 rfl rfl zz17 zz17 rfl (v32s_one _)) rfl (fun _ => (fun w h => .inr (h.sub SubC.h SubC.h))) (fun b41 p41 => ?_)
  refine wpd_t 8 rfl zz6 ⟨_, rfl, rfl⟩ (t_pur (v := .bool true) Tryd.hb20 rfl fun w h => by
    have q := refSameSystems b21 [20, 20, 10] b41 [20, 20, 10] w (h.seen_row zz5) (h.seen_row zz5)
    rwa [decide_eq_true rfl] at q) rfl (fun _ => (fun w h => .inr (h.sub SubC.h SubC.h))) (fun b42 => ?_)
  refine wpd_p 9 rfl zz6 trivial (q_pure rfl) rfl (fun w h => .inr (h.sub SubC.h SubC.h)) ?_
  refine wpd_p 10 rfl zz6 trivial (q_pure rfl) rfl (fun w h => .inr (h.sub SubC.h SubC.h)) ?_
  refine wpd_p 11 rfl zz6 ⟨_, rfl, rfl⟩ (q_pure rfl) rfl (fun w h => .inr (h.sub SubC.h SubC.h)) ?_
  refine wpd_p 12 rfl zz6 ⟨_, rfl, rfl⟩ (q_tru (q_eqI rfl rfl) rfl) rfl (fun w h => .inr (h.sub SubC.h SubC.h)) ?_
  refine wpd_p 13 rfl zz6 trivial (q_pure rfl) rfl (fun w h => .inr (h.sub SubC.h SubC.h)) ?_
  refine wpd_p 14 rfl zz6 trivial (q_pure rfl) rfl (fun w h => .inr (h.sub SubC.h SubC.h)) ?_
  refine wpd_p 15 rfl zz6 ⟨_, rfl, rfl⟩ (q_pure rfl) rfl (fun w h => .inr (h.sub SubC.h SubC.h)) ?_
  refine wpd_p 16 rfl zz6 ⟨_, rfl, rfl⟩ (q_lenW Tryd.underlying32 rfl zz4) rfl (fun w h => .inr (h.sub SubC.h SubC.h)) ?_
  refine wpd_p 17 rfl zz6 ⟨_, rfl, rfl⟩ (q_tru (q_eqI rfl rfl) rfl) rfl (fun w h => .inr (h.sub SubC.h SubC.h)) ?_
  refine wpd_p 18 rfl zz6 trivial (q_pure rfl) rfl (fun w h => .inr (h.sub SubC.h SubC.h)) ?_
  refine wpd_p 19 rfl zz6 trivial (q_pure rfl) rfl (fun w h => .inr (h.sub SubC.h SubC.h)) ?_
  refine wpd_p 20 rfl zz6 ⟨_, rfl, rfl⟩ (q_pure rfl) rfl (fun w h => .inr (h.sub SubC.h SubC.h)) ?_
  refine wpd_p 21 rfl zz6 ⟨_, rfl, rfl⟩ (q_tru (q_eqI rfl rfl) rfl) rfl (fun w h => .inr (h.sub SubC.h SubC.h)) ?_
  refine wpd_p 22 rfl zz6 trivial (q_pure rfl) rfl (fun w h => .inr (h.sub SubC.h SubC.h)) ?_
  refine wpd_p 23 rfl zz6 trivial (q_pure rfl) rfl (fun w h => .inr (h.sub SubC.h SubC.h)) ?_
  refine wpd_p 24 rfl zz6 ⟨_, rfl, rfl⟩ (q_pure rfl) rfl (fun w h => .inr (h.sub SubC.h SubC.h)) ?_
  refine wpd_p 25 rfl zz6 ⟨_, rfl, rfl⟩ (q_lenW Tryd.underlying32 rfl zz4) rfl (fun w h => .inr (h.sub SubC.h SubC.h)) ?_
  refine wpd_p 26 rfl zz6 ⟨_, rfl, rfl⟩ (q_tru (q_eqI rfl rfl) rfl) rfl (fun w h => .inr (h.sub SubC.h SubC.h)) ?_
  refine wpd_p 27 rfl zz6 trivial (q_pure rfl) rfl (fun w h => .inr (h.sub SubC.h SubC.h)) ?_
  refine wpd_p 28 rfl zz6 trivial (q_pure rfl) rfl (fun w h => .inr (h.sub SubC.h SubC.h)) ?_
  refine wpd_q 29 rfl zz6 ⟨_, rfl, rfl⟩ (q_ldN Tryd.underlying29 rfl Tryd.ti29 rfl LenC.h) rfl (fun w h => h.sub SubC.h SubC.h) ?_
  refine wpd_q 30 rfl zz6 ⟨_, rfl, rfl⟩ (q_ldN Tryd.underlying80 rfl Tryd.ti80 rfl LenC.h) rfl (fun w h => h.sub SubC.h SubC.h) ?_
  refine wpd_q 31 rfl zz6 ⟨_, rfl, rfl⟩ (q_ldN Tryd.underlying80 rfl Tryd.ti80 rfl LenC.h) rfl (fun w h => h.sub SubC.h SubC.h) ?_
  refine wpd_tp 32 rfl zz6 ⟨_, rfl, rfl⟩ (t_bsG [.agg (RK.c (rkS 10 (sB 1) 0)).toArray, .agg (RK.c (rkS 20 (sB 2) 0)).toArray] (rks [(rkS 10 (sB 1) 0), (rkS 20 (sB 2) 0)]) Tryd.underlying50 Tryd.ti80 rfl zz17 rfl zz17 zz17 rfl zz21 rfl) rfl (fun _ => (fun w h => .inr (h.sub SubC.h SubC.h))) (fun b66 p66 => ?_)
  refine wpd_t 33 rfl zz6 ⟨_, rfl, rfl⟩ (t_pur (v := .bool true) Tryd.hb33 rfl fun w h => by
    have q := is_ b12 30 1 b66 [(rkS 10 (sB 1) 0), (rkS 20 (sB 2) 0)] w ⟨h.seen_row zz5, hopsF_at h zz5⟩ (h.seen_row zz5) t2.sm (glob h hG) zz17
    rwa [decide_eq_true ((t2.vr zz17 _).2 ⟨rfl, zz38, zz38⟩)] at q) rfl (fun _ => (fun w h => .inr (h.sub SubC.h SubC.h))) (fun b67 => ?_)
  refine wpd_p 34 rfl zz6 trivial (q_pure rfl) rfl (fun w h => .inr (h.sub SubC.h SubC.h)) ?_
  refine wpd_p 35 rfl zz6 trivial (q_pure rfl) rfl (fun w h => .inr (h.sub SubC.h SubC.h)) ?_
  refine wpd_q 36 rfl zz6 ⟨_, rfl, rfl⟩ (q_ldN Tryd.underlying29 rfl Tryd.ti29 rfl LenC.h) rfl (fun w h => h.sub SubC.h SubC.h) ?_
  refine wpd_q 37 rfl zz6 ⟨_, rfl, rfl⟩ (q_ldN Tryd.underlying80 rfl Tryd.ti80 rfl LenC.h) rfl (fun w h => h.sub SubC.h SubC.h) ?_
  refine wpd_q 38 rfl zz6 ⟨_, rfl, rfl⟩ (q_ldN Tryd.underlying80 rfl Tryd.ti80 rfl LenC.h) rfl (fun w h => h.sub SubC.h SubC.h) ?_
  refine wpd_tp 39 rfl zz6 ⟨_, rfl, rfl⟩ (t_bsG [.agg (RK.c (rkS 10 (sB 1) 0)).toArray, .agg (RK.c (rkS 20 (sB 2) 0)).toArray] (rks [(rkS 10 (sB 1) 0), (rkS 20 (sB 2) 0)]) Tryd.underlying50 Tryd.ti80 rfl zz17 rfl zz17 zz17 rfl zz21 rfl) rfl (fun _ => (fun w h => .inr (h.sub SubC.h SubC.h))) (fun b73 p73 => ?_)
  refine wpd_t 40 rfl zz6 ⟨_, rfl, rfl⟩ (t_pur (v := .bool true) Tryd.hb33 rfl fun w h => by
    have q := is_ b12 40 2 b73 [(rkS 10 (sB 1) 0), (rkS 20 (sB 2) 0)] w ⟨h.seen_row zz5, hopsF_at h zz5⟩ (h.seen_row zz5) t2.sm (glob h hG) zz17
    rwa [decide_eq_true (t2.no zz17 (fun q => absurd q.1 zz17))] at q) rfl (fun _ => (fun w h => .inr (h.sub SubC.h SubC.h))) (fun b74 => ?_)
  refine wpd_p 41 rfl zz6 trivial (q_pure rfl) rfl (fun w h => .inr (h.sub SubC.h SubC.h)) ?_
  refine wpd_p 42 rfl zz6 trivial (q_pure rfl) rfl (fun w h => .inr (h.sub SubC.h SubC.h)) ?_
  refine wpd_q 43 rfl zz6 ⟨_, rfl, rfl⟩ (q_ldN Tryd.underlying29 rfl Tryd.ti29 rfl LenC.h) rfl (fun w h => h.sub SubC.h SubC.h) ?_
  refine wpd_q 44 rfl zz6 ⟨_, rfl, rfl⟩ (q_ldN Tryd.underlying80 rfl Tryd.ti80 rfl LenC.h) rfl (fun w h => h.sub SubC.h SubC.h) ?_
  refine wpd_t 45 rfl zz6 ⟨_, rfl, rfl⟩ (t_pur Tryd.hb31 rfl fun w h => key_ 2 w (glob h hG)) rfl (fun _ => (fun w h => .inr (h.sub SubC.h SubC.h))) (fun b79 => ?_)
  refine wpd_p 46 rfl zz6 ⟨_, rfl, rfl⟩ (q_build (cs := RK.c (rkS 21 (sB 2) 0)) rfl (built_rk 21 ⟨keyR (sB 2).1 0, keyR_l _ _⟩ (keyH 0))) rfl (fun w h => .inr (h.sub SubC.h SubC.h)) ?_
  refine wpd_tp 47 rfl zz6 ⟨_, rfl, rfl⟩ (t_bsG [.agg (RK.c (rkS 10 (sB 1) 0)).toArray, .agg (RK.c (rkS 21 (sB 2) 0)).toArray] (rks [(rkS 10 (sB 1) 0), (rkS 21 (sB 2) 0)]) Tryd.underlying50 Tryd.ti80 rfl zz17 rfl zz17 zz17 rfl zz21 rfl) rfl (fun _ => (fun w h => .inr (h.sub SubC.h SubC.h))) (fun b81 p81 => ?_)
  refine wpd_t 48 rfl zz6 ⟨_, rfl, rfl⟩ (t_pur (v := .bool true) Tryd.hb33 rfl fun w h => by
    have q := is_ b12 30 2 b81 [(rkS 10 (sB 1) 0), (rkS 21 (sB 2) 0)] w ⟨h.seen_row zz5, hopsF_at h zz5⟩ (h.seen_row zz5) t2.sm (glob h hG) zz17
    rwa [decide_eq_true (t2.no zz17 two_bad)] at q) rfl (fun _ => (fun w h => .inr (h.sub SubC.h SubC.h))) (fun b82 => ?_)
  refine wpd_p 49 rfl zz6 trivial (q_pure rfl) rfl (fun w h => .inr (h.sub SubC.h SubC.h)) ?_
  refine wpd_p 50 rfl zz6 trivial (q_pure rfl) rfl (fun w h => .inr (h.sub SubC.h SubC.h)) ?_
  refine wpd_done zz6 ?_
  refine ex_then <| wpc_ret ?_
  refine ret1 (.inl rfl) rfl rfl ?_
  exact fun w h => ⟨rfl, h.below⟩
end Go.Proofs.YtjpfhkjmjnjggaaDoor
namespace Go.Proofs.YtjpfhkjmjnjggaaDoor
open Go Go.PL Go.RowKit
def rkH (a : UInt32) (h : Hop) : RK := (a, h.root, h.ht)
section
variable {p q : Pth} {ha hb : Hop} {s1 s2 : S16}
abbrev k1 (q : Pth) (ha : Hop) : RK := rkH ha.to (q.hs.getD 1 Hop.z)
end
end Go.Proofs.YtjpfhkjmjnjggaaDoor
namespace Go.Proofs.YtjpfhkjmjnjggaaDoor
open Go Go.PL Go.RowKit
theorem chk_35 {p : Pth} (h : chkP p = 0) {i : Nat} (hi : i < p.hs.length) : (p.hs.getD i Hop.z).chs.length = 35 := by
  have hb := (chk_inv h).2.2.2 i hi
  unfold badH at hb
  rw [not_or, not_or, Decidable.not_not] at hb
  have hc := hb.2.1
  unfold checkF at hc
  split at hc
  · split at hc
    · rename_i h2; exact h2.2.2.1
    · cases hc
  · cases hc
theorem two2_ (w : World) (hG : Glb w) : Calls Tryd.prog 30 [].toArray w (GivesP w (fun p : Pth => (SV p.hv p.hs.length ∧ TwoP p) ∧ ∀ q ∈ p.hs, q.sv) (fun p => .tuple #[.agg p.c.toArray, .bool true]) (fun p => [.row p.hv p.hs.length 68 24 (hcs p.hs)]) (fun p => [hopsF p.hs])) :=
  (two_ w hG).mono fun e w' ⟨x, hx, he, bel, nw⟩ => ⟨x, ⟨hx, fun q hq => (nw.facts _ (List.mem_singleton_self _) q hq).sv⟩, he, bel, nw⟩
theorem twin2_ (p : Pth) (w : World) (hp : p.seen w.cell?) (hlim : SmP p) (hn35 : p.hs.length ≤ 35) : Calls Tryd.prog 12 [.agg p.c.toArray].toArray w (GivesP w (fun x : Value × List Hop => (SV x.1 p.hs.length ∧ HsEqv p.hs x.2) ∧ ∀ q ∈ x.2, q.sv) (fun x => .agg (tw2 p x).c.toArray) (fun x => [.row x.1 p.hs.length 68 24 (hcs x.2)]) (fun x => [hopsF x.2])) :=
  (refTwin42 p w hp hlim hn35).mono fun e w' ⟨x, hx, he, bel, nw⟩ => ⟨x, ⟨hx, fun q hq => (nw.facts _ (List.mem_singleton_self _) q hq).sv⟩, he, bel, nw⟩
theorem rk_nin {a b : UInt32} {s t : S16} {h k : Int} (e : a ≠ b) : ¬ rkS a s h ∈ [rkS b t k] := fun q => rk_ne e (List.mem_singleton.1 q)
theorem TwoP.nw {p : Pth} (t : TwoP p) {ks : List RK} (i : Nat) (hi : i < 2) (hm : (p.hs.getD i Hop.z).rk ∈ ks) : ¬ wrongH p ks i := by
  rintro (q | q)
  · exact q hm
  · exact q (t.gd.2 i (by rw [t.len]; exact hi))
theorem TwoP.w1 {p : Pth} (t : TwoP p) : wrE p [rkS 10 (sB 1) 0] = 0 ∧ wrI p [rkS 10 (sB 1) 0] = 1 := by
  have e : wrE p [rkS 10 (sB 1) 0] = 0 := wrE_ok t.gd.1 zz38
  refine ⟨e, ?_⟩
  rw [wrI_ok e]
  exact firstW_at (i := 1) (by rw [t.len]; decide) (.inl (by rw [t.b.rk]; exact rk_nin zz17)) (fun j hj => by
    obtain rfl : j = 0 := by omega
    exact t.nw 0 zz17 (by rw [t.a.rk]; simp))
theorem TwoP.w2 {p : Pth} (t : TwoP p) : wrE p [rkS 20 (sB 2) 0, rkS 10 (sB 1) 0] = 0 ∧ wrI p [rkS 20 (sB 2) 0, rkS 10 (sB 1) 0] = -1 := by
  have e : wrE p [rkS 20 (sB 2) 0, rkS 10 (sB 1) 0] = 0 := wrE_ok t.gd.1 zz38
  refine ⟨e, ?_⟩
  rw [wrI_ok e]
  exact firstW_no fun j hj => by
    rw [t.len] at hj
    match j, hj with
    | 0, _ => exact t.nw 0 zz17 (by rw [t.a.rk]; simp)
    | 1, _ => exact t.nw 1 zz17 (by rw [t.b.rk]; simp)
abbrev ks101 : List RK := List.replicate 101 RK.z
theorem mk_rks (n : Nat) : (List.replicate n (RK.c RK.z)).flatten = rks (List.replicate n RK.z) := by rw [rks, List.map_replicate]
theorem mk_hcs (n : Nat) : (List.replicate n (Hop.c Hop.z)).flatten = hcs (List.replicate n Hop.z) := by rw [hcs, List.map_replicate]
theorem ks101_len : ks101.length = 101 := List.length_replicate
theorem TwoP.w3 {p : Pth} (t : TwoP p) : wrE p ks101 = 4 ∧ wrI p ks101 = 0 := by
  have e : wrE p ks101 = 4 := wrE_many t.gd.1 (by rw [ks101_len]; decide)
  exact ⟨e, wrI_no (by rw [e]; decide)⟩
theorem vr_101 (p : Pth) (to : UInt32) : vrE ks101 = 4 ∧ vrV p to ks101 = 0 := ⟨vrE_many (by rw [ks101_len]; decide), vrV_many (by rw [ks101_len]; decide)⟩
theorem TwoP.m2 {p : Pth} (t : TwoP p) : msgE p 2 = 2 ∧ msgV p 2 = [] := by
  have e : msgE p 2 = 2 := msgE_arg t.gd.1 (.inr (by rw [t.len]; decide))
  exact ⟨e, by unfold msgV; rw [if_neg (by rw [e]; decide)]⟩
theorem z_seen (r : Rd) : Pth.z.seen r := ⟨seen_nil _ _, fun h hh => by cases hh⟩
theorem z_sm : SmP Pth.z := fun h hh => by cases hh
def hpF : Hop := ⟨0, 0, 2, 0, ⟨List.replicate 16 0, rfl⟩, 0, 0, .slice none 0 0, [], .slice none 0 0, []⟩
theorem built_hz : Tryd.prog.built 68 [] = some Hop.z.c.toArray := by kernel_rfl
theorem built_hF : Tryd.prog.built 68 [(2, .int .u8 2)] = some hpF.c.toArray := by kernel_rfl
theorem built_pfz : Tryd.prog.built 26 [] = some (pfL 0 0 0 0).toArray := by kernel_rfl
theorem built_shz : Tryd.prog.built 61 [] = some (v8s (List.replicate 16 0)).toArray := by kernel_rfl
abbrev s16z : S16 := ⟨List.replicate 16 0, rfl⟩
theorem hz_sv : Hop.z.sv := ⟨SV.nil, SV.nil⟩
theorem hF_sv : hpF.sv := ⟨SV.nil, SV.nil⟩
theorem n_k : stE 0 0 0 0 Hop.z 0 0 = 2 := by kernel_rfl
theorem n_l : stE 4 0 167772160 8 hpF 0 0 = 2 := by rw [stE_ok (by rw [ten_ok]; decide)]; rfl
theorem n_m : stE 4 0 167772160 8 Hop.z 5 0 = 2 := by rw [stE_ok (by rw [ten_ok]; decide)]; rfl
theorem n_n : stE 4 0 167772160 8 Hop.z 0 1 = 2 := by rw [stE_ok (by rw [ten_ok]; decide)]; rfl
abbrev pT : Pth := P0 4 0 167772160 8
theorem n_c : chkP pT = 8 := by
  unfold chkP
  rw [if_neg zz17, if_neg (by rw [show pfxF pT.pf pT.pa pT.pb pT.pl = 0 from ten_ok]; decide), if_pos (.inl rfl)]
theorem n_o : exE pT Hop.z 0 0 = 8 := by
  have e : exK pT = 8 := (exK_chk (by rw [n_c]; decide)).trans n_c
  exact (exE_no (by rw [e]; decide)).trans e
theorem t_sm : SmP pT := fun h hh => by cases hh
def Hop.wn (h : Hop) (n : UInt8) : Hop := { h with cnt := n }
def Hop.wf (h : Hop) (n : UInt8) : Hop := { h with fl := n }
def Hop.wk (h : Hop) (v : Value) : Hop := { h with cv := v, chs := h.chs.drop 1 }
theorem Hop.c_wk (h : Hop) (v : Value) : h.c.set 22 v = (h.wk v).c := Hop.c_set22 h v
def upH (l : List Hop) (i : Nat) (f : Hop → Hop) : List Hop := l.set i (f (l.getD i Hop.z))
theorem upH_len (l : List Hop) (i : Nat) (f : Hop → Hop) : (upH l i f).length = l.length := List.length_set
theorem upH_at {l : List Hop} {i : Nat} {f : Hop → Hop} (h : i < l.length) : (upH l i f).getD i Hop.z = f (l.getD i Hop.z) := by
  unfold upH
  rw [List.getD_eq_getElem?_getD, List.getElem?_set_self h]; rfl
theorem upH_ne {l : List Hop} {i j : Nat} {f : Hop → Hop} (h : i ≠ j) : (upH l i f).getD j Hop.z = l.getD j Hop.z := by
  unfold upH
  rw [List.getD_eq_getElem?_getD, List.getElem?_set_ne h, ← List.getD_eq_getElem?_getD]
theorem upH_all {l : List Hop} {i : Nat} {f : Hop → Hop} {P : Hop → Prop} (h : ∀ q ∈ l, P q) (hi : i < l.length) (hf : P (l.getD i Hop.z) → P (f (l.getD i Hop.z))) : ∀ q ∈ upH l i f, P q := fun q hq => by
  unfold upH at hq
  rcases List.mem_or_eq_of_mem_set hq with h1 | h1
  · exact h q h1
  · rw [h1]; exact hf (h _ (getD_memO hi))
def okH (h : Hop) : Prop := ¬ 1 < h.fl.toNat ∧ checkF h.ht h.ix h.chs.length h.ps.length = 0
def smH (h : Hop) : Prop := h.chs.length ≤ 100 ∧ h.ps.length ≤ 100
structure TwL (l : List Hop) : Prop where
  len : l.length = 2
  a : SaysH (l.getD 0 Hop.z) 10 1 20 (sB 1) 0
  b : SaysH (l.getD 1 Hop.z) 20 2 30 (sB 2) 0
  oa : okH (l.getD 0 Hop.z)
  ob : okH (l.getD 1 Hop.z)
  sm : ∀ q ∈ l, smH q
  c35 : (l.getD 0 Hop.z).chs.length = 35
theorem twL_of {p : Pth} (t : TwoP p) {l : List Hop} (e : HsEqv p.hs l) : TwL l := by
  have hl : l.length = 2 := e.1.symm.trans t.len
  have hg : Gd ⟨p.pf, p.pa, p.pb, p.pl, .slice none 0 0, l⟩ := gd_eqv (p := p) ⟨⟨rfl, rfl, rfl, rfl⟩, e⟩ t.gd
  have hb : ∀ i, i < 2 → okH (l.getD i Hop.z) := fun i hi => by
    have h4 := (chk_inv hg.1).2.2.2 i (by show i < l.length; omega)
    unfold badH at h4
    rw [not_or, not_or, Decidable.not_not] at h4
    exact ⟨h4.1, h4.2.1⟩
  exact ⟨hl, says_eqv (e.2 0 (by rw [t.len]; decide)) t.a, says_eqv (e.2 1 (by rw [t.len]; decide)) t.b, hb 0 zz17, hb 1 zz17, chk_small hg.1, chk_35 hg.1 (i := 0) (by show 0 < l.length; omega)⟩
section
variable {f : UInt8} {a b : UInt64} {n : Int} {v : Value} {l : List Hop}
theorem chk2_ok (hp : pfxF f a b n = 0) (hl : l.length = 2) (h0 : okH (l.getD 0 Hop.z)) (h1 : okH (l.getD 1 Hop.z)) (hs : (l.getD 1 Hop.z).sy = (l.getD 0 Hop.z).to) : chkP ⟨f, a, b, n, v, l⟩ = 0 :=
  chk_mk (p := ⟨f, a, b, n, v, l⟩) (by show l.length ≤ 30; omega) hp (by show l.length ≠ 0; omega) (fun i hi => by
    have hi : i < l.length := hi
    rw [hl] at hi
    unfold badH
    match i, hi with
    | 0, _ => rintro (q | q | ⟨q, _⟩); exact h0.1 q; exact q h0.2; exact absurd q zz17
    | 1, _ => rintro (q | q | ⟨_, q⟩); exact h1.1 q; exact q h1.2; exact q hs)
theorem chk2_bad (hp : pfxF f a b n = 0) (hl : l.length = 2) (h : badH l 0 ∨ badH l 1) : chkP ⟨f, a, b, n, v, l⟩ = 8 := by
  have hn : ¬ (∀ i, i < l.length → ¬ badH l i) := fun q => by
    rcases h with h | h
    · exact q 0 zz13 h
    · exact q 1 zz13 h
  unfold chkP
  rw [if_neg (by show ¬ 30 < l.length; omega), if_neg (by show ¬ pfxF f a b n ≠ 0; simp [hp]), if_pos (.inr hn)]
theorem pre_ok {p : Pth} (t : TwoP p) : pfxF p.pf p.pa p.pb p.pl = 0 := (chk_inv t.gd.1).2.1
end
section
variable {p : Pth} {l : List Hop} {v : Value}
theorem TwL.chN (t : TwL l) (tp : TwoP p) (m : UInt8) : chkP ⟨p.pf, p.pa, p.pb, p.pl, v, upH l 0 (·.wn m)⟩ = 0 := by
  refine chk2_ok (pre_ok tp) (by rw [upH_len]; exact t.len) ?_ ?_ ?_
  · rw [upH_at (by rw [t.len]; decide)]; exact t.oa
  · rw [upH_ne zz17]; exact t.ob
  · rw [upH_ne zz17, upH_at (by rw [t.len]; decide), t.b.sy]; exact t.a.to.symm
theorem TwL.chG (t : TwL l) (tp : TwoP p) : chkP ⟨p.pf, p.pa, p.pb, p.pl, v, upH l 1 (·.wa 21)⟩ = 8 := by
  refine chk2_bad (pre_ok tp) (by rw [upH_len]; exact t.len) (.inr (.inr (.inr ⟨zz17, ?_⟩)))
  rw [upH_at (by rw [t.len]; decide), upH_ne zz17, t.a.to]
  show ¬ (21 : UInt32) = 20
  decide
theorem TwL.chM (t : TwL l) (tp : TwoP p) : chkP ⟨p.pf, p.pa, p.pb, p.pl, v, upH l 0 (·.wf 2)⟩ = 8 := by
  refine chk2_bad (pre_ok tp) (by rw [upH_len]; exact t.len) (.inl (.inl ?_))
  rw [upH_at (by rw [t.len]; decide)]
  show 1 < (2 : UInt8).toNat
  decide
theorem TwL.chS (t : TwL l) (tp : TwoP p) (u : Value) : chkP ⟨p.pf, p.pa, p.pb, p.pl, v, upH l 0 (·.wk u)⟩ = 8 := by
  refine chk2_bad (pre_ok tp) (by rw [upH_len]; exact t.len) (.inl (.inr (.inl ?_)))
  rw [upH_at (by rw [t.len]; decide)]
  show checkF _ _ ((l.getD 0 Hop.z).chs.drop 1).length _ ≠ 0
  rw [List.length_drop, t.c35]
  unfold checkF
  split
  · rw [if_neg zz13]; decide
  · decide
theorem TwL.sysN (t : TwL l) (m : UInt8) : sysR (upH l 0 (·.wn m)) = [20, 20] ++ List.replicate m.toNat 10 := by
  unfold sysR
  rw [upH_len, t.len]
  unfold sysG sysG sysG
  rw [upH_len, t.len]
  show ([] ++ List.replicate ((upH l 0 (·.wn m)).getD 1 Hop.z).cnt.toNat ((upH l 0 (·.wn m)).getD 1 Hop.z).sy) ++ List.replicate ((upH l 0 (·.wn m)).getD 0 Hop.z).cnt.toNat ((upH l 0 (·.wn m)).getD 0 Hop.z).sy = _
  rw [upH_ne zz17, upH_at (by rw [t.len]; decide), t.b.cnt, t.b.sy]
  show _ ++ List.replicate m.toNat (l.getD 0 Hop.z).sy = _
  rw [t.a.sy]
  rfl
theorem TwL.s29 (t : TwL l) (tp : TwoP p) : sysE ⟨p.pf, p.pa, p.pb, p.pl, v, upH l 0 (·.wn 29)⟩ = 4 ∧ sysV ⟨p.pf, p.pa, p.pb, p.pl, v, upH l 0 (·.wn 29)⟩ = [] := by
  have e : sysE ⟨p.pf, p.pa, p.pb, p.pl, v, upH l 0 (·.wn 29)⟩ = 4 := sysE_many (t.chN tp 29) (by show 30 < (sysR (upH l 0 (·.wn 29))).length; rw [t.sysN]; decide)
  exact ⟨e, by unfold sysV; rw [if_neg (by rw [e]; decide)]⟩
theorem up_up (l : List Hop) (m k : UInt8) (h : 0 < l.length) : upH (upH l 0 (·.wn m)) 0 (·.wn k) = upH l 0 (·.wn k) := by
  have e : ∀ x : Hop, (l.set 0 x).getD 0 Hop.z = x := fun x => by rw [List.getD_eq_getElem?_getD, List.getElem?_set_self h]; rfl
  show (l.set 0 ((l.getD 0 Hop.z).wn m)).set 0 (((l.set 0 ((l.getD 0 Hop.z).wn m)).getD 0 Hop.z).wn k) = l.set 0 ((l.getD 0 Hop.z).wn k)
  rw [e, List.set_set]; rfl
theorem TwL.s28 (t : TwL l) (tp : TwoP p) : sysE ⟨p.pf, p.pa, p.pb, p.pl, v, upH l 0 (·.wn 28)⟩ = 0 ∧ (sysV ⟨p.pf, p.pa, p.pb, p.pl, v, upH l 0 (·.wn 28)⟩).length = 30 := by
  have e : sysE ⟨p.pf, p.pa, p.pb, p.pl, v, upH l 0 (·.wn 28)⟩ = 0 := sysE_ok (t.chN tp 28) (by show ¬ 30 < (sysR (upH l 0 (·.wn 28))).length; rw [t.sysN]; decide)
  exact ⟨e, by unfold sysV; rw [if_pos e]; show (sysR (upH l 0 (·.wn 28))).length = 30; rw [t.sysN]; decide⟩
end
theorem vr_bad {p : Pth} {to : UInt32} {ks : List RK} (hk : ks.length ≤ 100) (hn : p.hs.length ≠ 0) (h : chkP p ≠ 0) : vrV p to ks = 2 := vr_two hk hn fun q => h ((vrV_one hk hn).1 q).1
theorem built_pv {v : Value} {n : Nat} (hsv : SV v n) : Tryd.prog.built 29 [(0, .agg (pfL 4 0 167772160 8).toArray), (1, v)] = some (Pth.mk 4 0 167772160 8 v []).c.toArray := by
  obtain ⟨a, cap, rfl, _⟩ := hsv
  kernel_rfl
theorem chk_31 {v : Value} : chkP ⟨4, 0, 167772160, 8, v, List.replicate 31 Hop.z⟩ = 4 := if_pos (by show 30 < (List.replicate 31 Hop.z).length; rw [List.length_replicate]; decide)
theorem chk_z : chkP Pth.z = 2 := by kernel_rfl
theorem hz_seen (r : Rd) : Hop.z.seen r := ⟨seen_nil _ _, fun x hx => (by cases hx), seen_nil _ _, fun x hx => (by cases hx)⟩
theorem z31_seen (r : Rd) : ∀ h ∈ List.replicate 31 Hop.z, h.seen r := fun h hh => by rw [List.eq_of_mem_replicate hh]; exact hz_seen r
theorem drop16 {l : List (List UInt8)} (h : ∀ x ∈ l, x.length = 16) : (v8s l.flatten).drop (1 * 16) = v8s (l.drop 1).flatten := by
  cases l with
  | nil => rfl
  | cons x l =>
    rw [List.flatten_cons, v8s_append, List.drop_left' (by rw [v8s_length, h x (List.mem_cons_self ..)])]; rfl
theorem wk_seen {r : Rd} {h : Hop} (hs : h.seen r) (h35 : h.chs.length = 35) : (h.wk (slv h.cv 1 35 16)).seen r := by
  obtain ⟨h1, h2, h3, h4⟩ := hs
  refine ⟨?_, fun x hx => h2 x (List.mem_of_mem_drop hx), h3, h4⟩
  have := h1.slv 1 35 zz17 zz13
  show Seen r _ (h.chs.drop 1).length 16 _
  rw [List.length_drop, h35]
  rw [drop16 h2, List.take_of_length_le (by rw [v8s_length, flat_len16 (fun x hx => h2 x (List.mem_of_mem_drop hx)), List.length_drop, h35]; decide)] at this
  exact this
theorem lawNames  (w : World)  (hG : Glb w) :
    Calls Tryd.prog 6 [].toArray w (Pur w (.bool true)) := by
  refine enter (m := 288) (R := Mem w [] [] []) Tryd.func6 rfl rfl (Nat.le_of_ble_eq_true rfl) (Mem.start w) ?_
  refine wpc_seq <| wpc_region <| wpl_q (q_pure rfl) rfl <| wpl_nil <| ex_then <| wpc_seq <| wpc_region ?_
  refine wpl_tp (t_callPF Tryd.hb30 rfl fun w h => two2_ w (glob h hG)) rfl (fun b36 p36 => ?_)
  haveI : OneC b36.c := Pth.sv.one p36.1.1
  have t2 := p36.1.2
  have l2 := t2.len
  have hc35 := chk_35 t2.gd.1 (i := 0) zz13
  have svp : SV b36.hv 2 := by rw [← l2]; exact p36.1.1
  have sv0 : SV (b36.hs.getD 0 Hop.z).cv 35 := by rw [← hc35]; exact (p36.2 _ (getD_memO zz13)).1
  refine wpl_q (q_pure rfl) rfl <| wpl_q (q_pure rfl) rfl <| wpl_q (q_pure rfl) rfl ?_
  refine wpl_t (t_alloc Tryd.ti29 Pth.z.c rfl) rfl (fun b1 => ?_)
  refine wpl_t0 (t_stA Tryd.ti29 rfl rfl LenC.h OneC.h LenC.h) (fun _ => ?_)
  refine wpl_q (q_pure rfl) rfl <| wpl_nil <| ex_then <| wpc_seq <| wpc_seq <| wpc_region <| wpl_q (q_pure rfl) rfl <| wpl_q (q_pure rfl) rfl <| wpl_q (q_pure rfl) rfl <| wpl_on rfl rfl <| wpl_q (q_field Tryd.underlying29 rfl Tryd.ti27 rfl rfl _ rfl) rfl <| wpl_on rfl rfl ?_
  refine wpl_q (q_ld Tryd.underlying27 rfl rfl (show b36.c[4]? = some b36.hv from rfl)) rfl <| wpl_on rfl rfl ?_
  refine wpl_q (q_idxW (j := 0) Tryd.underlying27 Tryd.ti68 rfl rfl zz4 zz2) rfl ?_
  refine wpl_on rfl rfl <| wpl_q (q_fieldPo 21 Tryd.underlying68 rfl Tryd.ti66 rfl rfl rfl) rfl <| wpl_on rfl rfl <| wpl_q (q_fieldP Tryd.underlying66 rfl Tryd.ti64 rfl rfl) rfl <| wpl_on rfl rfl ?_
  refine wpl_q (q_ldWF (j := 0) (k := 22) Tryd.underlying64 rfl rfl (fun w h => zz9) (cat_get (i := 0) Hop.c_length Hop.z zz13 (Hop.c_cv _))) rfl ?_
  refine wpl_on rfl rfl ?_
  refine wpl_q (q_lenW Tryd.underlying64 rfl zz4) rfl ?_
  refine wpl_on rfl rfl ?_
  refine wpl_q (q_bt (c := false) (q_neI rfl rfl) rfl) rfl ?_
  refine wpl_q (q_pure rfl) rfl <| wpl_nil <| ex_then ?_
  refine wpc_cond_f rfl ?_
  refine wpc_skip <| ex_then <| wpc_seq <| wpc_region ?_
  refine wpl_t (t_pur Tryd.hb31 rfl fun w h => key_ 1 w (glob h hG)) rfl (fun b51 => ?_)
  refine wpl_q (q_build (cs := RK.c (rkS 10 (sB 1) 0)) rfl (built_rk 10 ⟨keyR (sB 1).1 0, keyR_l _ _⟩ (keyH 0))) rfl ?_
  refine wpl_t (t_pur Tryd.hb31 rfl fun w h => key_ 2 w (glob h hG)) rfl (fun b53 => ?_)
  refine wpl_q (q_build (cs := RK.c (rkS 20 (sB 2) 0)) rfl (built_rk 20 ⟨keyR (sB 2).1 0, keyR_l _ _⟩ (keyH 0))) rfl ?_
  refine wpl_t (t_alloc Tryd.ti80 RK.z.c rfl) rfl (fun b3 => ?_)
  refine wpl_t (t_alloc Tryd.ti80 RK.z.c rfl) rfl (fun b4 => ?_)
  refine wpl_t0 (t_stA Tryd.ti80 rfl rfl LenC.h OneC.h LenC.h) (fun _ => ?_)
  refine wpl_t0 (t_stA Tryd.ti80 rfl rfl LenC.h OneC.h LenC.h) (fun _ => ?_)
  refine wpl_nil <| ex_then <| wpc_seq <| wpc_region <| wpl_q (q_ldN Tryd.underlying29 rfl Tryd.ti29 rfl LenC.h) rfl <| wpl_q (q_ldN Tryd.underlying80 rfl Tryd.ti80 rfl LenC.h) rfl ?_
  refine wpl_tp (t_bsG [.agg (RK.c (rkS 10 (sB 1) 0)).toArray] (rks [(rkS 10 (sB 1) 0)]) Tryd.underlying50 Tryd.ti80 rfl zz17 rfl zz17 zz17 rfl (by intro v hv; simp only [List.mem_cons, List.not_mem_nil, or_false] at hv; rcases hv with rfl <;> exact RK.c_length _) rfl) rfl (fun b58 p58 => ?_)
  refine wpl_t (t_pur (v := .tuple #[.int .i64 1, .int .i64 0]) Tryd.hb22 rfl fun w h => by
    have q := wrong b36 b58 [(rkS 10 (sB 1) 0)] w ⟨h.seen_row zz5, hopsF_at h zz5⟩ (h.seen_row zz5) t2.sm (glob h hG)
    rw [t2.w1.1, t2.w1.2] at q
    exact q) rfl (fun b59 => ?_)
  refine wpl_q (q_pure rfl) rfl <| wpl_q (q_pure rfl) rfl <| wpl_q (q_pure rfl) rfl <| wpl_q (q_pure rfl) rfl <| wpl_q (q_pure rfl) rfl <| wpl_nil <| ex_then <| wpc_seq <| wpc_region <| wpl_q (q_ldN Tryd.underlying29 rfl Tryd.ti29 rfl LenC.h) rfl <| wpl_q (q_ldN Tryd.underlying80 rfl Tryd.ti80 rfl LenC.h) rfl <| wpl_q (q_ldN Tryd.underlying80 rfl Tryd.ti80 rfl LenC.h) rfl ?_
  refine wpl_tp (t_bsG [.agg (RK.c (rkS 20 (sB 2) 0)).toArray, .agg (RK.c (rkS 10 (sB 1) 0)).toArray] (rks [(rkS 20 (sB 2) 0), (rkS 10 (sB 1) 0)]) Tryd.underlying50 Tryd.ti80 rfl zz17 rfl zz17 zz17 rfl zz21 rfl) rfl (fun b66 p66 => ?_)
  refine wpl_t (t_pur (v := .tuple #[.int .i64 (-1), .int .i64 0]) Tryd.hb22 rfl fun w h => by
    have q := wrong b36 b66 [(rkS 20 (sB 2) 0), (rkS 10 (sB 1) 0)] w ⟨h.seen_row zz5, hopsF_at h zz5⟩ (h.seen_row zz5) t2.sm (glob h hG)
    rw [t2.w2.1, t2.w2.2] at q
    exact q) rfl (fun b67 => ?_)
  refine wpl_q (q_pure rfl) rfl <| wpl_q (q_pure rfl) rfl <| wpl_q (q_pure rfl) rfl <| wpl_q (q_pure rfl) rfl <| wpl_q (q_pure rfl) rfl <| wpl_nil <| ex_then <| wpc_seq ?_
  refine wpc_draw 99 zz6 (fun _ h => h.drew) ?_
  refine wpd_q 0 rfl zz6 trivial (q_ldN Tryd.underlying29 rfl Tryd.ti29 rfl LenC.h) rfl (fun _ h => h) ?_
  refine wpd_tp 1 rfl zz6 trivial (t_mkW (l := 101) (c := 101) Tryd.underlying50 Tryd.ti80 rfl rfl zz2 zz2 zz2 _ rfl (mk_rks 101)) rfl (fun _ => (fun w h => .inr (h.sub SubC.h SubC.h))) (fun b72 p72 => ?_)
  refine wpd_t 2 rfl zz6 trivial (t_pur (v := .tuple #[.int .i64 0, .int .i64 4]) Tryd.hb22 rfl fun w h => by
    have q := wrong b36 b72 ks101 w ⟨h.seen_row zz5, hopsF_at h zz5⟩ (by rw [ks101_len]; exact h.seen_row zz5) t2.sm (glob h hG)
    rw [t2.w3.1, t2.w3.2] at q
    exact q) rfl (fun _ => (fun w h => .inr (h.sub SubC.h SubC.h))) (fun b73 => ?_)
  refine wpd_p 3 rfl zz6 trivial (q_pure rfl) rfl (fun w h => .inr (h.sub SubC.h SubC.h)) ?_
  refine wpd_p 4 rfl zz6 trivial (q_pure rfl) rfl (fun w h => .inr (h.sub SubC.h SubC.h)) ?_
  refine wpd_p 5 rfl zz6 trivial (q_pure rfl) rfl (fun w h => .inr (h.sub SubC.h SubC.h)) ?_
  refine wpd_p 6 rfl zz6 trivial (q_pure rfl) rfl (fun w h => .inr (h.sub SubC.h SubC.h)) ?_
  refine wpd_p 7 rfl zz6 trivial (q_pure rfl) rfl (fun w h => .inr (h.sub SubC.h SubC.h)) ?_
  refine wpd_done zz6 ?_
  refine ex_then <| wpc_seq <| wpc_region ?_
  refine wpl_q (q_build (cs := Pth.z.c) rfl built_pz) rfl ?_
  refine wpl_tp (t_mkW (l := 101) (c := 101) Tryd.underlying50 Tryd.ti80 rfl rfl zz2 zz2 zz2 _ rfl (mk_rks 101)) rfl (fun b78 p78 => ?_)
  refine wpl_t (t_pur (v := .tuple #[.int .u8 0, .int .i64 4]) Tryd.hb24 rfl fun w h => by
    have q := verify42 Pth.z 0 b78 ks101 w (z_seen _) (by rw [ks101_len]; exact h.seen_row zz5) z_sm (glob h hG)
    rw [(vr_101 Pth.z 0).1, (vr_101 Pth.z 0).2] at q
    exact q) rfl (fun b79 => ?_)
  refine wpl_q (q_pure rfl) rfl <| wpl_q (q_pure rfl) rfl <| wpl_q (q_pure rfl) rfl <| wpl_q (q_pure rfl) rfl <| wpl_q (q_pure rfl) rfl <| wpl_nil <| ex_then <| wpc_seq <| wpc_region <| wpl_q (q_ldN Tryd.underlying29 rfl Tryd.ti29 rfl LenC.h) rfl ?_
  refine wpl_tp (t_callP1 Tryd.hb13 rfl fun w h => by
    have q := hopMessage b36 2 w ⟨h.seen_row zz5, hopsF_at h zz5⟩ t2.sm (glob h hG)
    rw [t2.m2.1, t2.m2.2] at q
    exact q) rfl (fun b84 p84 => ?_)
  refine wpl_q (q_pure rfl) rfl <| wpl_q (q_pure rfl) rfl <| wpl_q (q_pure rfl) rfl <| wpl_q (q_pure rfl) rfl <| wpl_q (q_pure rfl) rfl <| wpl_nil <| ex_then <| wpc_seq <| wpc_region ?_
  refine wpl_q (q_build (cs := pfL 0 0 0 0) rfl built_pfz) rfl ?_
  refine wpl_q (q_build (cs := Hop.z.c) rfl built_hz) rfl ?_
  refine wpl_q (q_build (cs := v8s (List.replicate 16 0)) rfl built_shz) rfl ?_
  refine wpl_tp (t_callPF Tryd.hb26 rfl fun w h => by
    have q := start 0 0 0 0 Hop.z s16z 0 0 w hz_sv (glob h hG)
    rw [n_k] at q
    exact q) rfl (fun b91 p91 => ?_)
  haveI : OneC (reP (stP 0 0 0 0 Hop.z s16z 0 0) b91).c := reP_one p91.1
  refine wpl_q (q_pure rfl) rfl <| wpl_q (q_pure rfl) rfl <| wpl_q (q_pure rfl) rfl ?_
  refine wpl_t (t_alloc Tryd.ti29 Pth.z.c rfl) rfl (fun b15 => ?_)
  refine wpl_t0 (t_stA Tryd.ti29 rfl rfl LenC.h OneC.h LenC.h) (fun _ => ?_)
  refine wpl_q (q_pure rfl) rfl <| wpl_nil <| ex_then <| wpc_seq <| wpc_region ?_
  refine wpl_t (t_pur Tryd.hb32 rfl fun w h => ten w) rfl (fun b95 => ?_)
  refine wpl_q (q_build (cs := hpF.c) rfl built_hF) rfl ?_
  refine wpl_q (q_build (cs := v8s (List.replicate 16 0)) rfl built_shz) rfl ?_
  refine wpl_tp (t_callPF Tryd.hb26 rfl fun w h => by
    have q := start 4 0 167772160 8 hpF s16z 0 0 w hF_sv (glob h hG)
    rw [n_l] at q
    exact q) rfl (fun b98 p98 => ?_)
  haveI : OneC (reP (stP 4 0 167772160 8 hpF s16z 0 0) b98).c := reP_one p98.1
  refine wpl_q (q_pure rfl) rfl <| wpl_q (q_pure rfl) rfl <| wpl_q (q_pure rfl) rfl ?_
  refine wpl_t (t_alloc Tryd.ti29 Pth.z.c rfl) rfl (fun b17 => ?_)
  refine wpl_t0 (t_stA Tryd.ti29 rfl rfl LenC.h OneC.h LenC.h) (fun _ => ?_)
  refine wpl_q (q_pure rfl) rfl <| wpl_nil <| ex_then <| wpc_seq <| wpc_region ?_
  refine wpl_t (t_pur Tryd.hb32 rfl fun w h => ten w) rfl (fun b102 => ?_)
  refine wpl_q (q_build (cs := Hop.z.c) rfl built_hz) rfl ?_
  refine wpl_q (q_build (cs := v8s (List.replicate 16 0)) rfl built_shz) rfl ?_
  refine wpl_tp (t_callPF Tryd.hb26 rfl fun w h => by
    have q := start 4 0 167772160 8 Hop.z s16z 5 0 w hz_sv (glob h hG)
    rw [n_m] at q
    exact q) rfl (fun b105 p105 => ?_)
  haveI : OneC (reP (stP 4 0 167772160 8 Hop.z s16z 5 0) b105).c := reP_one p105.1
  refine wpl_q (q_pure rfl) rfl <| wpl_q (q_pure rfl) rfl <| wpl_q (q_pure rfl) rfl ?_
  refine wpl_t (t_alloc Tryd.ti29 Pth.z.c rfl) rfl (fun b19 => ?_)
  refine wpl_t0 (t_stA Tryd.ti29 rfl rfl LenC.h OneC.h LenC.h) (fun _ => ?_)
  refine wpl_q (q_pure rfl) rfl <| wpl_nil <| ex_then <| wpc_seq <| wpc_region ?_
  refine wpl_t (t_pur Tryd.hb32 rfl fun w h => ten w) rfl (fun b109 => ?_)
  refine wpl_q (q_build (cs := Hop.z.c) rfl built_hz) rfl ?_
  refine wpl_q (q_build (cs := v8s (List.replicate 16 0)) rfl built_shz) rfl ?_
  refine wpl_tp (t_callPF Tryd.hb26 rfl fun w h => by
    have q := start 4 0 167772160 8 Hop.z s16z 0 1 w hz_sv (glob h hG)
    rw [n_n] at q
    exact q) rfl (fun b112 p112 => ?_)
  haveI : OneC (reP (stP 4 0 167772160 8 Hop.z s16z 0 1) b112).c := reP_one p112.1
  refine wpl_q (q_pure rfl) rfl <| wpl_q (q_pure rfl) rfl <| wpl_q (q_pure rfl) rfl ?_
  refine wpl_t (t_alloc Tryd.ti29 Pth.z.c rfl) rfl (fun b21 => ?_)
  refine wpl_t0 (t_stA Tryd.ti29 rfl rfl LenC.h OneC.h LenC.h) (fun _ => ?_)
  refine wpl_q (q_pure rfl) rfl <| wpl_nil <| ex_then <| wpc_seq <| wpc_region ?_
  refine wpl_t (t_pur Tryd.hb32 rfl fun w h => ten w) rfl (fun b116 => ?_)
  refine wpl_q (q_build (cs := pT.c) rfl (built_pre 4 0 167772160 8)) rfl ?_
  refine wpl_q (q_build (cs := Hop.z.c) rfl built_hz) rfl ?_
  refine wpl_q (q_build (cs := v8s (List.replicate 16 0)) rfl built_shz) rfl ?_
  refine wpl_tp (t_callPF Tryd.hb28 rfl fun w h => by
    have q := extend pT Hop.z s16z 0 0 w (p0_seen _) hz_sv t_sm (glob h hG) (Nat.zero_le _)
    rw [n_o] at q
    exact q) rfl (fun b120 p120 => ?_)
  haveI : OneC (reP (exP pT Hop.z s16z 0 0) b120).c := reP_one p120.1
  refine wpl_q (q_pure rfl) rfl <| wpl_q (q_pure rfl) rfl <| wpl_q (q_pure rfl) rfl ?_
  refine wpl_t (t_alloc Tryd.ti29 Pth.z.c rfl) rfl (fun b23 => ?_)
  refine wpl_t0 (t_stA Tryd.ti29 rfl rfl LenC.h OneC.h LenC.h) (fun _ => ?_)
  refine wpl_q (q_pure rfl) rfl <| wpl_nil <| ex_then <| wpc_seq <| wpc_region <| wpl_q (q_ldN Tryd.underlying29 rfl Tryd.ti29 rfl LenC.h) rfl ?_
  refine wpl_tp (t_callPF Tryd.hb12 rfl fun w h => twin2_ b36 w ⟨h.seen_row zz5, hopsF_at h zz5⟩ t2.sm zz13) rfl (fun b124 p124 => ?_)
  have svt124 : SV b124.1 2 := by rw [← l2]; exact p124.1.1
  have hl124 : b124.2.length = 2 := p124.1.2.1.symm.trans l2
  haveI : OneC (tw2 b36 b124).c := Pth.sv.one (p := tw2 b36 b124) (by show SV b124.1 b124.2.length; rw [hl124]; exact svt124)
  have tw124 := twL_of t2 p124.1.2
  refine wpl_t (t_alloc Tryd.ti29 Pth.z.c rfl) rfl (fun b25 => ?_)
  refine wpl_t0 (t_stA Tryd.ti29 rfl rfl LenC.h OneC.h LenC.h) (fun _ => ?_)
  refine wpl_nil <| ex_then <| wpc_seq <| wpc_region <| wpl_q (q_field Tryd.underlying29 rfl Tryd.ti27 rfl rfl _ rfl) rfl <| wpl_q (q_ld Tryd.underlying27 rfl rfl (show (tw2 b36 b124).c[4]? = some b124.1 from rfl)) rfl ?_
  refine wpl_q (q_idxW (j := 0) Tryd.underlying27 Tryd.ti68 rfl rfl zz4 zz2) rfl ?_
  refine wpl_q (q_fieldPo 1 Tryd.underlying68 rfl Tryd.ti5 rfl rfl rfl) rfl ?_
  refine wpl_t0 (t_stWF Tryd.ti5 rfl rfl rfl (by show _ < (hcs _).length; rw [hcs, cat_len Hop.c_length]; simp [hl124]) (hcs (upH b124.2 0 (·.wn 29))) (cat_set (i := 0) Hop.c_length Hop.z ((b124.2.getD 0 Hop.z).wn 29) zz13 rfl zz17)) (fun _ => ?_)
  refine wpl_nil <| ex_then <| wpc_seq <| wpc_region <| wpl_q (q_ldN Tryd.underlying29 rfl Tryd.ti29 rfl LenC.h) rfl ?_
  refine wpl_tp (t_callP1 Tryd.hb15 rfl fun w h => by
    have q := systems ⟨b36.pf, b36.pa, b36.pb, b36.pl, b124.1, (upH b124.2 0 (·.wn 29))⟩ w ⟨by show Seen w.cell? b124.1 ((upH b124.2 0 (·.wn 29))).length 24 (hcs (upH b124.2 0 (·.wn 29))); rw [upH_len, hl124, ← l2]; exact h.seen_row zz5, upH_all (l := b124.2) (i := 0) (f := (·.wn 29)) (P := fun q => q.seen w.cell?) (hopsF_at (qs := b124.2) h zz5) zz13 (fun q => q)⟩
    rw [(tw124.s29 t2).1, (tw124.s29 t2).2] at q
    exact q) rfl (fun b131 p131 => ?_)
  refine wpl_q (q_pure rfl) rfl <| wpl_q (q_pure rfl) rfl <| wpl_q (q_pure rfl) rfl <| wpl_q (q_pure rfl) rfl <| wpl_q (q_pure rfl) rfl <| wpl_nil <| ex_then <| wpc_seq <| wpc_region <| wpl_q (q_field Tryd.underlying29 rfl Tryd.ti27 rfl rfl _ rfl) rfl <| wpl_q (q_ld Tryd.underlying27 rfl rfl (show (tw2 b36 b124).c[4]? = some b124.1 from rfl)) rfl ?_
  refine wpl_q (q_idxW (j := 0) Tryd.underlying27 Tryd.ti68 rfl rfl zz4 zz2) rfl ?_
  refine wpl_q (q_fieldPo 1 Tryd.underlying68 rfl Tryd.ti5 rfl rfl rfl) rfl ?_
  refine wpl_t0 (t_stWF Tryd.ti5 rfl rfl rfl (by show _ < (hcs _).length; rw [hcs, cat_len Hop.c_length]; simp [upH_len, hl124]) (hcs (upH b124.2 0 (·.wn 28))) (by
    have q := cat_set (c := Hop.c) (l := (upH b124.2 0 (·.wn 29))) (i := 0) (j := 1) (x := .int .u8 28) Hop.c_length Hop.z (((upH b124.2 0 (·.wn 29)).getD 0 Hop.z).wn 28) (by rw [upH_len]; omega) rfl zz17
    rw [show (upH b124.2 0 (·.wn 29)).set 0 (((upH b124.2 0 (·.wn 29)).getD 0 Hop.z).wn 28) = (upH b124.2 0 (·.wn 28)) from up_up _ 29 28 zz13] at q
    exact q)) (fun _ => ?_)
  refine wpl_nil <| ex_then <| wpc_seq <| wpc_region <| wpl_q (q_ldN Tryd.underlying29 rfl Tryd.ti29 rfl LenC.h) rfl ?_
  refine wpl_tp (t_callP1 Tryd.hb15 rfl fun w h => by
    have q := systems ⟨b36.pf, b36.pa, b36.pb, b36.pl, b124.1, (upH b124.2 0 (·.wn 28))⟩ w ⟨by show Seen w.cell? b124.1 ((upH b124.2 0 (·.wn 28))).length 24 (hcs (upH b124.2 0 (·.wn 28))); rw [upH_len, hl124, ← l2]; exact h.seen_row zz5, upH_all (l := b124.2) (i := 0) (f := (·.wn 28)) (P := fun q => q.seen w.cell?) (hopsF_at (qs := b124.2) h zz5) zz13 (fun q => q)⟩
    rw [(tw124.s28 t2).1, (tw124.s28 t2).2] at q
    exact q) rfl (fun b140 p140 => ?_)
  refine wpl_q (q_pure rfl) rfl <| wpl_q (q_pure rfl) rfl <| wpl_q (q_pure rfl) rfl <| wpl_q (q_pure rfl) rfl <| wpl_q (q_pure rfl) rfl <| wpl_nil <| ex_then <| wpc_seq <| wpc_region <| wpl_q (q_ldN Tryd.underlying29 rfl Tryd.ti29 rfl LenC.h) rfl ?_
  refine wpl_tp (t_callPF Tryd.hb12 rfl fun w h => twin2_ b36 w ⟨h.seen_row zz5, hopsF_at h zz5⟩ t2.sm zz13) rfl (fun b144 p144 => ?_)
  have svt144 : SV b144.1 2 := by rw [← l2]; exact p144.1.1
  have hl144 : b144.2.length = 2 := p144.1.2.1.symm.trans l2
  haveI : OneC (tw2 b36 b144).c := Pth.sv.one (p := tw2 b36 b144) (by show SV b144.1 b144.2.length; rw [hl144]; exact svt144)
  have tw144 := twL_of t2 p144.1.2
  refine wpl_t (t_alloc Tryd.ti29 Pth.z.c rfl) rfl (fun b30 => ?_)
  refine wpl_t0 (t_stA Tryd.ti29 rfl rfl LenC.h OneC.h LenC.h) (fun _ => ?_)
  refine wpl_nil <| ex_then <| wpc_seq <| wpc_region <| wpl_q (q_field Tryd.underlying29 rfl Tryd.ti27 rfl rfl _ rfl) rfl <| wpl_q (q_ld Tryd.underlying27 rfl rfl (show (tw2 b36 b144).c[4]? = some b144.1 from rfl)) rfl ?_
  refine wpl_q (q_idxW (j := 1) Tryd.underlying27 Tryd.ti68 rfl rfl zz4 zz2) rfl ?_
  refine wpl_q (q_fieldPo 0 Tryd.underlying68 rfl Tryd.ti49 rfl rfl rfl) rfl ?_
  refine wpl_t0 (t_stWF Tryd.ti49 rfl rfl rfl (by show _ < (hcs _).length; rw [hcs, cat_len Hop.c_length]; simp [hl144]) (hcs (upH b144.2 1 (·.wa 21))) (cat_set (i := 1) Hop.c_length Hop.z ((b144.2.getD 1 Hop.z).wa 21) zz13 rfl zz17)) (fun _ => ?_)
  refine wpl_nil <| ex_then <| wpc_seq <| wpc_region <| wpl_q (q_ldN Tryd.underlying29 rfl Tryd.ti29 rfl LenC.h) rfl ?_
  refine wpl_tp (t_callPF Tryd.hb12 rfl fun w h => twin2_ b36 w ⟨h.seen_row zz5, hopsF_at h zz5⟩ t2.sm zz13) rfl (fun b150 p150 => ?_)
  have svt150 : SV b150.1 2 := by rw [← l2]; exact p150.1.1
  have hl150 : b150.2.length = 2 := p150.1.2.1.symm.trans l2
  haveI : OneC (tw2 b36 b150).c := Pth.sv.one (p := tw2 b36 b150) (by show SV b150.1 b150.2.length; rw [hl150]; exact svt150)
  have tw150 := twL_of t2 p150.1.2
  refine wpl_t (t_alloc Tryd.ti29 Pth.z.c rfl) rfl (fun b31 => ?_)
  refine wpl_t0 (t_stA Tryd.ti29 rfl rfl LenC.h OneC.h LenC.h) (fun _ => ?_)
  refine wpl_nil <| ex_then <| wpc_seq <| wpc_region <| wpl_q (q_field Tryd.underlying29 rfl Tryd.ti27 rfl rfl _ rfl) rfl <| wpl_q (q_ld Tryd.underlying27 rfl rfl (show (tw2 b36 b150).c[4]? = some b150.1 from rfl)) rfl ?_
  refine wpl_q (q_idxW (j := 0) Tryd.underlying27 Tryd.ti68 rfl rfl zz4 zz2) rfl ?_
  refine wpl_q (q_fieldPo 2 Tryd.underlying68 rfl Tryd.ti5 rfl rfl rfl) rfl ?_
  refine wpl_t0 (t_stWF Tryd.ti5 rfl rfl rfl (by show _ < (hcs _).length; rw [hcs, cat_len Hop.c_length]; simp [hl150]) (hcs (upH b150.2 0 (·.wf 2))) (cat_set (i := 0) Hop.c_length Hop.z ((b150.2.getD 0 Hop.z).wf 2) zz13 rfl zz17)) (fun _ => ?_)
  refine wpl_nil <| ex_then <| wpc_seq <| wpc_region <| wpl_q (q_ldN Tryd.underlying29 rfl Tryd.ti29 rfl LenC.h) rfl ?_
  refine wpl_tp (t_callPF Tryd.hb12 rfl fun w h => twin2_ b36 w ⟨h.seen_row zz5, hopsF_at h zz5⟩ t2.sm zz13) rfl (fun b156 p156 => ?_)
  have svt156 : SV b156.1 2 := by rw [← l2]; exact p156.1.1
  have hl156 : b156.2.length = 2 := p156.1.2.1.symm.trans l2
  haveI : OneC (tw2 b36 b156).c := Pth.sv.one (p := tw2 b36 b156) (by show SV b156.1 b156.2.length; rw [hl156]; exact svt156)
  have tw156 := twL_of t2 p156.1.2
  have svc : SV (b156.2.getD 0 Hop.z).cv 35 := by rw [← tw156.c35]; exact (p156.2 _ (getD_memO zz13)).1
  refine wpl_t (t_alloc Tryd.ti29 Pth.z.c rfl) rfl (fun b32 => ?_)
  refine wpl_t0 (t_stA Tryd.ti29 rfl rfl LenC.h OneC.h LenC.h) (fun _ => ?_)
  refine wpl_nil <| ex_then <| wpc_seq ?_
  refine wpc_draw 12 zz6 (fun _ h => h.drew) ?_
  refine wpd_p 0 rfl zz6 trivial (q_field Tryd.underlying29 rfl Tryd.ti27 rfl rfl _ rfl) rfl sk0 ?_
  refine wpd_q 1 rfl zz6 trivial (q_ld Tryd.underlying27 rfl rfl (show (tw2 b36 b156).c[4]? = some b156.1 from rfl)) rfl (fun _ h => h) ?_
  refine wpd_p 2 rfl zz6 trivial (q_field Tryd.underlying29 rfl Tryd.ti27 rfl rfl _ rfl) rfl sk0 ?_
  refine wpd_q 3 rfl zz6 trivial (q_ld Tryd.underlying27 rfl rfl (show (tw2 b36 b156).c[4]? = some b156.1 from rfl)) rfl (fun _ h => h) ?_
  refine wpd_p 4 rfl zz6 trivial (q_idxW (j := 0) Tryd.underlying27 Tryd.ti68 rfl rfl zz4 zz2) rfl sk0 ?_
  refine wpd_p 5 rfl zz6 trivial (q_fieldPo 21 Tryd.underlying68 rfl Tryd.ti66 rfl rfl rfl) rfl sk0 ?_
  refine wpd_p 6 rfl zz6 trivial (q_fieldP Tryd.underlying66 rfl Tryd.ti64 rfl rfl) rfl sk0 ?_
  refine wpd_q 7 rfl zz6 trivial (q_ldWF (j := 0) (k := 22) Tryd.underlying64 rfl rfl (fun w h => zz9) (cat_get (i := 0) Hop.c_length Hop.z zz13 (Hop.c_cv _))) rfl (fun _ h => h) ?_
  refine wpd_p 8 rfl zz6 trivial (q_slWl (l' := 1) Tryd.underlying64 Tryd.ti61 rfl rfl zz4 zz13) rfl sk0 ?_
  refine wpd_p 9 rfl zz6 trivial (q_idxW (j := 0) Tryd.underlying27 Tryd.ti68 rfl rfl zz4 zz2) rfl sk0 ?_
  refine wpd_p 10 rfl zz6 trivial (q_fieldPo 21 Tryd.underlying68 rfl Tryd.ti66 rfl rfl rfl) rfl sk0 ?_
  refine wpd_p 11 rfl zz6 trivial (q_fieldP Tryd.underlying66 rfl Tryd.ti64 rfl rfl) rfl sk0 ?_
  refine wpd_t0 12 rfl zz6 trivial (t_stWF (j := 0) (k := 22) Tryd.ti64 rfl rfl (SV.one (SV.slv svc zz13 zz13)) (by show _ < (hcs _).length; rw [hcs, cat_len Hop.c_length]; simp [hl156]) (hcs (upH b156.2 0 (·.wk (slv (b156.2.getD 0 Hop.z).cv 1 35 16)))) (cat_set (i := 0) Hop.c_length Hop.z ((b156.2.getD 0 Hop.z).wk (slv (b156.2.getD 0 Hop.z).cv 1 35 16)) zz13 (Hop.c_wk _ _) zz17)) (fun _ => skk rfl) (fun _ => ?_)
  refine wpd_done zz6 ?_
  refine ex_then <| wpc_seq ?_
  refine wpc_draw 99 zz6 (fun _ h => h.drew) ?_
  refine wpd_q 0 rfl zz6 trivial (q_ldN Tryd.underlying29 rfl Tryd.ti29 rfl LenC.h) rfl (fun _ h => h) ?_
  refine wpd_t 1 rfl zz6 trivial (t_pur (v := .int .i64 8) Tryd.hb17 rfl fun w h => by
    have q := hopCheck ⟨b36.pf, b36.pa, b36.pb, b36.pl, b144.1, (upH b144.2 1 (·.wa 21))⟩ w ⟨zz36, upH_all (l := b144.2) (i := 1) (f := (·.wa 21)) (P := fun q => q.seen w.cell?) (hopsF_at (qs := b144.2) h zz5) zz13 (fun q => q)⟩
    rwa [tw144.chG t2] at q) rfl (fun _ => sk0) (fun b170 => ?_)
  refine wpd_p 2 rfl zz6 trivial (q_tru (q_eqI rfl rfl) rfl) rfl sk0 ?_
  refine wpd_p 3 rfl zz6 trivial (q_pure rfl) rfl sk0 ?_
  refine wpd_q 4 rfl zz6 ⟨_, rfl, rfl⟩ (q_ldN Tryd.underlying29 rfl Tryd.ti29 rfl LenC.h) rfl (fun _ h => h) ?_
  refine wpd_t 5 rfl zz6 ⟨_, rfl, rfl⟩ (t_pur (v := .int .i64 8) Tryd.hb17 rfl fun w h => by
    have q := hopCheck ⟨b36.pf, b36.pa, b36.pb, b36.pl, b150.1, (upH b150.2 0 (·.wf 2))⟩ w ⟨zz37, upH_all (l := b150.2) (i := 0) (f := (·.wf 2)) (P := fun q => q.seen w.cell?) (hopsF_at (qs := b150.2) h zz5) zz13 (fun q => q)⟩
    rwa [tw150.chM t2] at q) rfl (fun _ => sk0) (fun b174 => ?_)
  refine wpd_p 6 rfl zz6 ⟨_, rfl, rfl⟩ (q_tru (q_eqI rfl rfl) rfl) rfl sk0 ?_
  refine wpd_p 7 rfl zz6 trivial (q_pure rfl) rfl sk0 ?_
  refine wpd_p 8 rfl zz6 trivial (q_pure rfl) rfl sk0 ?_
  refine wpd_q 9 rfl zz6 ⟨_, rfl, rfl⟩ (q_ldN Tryd.underlying29 rfl Tryd.ti29 rfl LenC.h) rfl (fun _ h => h) ?_
  refine wpd_t 10 rfl zz6 ⟨_, rfl, rfl⟩ (t_pur (v := .int .i64 8) Tryd.hb17 rfl fun w h => by
    have q := hopCheck ⟨b36.pf, b36.pa, b36.pb, b36.pl, b156.1, (upH b156.2 0 (·.wk (slv (b156.2.getD 0 Hop.z).cv 1 35 16)))⟩ w ⟨by show Seen w.cell? b156.1 ((upH b156.2 0 (·.wk (slv (b156.2.getD 0 Hop.z).cv 1 35 16)))).length 24 (hcs (upH b156.2 0 (·.wk (slv (b156.2.getD 0 Hop.z).cv 1 35 16)))); rw [upH_len, hl156, ← l2]; exact h.seen_row zz5, upH_all (l := b156.2) (i := 0) (f := (·.wk (slv (b156.2.getD 0 Hop.z).cv 1 35 16))) (P := fun q => q.seen w.cell?) (hopsF_at (qs := b156.2) h zz5) zz13 (fun q => wk_seen q tw156.c35)⟩
    rwa [tw156.chS t2] at q) rfl (fun _ => sk0) (fun b179 => ?_)
  refine wpd_p 11 rfl zz6 ⟨_, rfl, rfl⟩ (q_tru (q_eqI rfl rfl) rfl) rfl sk0 ?_
  refine wpd_p 12 rfl zz6 trivial (q_pure rfl) rfl sk0 ?_
  refine wpd_p 13 rfl zz6 trivial (q_pure rfl) rfl sk0 ?_
  refine wpd_t 14 rfl zz6 ⟨_, rfl, rfl⟩ (t_pur Tryd.hb32 rfl fun w h => ten w) rfl (fun _ => sk0) (fun b183 => ?_)
  refine wpd_p 15 rfl zz6 ⟨_, rfl, rfl⟩ (q_build (cs := pT.c) rfl (built_pre 4 0 167772160 8)) rfl sk0 ?_
  refine wpd_t 16 rfl zz6 ⟨_, rfl, rfl⟩ (t_pur (v := .int .i64 8) Tryd.hb17 rfl fun w h => by
    have q := hopCheck pT w (p0_seen _)
    rwa [n_c] at q) rfl (fun _ => sk0) (fun b185 => ?_)
  refine wpd_p 17 rfl zz6 ⟨_, rfl, rfl⟩ (q_tru (q_eqI rfl rfl) rfl) rfl sk0 ?_
  refine wpd_p 18 rfl zz6 trivial (q_pure rfl) rfl sk0 ?_
  refine wpd_p 19 rfl zz6 trivial (q_pure rfl) rfl sk0 ?_
  refine wpd_two 20 21 zz6 ?_ ?_
  ·
   refine wpa_t 20 rfl ⟨_, rfl, rfl⟩ (t_pur Tryd.hb32 rfl fun w h => ten w) rfl (fun _ => sk0) (fun b189 => ?_)
   refine wpd_tp 21 rfl zz6 ⟨_, rfl, rfl⟩ (t_mkW (l := 31) (c := 31) Tryd.underlying27 Tryd.ti68 rfl rfl zz2 zz2 zz2 (hcs (List.replicate 31 Hop.z)) rfl (mk_hcs 31)) rfl (fun _ => (fun w h => .inr (h.sub SubC.h SubC.h))) (fun b190 p190 => ?_)
   refine wpd_p 22 rfl zz6 ⟨_, rfl, rfl⟩ (q_build (cs := (Pth.mk 4 0 167772160 8 b190 (List.replicate 31 Hop.z)).c) rfl (built_pv p190)) rfl (fun w h => .inr (h.sub SubC.h SubC.h)) ?_
   refine wpd_t 23 rfl zz6 ⟨_, rfl, rfl⟩ (t_pur (v := .int .i64 4) Tryd.hb17 rfl fun w h => by
     have q := hopCheck ⟨4, 0, 167772160, 8, b190, List.replicate 31 Hop.z⟩ w ⟨by show Seen w.cell? b190 (List.replicate 31 Hop.z).length 24 _; rw [List.length_replicate]; exact h.seen_row zz5, z31_seen _⟩
     rwa [chk_31] at q) rfl (fun _ => (fun w h => .inr (h.sub SubC.h SubC.h))) (fun b192 => ?_)
   refine wpd_p 24 rfl zz6 ⟨_, rfl, rfl⟩ (q_tru (q_eqI rfl rfl) rfl) rfl (fun w h => .inr (h.sub SubC.h SubC.h)) ?_
   refine wpd_p 25 rfl zz6 trivial (q_pure rfl) rfl (fun w h => .inr (h.sub SubC.h SubC.h)) ?_
   refine wpd_p 26 rfl zz6 trivial (q_pure rfl) rfl (fun w h => .inr (h.sub SubC.h SubC.h)) ?_
   refine wpd_p 27 rfl zz6 ⟨_, rfl, rfl⟩ (q_build (cs := Pth.z.c) rfl built_pz) rfl (fun w h => .inr (h.sub SubC.h SubC.h)) ?_
   refine wpd_t 28 rfl zz6 ⟨_, rfl, rfl⟩ (t_pur (v := .int .i64 2) Tryd.hb17 rfl fun w h => by
     have q := hopCheck Pth.z w (z_seen _)
     rwa [chk_z] at q) rfl (fun _ => (fun w h => .inr (h.sub SubC.h SubC.h))) (fun b197 => ?_)
   refine wpd_p 29 rfl zz6 ⟨_, rfl, rfl⟩ (q_tru (q_eqI rfl rfl) rfl) rfl (fun w h => .inr (h.sub SubC.h SubC.h)) ?_
   refine wpd_p 30 rfl zz6 trivial (q_pure rfl) rfl (fun w h => .inr (h.sub SubC.h SubC.h)) ?_
   refine wpd_p 31 rfl zz6 trivial (q_pure rfl) rfl (fun w h => .inr (h.sub SubC.h SubC.h)) ?_
   refine wpd_done zz6 ?_
   refine ex_then <| wpc_seq <| wpc_region <| wpl_q (q_ldN Tryd.underlying29 rfl Tryd.ti29 rfl LenC.h) rfl <| wpl_q (q_ldN Tryd.underlying80 rfl Tryd.ti80 rfl LenC.h) rfl <| wpl_q (q_ldN Tryd.underlying80 rfl Tryd.ti80 rfl LenC.h) rfl ?_
   refine wpl_tp (t_bsG [.agg (RK.c (rkS 10 (sB 1) 0)).toArray, .agg (RK.c (rkS 20 (sB 2) 0)).toArray] (rks [(rkS 10 (sB 1) 0), (rkS 20 (sB 2) 0)]) Tryd.underlying50 Tryd.ti80 rfl zz17 rfl zz17 zz17 rfl zz21 rfl) rfl (fun b203 p203 => ?_)
   refine wpl_t (t_pur (v := .bool true) Tryd.hb33 rfl fun w h => by
     have q := is_ ⟨b36.pf, b36.pa, b36.pb, b36.pl, b144.1, (upH b144.2 1 (·.wa 21))⟩ 30 2 b203 [(rkS 10 (sB 1) 0), (rkS 20 (sB 2) 0)] w ⟨zz36, upH_all (l := b144.2) (i := 1) (f := (·.wa 21)) (P := fun q => q.seen w.cell?) (hopsF_at (qs := b144.2) h zz5) zz13 (fun q => q)⟩ (h.seen_row zz5) (upH_all (l := b144.2) (i := 1) (f := (·.wa 21)) (P := smH) tw144.sm zz13 (fun q => q)) (glob h hG) (Nat.le_of_ble_eq_true rfl)
     rwa [decide_eq_true (vr_bad (p := ⟨b36.pf, b36.pa, b36.pb, b36.pl, b144.1, (upH b144.2 1 (·.wa 21))⟩) (Nat.le_of_ble_eq_true rfl) (by show ((upH b144.2 1 (·.wa 21))).length ≠ 0; rw [upH_len, hl144]; decide) (by rw [tw144.chG t2]; decide))] at q) rfl (fun b204 => ?_)
   refine wpl_q (q_pure rfl) rfl <| wpl_on rfl rfl <| wpl_q (q_ldN Tryd.underlying29 rfl Tryd.ti29 rfl LenC.h) rfl <| wpl_on rfl rfl <| wpl_q (q_ldN Tryd.underlying80 rfl Tryd.ti80 rfl LenC.h) rfl <| wpl_on rfl rfl <| wpl_q (q_ldN Tryd.underlying80 rfl Tryd.ti80 rfl LenC.h) rfl <| wpl_on rfl rfl ?_
   refine wpl_tp (t_bsG [.agg (RK.c (rkS 10 (sB 1) 0)).toArray, .agg (RK.c (rkS 20 (sB 2) 0)).toArray] (rks [(rkS 10 (sB 1) 0), (rkS 20 (sB 2) 0)]) Tryd.underlying50 Tryd.ti80 rfl zz17 rfl zz17 zz17 rfl zz21 rfl) rfl (fun b209 p209 => ?_)
   refine wpl_on rfl rfl ?_
   refine wpl_t (t_pur (v := .bool true) Tryd.hb33 rfl fun w h => by
     have q := is_ ⟨b36.pf, b36.pa, b36.pb, b36.pl, b150.1, (upH b150.2 0 (·.wf 2))⟩ 30 2 b209 [(rkS 10 (sB 1) 0), (rkS 20 (sB 2) 0)] w ⟨zz37, upH_all (l := b150.2) (i := 0) (f := (·.wf 2)) (P := fun q => q.seen w.cell?) (hopsF_at (qs := b150.2) h zz5) zz13 (fun q => q)⟩ (h.seen_row zz5) (upH_all (l := b150.2) (i := 0) (f := (·.wf 2)) (P := smH) tw150.sm zz13 (fun q => q)) (glob h hG) (Nat.le_of_ble_eq_true rfl)
     rwa [decide_eq_true (vr_bad (p := ⟨b36.pf, b36.pa, b36.pb, b36.pl, b150.1, (upH b150.2 0 (·.wf 2))⟩) (Nat.le_of_ble_eq_true rfl) (by show ((upH b150.2 0 (·.wf 2))).length ≠ 0; rw [upH_len, hl150]; decide) (by rw [tw150.chM t2]; decide))] at q) rfl (fun b210 => ?_)
   refine wpl_q (q_pure rfl) rfl <| wpl_q (q_pure rfl) rfl <| wpl_on rfl rfl ?_
   refine wpl_q (q_build (cs := Pth.z.c) rfl built_pz) rfl ?_
   refine wpl_on rfl rfl ?_
   refine wpl_t (t_pur (v := .bool true) Tryd.hb33 rfl fun w h => by
     have q := is_ Pth.z 1 0 (.slice none 0 0) [] w (z_seen _) (seen_nil _ _) z_sm (glob h hG) (Nat.le_of_ble_eq_true rfl)
     rwa [decide_eq_true (vrV_none zz17 rfl)] at q) rfl (fun b214 => ?_)
   refine wpl_q (q_pure rfl) rfl <| wpl_q (q_pure rfl) rfl <| wpl_on rfl rfl <| wpl_q (q_ldN Tryd.underlying29 rfl Tryd.ti29 rfl LenC.h) rfl <| wpl_on rfl rfl ?_
   refine wpl_t (t_pur (v := .bool true) Tryd.hb33 rfl fun w h => by
     have q := is_ b36 30 2 (.slice none 0 0) [] w ⟨h.seen_row zz5, hopsF_at h zz5⟩ (seen_nil _ _) t2.sm (glob h hG) (Nat.le_of_ble_eq_true rfl)
     rwa [decide_eq_true (t2.no zz17 (fun q => absurd q.2.1 List.not_mem_nil))] at q) rfl (fun b218 => ?_)
   refine wpl_q (q_pure rfl) rfl <| wpl_q (q_pure rfl) rfl <| wpl_nil <| ex_then <| wpc_seq <| wpc_region ?_
   refine wpl_t (t_pur (v := .bool true) Tryd.hb34 rfl fun w h => alive w (glob h hG)) rfl (fun b220 => ?_)
   refine wpl_q (q_pure rfl) rfl <| wpl_on rfl rfl <| wpl_q (q_pure rfl) rfl <| wpl_on rfl rfl <| wpl_q (q_tru (q_eqI rfl rfl) rfl) rfl <| wpl_q (q_pure rfl) rfl <| wpl_q (q_pure rfl) rfl <| wpl_on rfl rfl <| wpl_q (q_pure rfl) rfl <| wpl_on rfl rfl <| wpl_q (q_tru (q_eqI rfl rfl) rfl) rfl <| wpl_q (q_pure rfl) rfl ?_
   refine wpl_q (q_pure rfl) rfl <| wpl_on rfl rfl <| wpl_q (q_pure rfl) rfl <| wpl_on rfl rfl <| wpl_q (q_tru (q_eqI rfl rfl) rfl) rfl <| wpl_q (q_pure rfl) rfl <| wpl_q (q_pure rfl) rfl <| wpl_on rfl rfl <| wpl_q (q_pure rfl) rfl <| wpl_on rfl rfl <| wpl_q (q_tru (q_eqI rfl rfl) rfl) rfl <| wpl_q (q_pure rfl) rfl ?_
   refine wpl_q (q_pure rfl) rfl <| wpl_on rfl rfl <| wpl_q (q_pure rfl) rfl <| wpl_on rfl rfl <| wpl_q (q_tru (q_eqI rfl rfl) rfl) rfl <| wpl_q (q_pure rfl) rfl <| wpl_q (q_pure rfl) rfl <| wpl_on rfl rfl <| wpl_q (q_pure rfl) rfl <| wpl_on rfl rfl <| wpl_q (q_tru (q_eqI rfl rfl) rfl) rfl <| wpl_q (q_pure rfl) rfl ?_
   refine wpl_q (q_pure rfl) rfl <| wpl_on rfl rfl <| wpl_q (q_pure rfl) rfl <| wpl_on rfl rfl <| wpl_q (q_tru (q_eqI rfl rfl) rfl) rfl <| wpl_q (q_pure rfl) rfl <| wpl_q (q_pure rfl) rfl <| wpl_on rfl rfl <| wpl_q (q_pure rfl) rfl <| wpl_on rfl rfl <| wpl_q (q_tru (q_eqI rfl rfl) rfl) rfl <| wpl_q (q_pure rfl) rfl ?_
   refine wpl_q (q_pure rfl) rfl <| wpl_on rfl rfl <| wpl_q (q_pure rfl) rfl <| wpl_on rfl rfl <| wpl_q (q_tru (q_eqI rfl rfl) rfl) rfl <| wpl_q (q_pure rfl) rfl <| wpl_q (q_pure rfl) rfl <| wpl_on rfl rfl <| wpl_q (q_pure rfl) rfl <| wpl_on rfl rfl <| wpl_q (q_tru (q_eqI rfl rfl) rfl) rfl <| wpl_q (q_pure rfl) rfl ?_
   refine wpl_q (q_pure rfl) rfl <| wpl_on rfl rfl <| wpl_q (q_pure rfl) rfl <| wpl_on rfl rfl <| wpl_q (q_tru (q_eqI rfl rfl) rfl) rfl <| wpl_q (q_pure rfl) rfl <| wpl_q (q_pure rfl) rfl <| wpl_on rfl rfl <| wpl_q (q_pure rfl) rfl <| wpl_on rfl rfl <| wpl_q (q_tru (q_eqI rfl rfl) rfl) rfl <| wpl_q (q_pure rfl) rfl ?_
   refine wpl_q (q_pure rfl) rfl <| wpl_on rfl rfl <| wpl_q (q_pure rfl) rfl <| wpl_on rfl rfl <| wpl_q (q_tru (q_eqI rfl rfl) rfl) rfl <| wpl_q (q_pure rfl) rfl <| wpl_q (q_pure rfl) rfl <| wpl_on rfl rfl <| wpl_q (q_pure rfl) rfl <| wpl_on rfl rfl <| wpl_q (q_tru (q_eqI rfl rfl) rfl) rfl <| wpl_q (q_pure rfl) rfl ?_
   refine wpl_q (q_pure rfl) rfl <| wpl_on rfl rfl <| wpl_q (q_pure rfl) rfl <| wpl_on rfl rfl ?_
   refine wpl_q (q_lenW Tryd.underlying38 rfl zz4) rfl ?_
   refine wpl_on rfl rfl <| wpl_q (q_tru (q_eqI rfl rfl) rfl) rfl <| wpl_q (q_pure rfl) rfl <| wpl_q (q_pure rfl) rfl <| wpl_on rfl rfl <| wpl_q (q_pure rfl) rfl <| wpl_q (q_pure rfl) rfl <| wpl_q (q_pure rfl) rfl <| wpl_on rfl rfl <| wpl_q (q_pure rfl) rfl <| wpl_q (q_pure rfl) rfl <| wpl_q (q_pure rfl) rfl ?_
   refine wpl_nil <| ex_then <| wpc_ret ?_
   refine ret1 (.inl rfl) rfl rfl ?_
   exact fun w h => ⟨rfl, h.below⟩
  ·
   refine wpa_tp 21 rfl ⟨_, rfl, rfl⟩ (t_mkW (l := 31) (c := 31) Tryd.underlying27 Tryd.ti68 rfl rfl zz2 zz2 zz2 (hcs (List.replicate 31 Hop.z)) rfl (mk_hcs 31)) rfl (fun _ => (fun w h => .inr (h.sub SubC.h SubC.h))) (fun b190 p190 => ?_)
   refine wpd_t 20 rfl zz6 ⟨_, rfl, rfl⟩ (t_pur Tryd.hb32 rfl fun w h => ten w) rfl (fun _ => (fun w h => .inr (h.sub SubC.h SubC.h))) (fun b189 => ?_)
   refine wpd_p 22 rfl zz6 ⟨_, rfl, rfl⟩ (q_build (cs := (Pth.mk 4 0 167772160 8 b190 (List.replicate 31 Hop.z)).c) rfl (built_pv p190)) rfl (fun w h => .inr (h.sub SubC.h SubC.h)) ?_
   refine wpd_t 23 rfl zz6 ⟨_, rfl, rfl⟩ (t_pur (v := .int .i64 4) Tryd.hb17 rfl fun w h => by
     have q := hopCheck ⟨4, 0, 167772160, 8, b190, List.replicate 31 Hop.z⟩ w ⟨by show Seen w.cell? b190 (List.replicate 31 Hop.z).length 24 _; rw [List.length_replicate]; exact h.seen_row zz5, z31_seen _⟩
     rwa [chk_31] at q) rfl (fun _ => (fun w h => .inr (h.sub SubC.h SubC.h))) (fun b192 => ?_)
   refine wpd_p 24 rfl zz6 ⟨_, rfl, rfl⟩ (q_tru (q_eqI rfl rfl) rfl) rfl (fun w h => .inr (h.sub SubC.h SubC.h)) ?_
   refine wpd_p 25 rfl zz6 trivial (q_pure rfl) rfl (fun w h => .inr (h.sub SubC.h SubC.h)) ?_
   refine wpd_p 26 rfl zz6 trivial (q_pure rfl) rfl (fun w h => .inr (h.sub SubC.h SubC.h)) ?_
   refine wpd_p 27 rfl zz6 ⟨_, rfl, rfl⟩ (q_build (cs := Pth.z.c) rfl built_pz) rfl (fun w h => .inr (h.sub SubC.h SubC.h)) ?_
   refine wpd_t 28 rfl zz6 ⟨_, rfl, rfl⟩ (t_pur (v := .int .i64 2) Tryd.hb17 rfl fun w h => by
     have q := hopCheck Pth.z w (z_seen _)
     rwa [chk_z] at q) rfl (fun _ => (fun w h => .inr (h.sub SubC.h SubC.h))) (fun b197 => ?_)
   refine wpd_p 29 rfl zz6 ⟨_, rfl, rfl⟩ (q_tru (q_eqI rfl rfl) rfl) rfl (fun w h => .inr (h.sub SubC.h SubC.h)) ?_
   refine wpd_p 30 rfl zz6 trivial (q_pure rfl) rfl (fun w h => .inr (h.sub SubC.h SubC.h)) ?_
   refine wpd_p 31 rfl zz6 trivial (q_pure rfl) rfl (fun w h => .inr (h.sub SubC.h SubC.h)) ?_
   refine wpd_done zz6 ?_
   refine ex_then <| wpc_seq <| wpc_region <| wpl_q (q_ldN Tryd.underlying29 rfl Tryd.ti29 rfl LenC.h) rfl <| wpl_q (q_ldN Tryd.underlying80 rfl Tryd.ti80 rfl LenC.h) rfl <| wpl_q (q_ldN Tryd.underlying80 rfl Tryd.ti80 rfl LenC.h) rfl ?_
   refine wpl_tp (t_bsG [.agg (RK.c (rkS 10 (sB 1) 0)).toArray, .agg (RK.c (rkS 20 (sB 2) 0)).toArray] (rks [(rkS 10 (sB 1) 0), (rkS 20 (sB 2) 0)]) Tryd.underlying50 Tryd.ti80 rfl zz17 rfl zz17 zz17 rfl zz21 rfl) rfl (fun b203 p203 => ?_)
   refine wpl_t (t_pur (v := .bool true) Tryd.hb33 rfl fun w h => by
     have q := is_ ⟨b36.pf, b36.pa, b36.pb, b36.pl, b144.1, (upH b144.2 1 (·.wa 21))⟩ 30 2 b203 [(rkS 10 (sB 1) 0), (rkS 20 (sB 2) 0)] w ⟨zz36, upH_all (l := b144.2) (i := 1) (f := (·.wa 21)) (P := fun q => q.seen w.cell?) (hopsF_at (qs := b144.2) h zz5) zz13 (fun q => q)⟩ (h.seen_row zz5) (upH_all (l := b144.2) (i := 1) (f := (·.wa 21)) (P := smH) tw144.sm zz13 (fun q => q)) (glob h hG) (Nat.le_of_ble_eq_true rfl)
     rwa [decide_eq_true (vr_bad (p := ⟨b36.pf, b36.pa, b36.pb, b36.pl, b144.1, (upH b144.2 1 (·.wa 21))⟩) (Nat.le_of_ble_eq_true rfl) (by show ((upH b144.2 1 (·.wa 21))).length ≠ 0; rw [upH_len, hl144]; decide) (by rw [tw144.chG t2]; decide))] at q) rfl (fun b204 => ?_)
   refine wpl_q (q_pure rfl) rfl <| wpl_on rfl rfl <| wpl_q (q_ldN Tryd.underlying29 rfl Tryd.ti29 rfl LenC.h) rfl <| wpl_on rfl rfl <| wpl_q (q_ldN Tryd.underlying80 rfl Tryd.ti80 rfl LenC.h) rfl <| wpl_on rfl rfl <| wpl_q (q_ldN Tryd.underlying80 rfl Tryd.ti80 rfl LenC.h) rfl <| wpl_on rfl rfl ?_
   refine wpl_tp (t_bsG [.agg (RK.c (rkS 10 (sB 1) 0)).toArray, .agg (RK.c (rkS 20 (sB 2) 0)).toArray] (rks [(rkS 10 (sB 1) 0), (rkS 20 (sB 2) 0)]) Tryd.underlying50 Tryd.ti80 rfl zz17 rfl zz17 zz17 rfl zz21 rfl) rfl (fun b209 p209 => ?_)
   refine wpl_on rfl rfl ?_
   refine wpl_t (t_pur (v := .bool true) Tryd.hb33 rfl fun w h => by
     have q := is_ ⟨b36.pf, b36.pa, b36.pb, b36.pl, b150.1, (upH b150.2 0 (·.wf 2))⟩ 30 2 b209 [(rkS 10 (sB 1) 0), (rkS 20 (sB 2) 0)] w ⟨zz37, upH_all (l := b150.2) (i := 0) (f := (·.wf 2)) (P := fun q => q.seen w.cell?) (hopsF_at (qs := b150.2) h zz5) zz13 (fun q => q)⟩ (h.seen_row zz5) (upH_all (l := b150.2) (i := 0) (f := (·.wf 2)) (P := smH) tw150.sm zz13 (fun q => q)) (glob h hG) (Nat.le_of_ble_eq_true rfl)
     rwa [decide_eq_true (vr_bad (p := ⟨b36.pf, b36.pa, b36.pb, b36.pl, b150.1, (upH b150.2 0 (·.wf 2))⟩) (Nat.le_of_ble_eq_true rfl) (by show ((upH b150.2 0 (·.wf 2))).length ≠ 0; rw [upH_len, hl150]; decide) (by rw [tw150.chM t2]; decide))] at q) rfl (fun b210 => ?_)
   refine wpl_q (q_pure rfl) rfl <| wpl_q (q_pure rfl) rfl <| wpl_on rfl rfl ?_
   refine wpl_q (q_build (cs := Pth.z.c) rfl built_pz) rfl ?_
   refine wpl_on rfl rfl ?_
   refine wpl_t (t_pur (v := .bool true) Tryd.hb33 rfl fun w h => by
     have q := is_ Pth.z 1 0 (.slice none 0 0) [] w (z_seen _) (seen_nil _ _) z_sm (glob h hG) (Nat.le_of_ble_eq_true rfl)
     rwa [decide_eq_true (vrV_none zz17 rfl)] at q) rfl (fun b214 => ?_)
   refine wpl_q (q_pure rfl) rfl <| wpl_q (q_pure rfl) rfl <| wpl_on rfl rfl <| wpl_q (q_ldN Tryd.underlying29 rfl Tryd.ti29 rfl LenC.h) rfl <| wpl_on rfl rfl ?_
   refine wpl_t (t_pur (v := .bool true) Tryd.hb33 rfl fun w h => by
     have q := is_ b36 30 2 (.slice none 0 0) [] w ⟨h.seen_row zz5, hopsF_at h zz5⟩ (seen_nil _ _) t2.sm (glob h hG) (Nat.le_of_ble_eq_true rfl)
     rwa [decide_eq_true (t2.no zz17 (fun q => absurd q.2.1 List.not_mem_nil))] at q) rfl (fun b218 => ?_)
   refine wpl_q (q_pure rfl) rfl <| wpl_q (q_pure rfl) rfl <| wpl_nil <| ex_then <| wpc_seq <| wpc_region ?_
   refine wpl_t (t_pur (v := .bool true) Tryd.hb34 rfl fun w h => alive w (glob h hG)) rfl (fun b220 => ?_)
   refine wpl_q (q_pure rfl) rfl <| wpl_on rfl rfl <| wpl_q (q_pure rfl) rfl <| wpl_on rfl rfl <| wpl_q (q_tru (q_eqI rfl rfl) rfl) rfl <| wpl_q (q_pure rfl) rfl <| wpl_q (q_pure rfl) rfl <| wpl_on rfl rfl <| wpl_q (q_pure rfl) rfl <| wpl_on rfl rfl <| wpl_q (q_tru (q_eqI rfl rfl) rfl) rfl <| wpl_q (q_pure rfl) rfl ?_
   refine wpl_q (q_pure rfl) rfl <| wpl_on rfl rfl <| wpl_q (q_pure rfl) rfl <| wpl_on rfl rfl <| wpl_q (q_tru (q_eqI rfl rfl) rfl) rfl <| wpl_q (q_pure rfl) rfl <| wpl_q (q_pure rfl) rfl <| wpl_on rfl rfl <| wpl_q (q_pure rfl) rfl <| wpl_on rfl rfl <| wpl_q (q_tru (q_eqI rfl rfl) rfl) rfl <| wpl_q (q_pure rfl) rfl ?_
   refine wpl_q (q_pure rfl) rfl <| wpl_on rfl rfl <| wpl_q (q_pure rfl) rfl <| wpl_on rfl rfl <| wpl_q (q_tru (q_eqI rfl rfl) rfl) rfl <| wpl_q (q_pure rfl) rfl <| wpl_q (q_pure rfl) rfl <| wpl_on rfl rfl <| wpl_q (q_pure rfl) rfl <| wpl_on rfl rfl <| wpl_q (q_tru (q_eqI rfl rfl) rfl) rfl <| wpl_q (q_pure rfl) rfl ?_
   refine wpl_q (q_pure rfl) rfl <| wpl_on rfl rfl <| wpl_q (q_pure rfl) rfl <| wpl_on rfl rfl <| wpl_q (q_tru (q_eqI rfl rfl) rfl) rfl <| wpl_q (q_pure rfl) rfl <| wpl_q (q_pure rfl) rfl <| wpl_on rfl rfl <| wpl_q (q_pure rfl) rfl <| wpl_on rfl rfl <| wpl_q (q_tru (q_eqI rfl rfl) rfl) rfl <| wpl_q (q_pure rfl) rfl ?_
   refine wpl_q (q_pure rfl) rfl <| wpl_on rfl rfl <| wpl_q (q_pure rfl) rfl <| wpl_on rfl rfl <| wpl_q (q_tru (q_eqI rfl rfl) rfl) rfl <| wpl_q (q_pure rfl) rfl <| wpl_q (q_pure rfl) rfl <| wpl_on rfl rfl <| wpl_q (q_pure rfl) rfl <| wpl_on rfl rfl <| wpl_q (q_tru (q_eqI rfl rfl) rfl) rfl <| wpl_q (q_pure rfl) rfl ?_
   refine wpl_q (q_pure rfl) rfl <| wpl_on rfl rfl <| wpl_q (q_pure rfl) rfl <| wpl_on rfl rfl <| wpl_q (q_tru (q_eqI rfl rfl) rfl) rfl <| wpl_q (q_pure rfl) rfl <| wpl_q (q_pure rfl) rfl <| wpl_on rfl rfl <| wpl_q (q_pure rfl) rfl <| wpl_on rfl rfl <| wpl_q (q_tru (q_eqI rfl rfl) rfl) rfl <| wpl_q (q_pure rfl) rfl ?_
   refine wpl_q (q_pure rfl) rfl <| wpl_on rfl rfl <| wpl_q (q_pure rfl) rfl <| wpl_on rfl rfl <| wpl_q (q_tru (q_eqI rfl rfl) rfl) rfl <| wpl_q (q_pure rfl) rfl <| wpl_q (q_pure rfl) rfl <| wpl_on rfl rfl <| wpl_q (q_pure rfl) rfl <| wpl_on rfl rfl <| wpl_q (q_tru (q_eqI rfl rfl) rfl) rfl <| wpl_q (q_pure rfl) rfl ?_
   refine wpl_q (q_pure rfl) rfl <| wpl_on rfl rfl <| wpl_q (q_pure rfl) rfl <| wpl_on rfl rfl ?_
   refine wpl_q (q_lenW Tryd.underlying38 rfl zz4) rfl ?_
   refine wpl_on rfl rfl <| wpl_q (q_tru (q_eqI rfl rfl) rfl) rfl <| wpl_q (q_pure rfl) rfl <| wpl_q (q_pure rfl) rfl <| wpl_on rfl rfl <| wpl_q (q_pure rfl) rfl <| wpl_q (q_pure rfl) rfl <| wpl_q (q_pure rfl) rfl <| wpl_on rfl rfl <| wpl_q (q_pure rfl) rfl <| wpl_q (q_pure rfl) rfl <| wpl_q (q_pure rfl) rfl ?_
   refine wpl_nil <| ex_then <| wpc_ret ?_
   refine ret1 (.inl rfl) rfl rfl ?_
   exact fun w h => ⟨rfl, h.below⟩
end Go.Proofs.YtjpfhkjmjnjggaaDoor
