/- What the statement reaches, in order. -/
import Derived.Test.YtjpfhkjmjnjggaaDoorMUTI
import Derived.Test.YtjpfhkjmjnjggaaDoorMUPLI
import Derived.Test.YtjpfhkjmjnjggaaDoorMUPLZ
import Derived.Test.YtjpfhkjmjnjggaaDoorMUPLL
import Derived.Test.YtjpfhkjmjnjggaaDoorMUPLN
import Derived.Test.YtjpfhkjmjnjggaaDoorMUPLP
import Derived.WalkKit
import Derived.ProofKit
import Derived.OpenShut
import Derived.ChangeOld
import Derived.Below
import Derived.Carry
import Derived.LaidMore
import Derived.Deep.DeepHandedRow
import Derived.Deep.DeepWitnessRowRef
import Derived.Lib.LaidTab
import Derived.Stop.Joined
import Derived.Test.YtjpfhkjmjnjggaaDoorMU5
set_option linter.unusedSimpArgs false
set_option linter.unusedVariables false
set_option maxRecDepth 100000
namespace Go.Proofs.YtjpfhkjmjnjggaaDoor
open Go Go.PL Go.RowKit
theorem st_err {f : UInt8} {a b : UInt64} {l : Int} {h : Hop} {s : S16} {ht idx : Int} (k : stE f a b l h ht idx ≠ 0) : (stP f a b l h s ht idx).hs.length = 0 := by
  by_cases k1 : pfxF f a b l ≠ 0
  · rw [stP_no k1]; rfl
  · rw [stE_ok k1] at k
    rw [stP_ok k1, sgP_no k]; rfl
theorem hcs_key {l : List Hop} {i : Nat} (hi : i < l.length) : ((hcs l).drop (i * 24 + 4)).take 17 = (l.getD i Hop.z).key := by
  have q := cat_part Hop.c_length Hop.z hi
  rw [← Hop.c_key, ← q, List.drop_take, List.drop_drop, List.take_take]
  rfl
theorem fl_err {h : Hop} (k : sgE h 0 0 ≠ 0) : 1 < h.fl.toNat := Decidable.not_not.1 fun q => k (by rw [sgE_sig q zz17]; decide)
def rkH (a : UInt32) (h : Hop) : RK := (a, h.root, h.ht)
theorem rkH_eq {h : Hop} {a x : UInt32} {c : UInt8} {t : UInt32} {s : S16} {ht : Int} (k : SaysH h x c t s ht) : rkH a h = rkS a s ht := by unfold rkH rkS; rw [k.root, k.ht]
structure Chn (p q : Pth) (ha hb : Hop) (s1 s2 : S16) : Prop where
  gp : Gd p
  lp : p.hs.length = 1
  p0 : SaysH (p.hs.getD 0 Hop.z) ha.sy ha.cnt ha.to s1 1
  gq : Gd q
  lq : q.hs.length = 2
  q0 : SaysH (q.hs.getD 0 Hop.z) ha.sy ha.cnt ha.to s1 1
  q1 : SaysH (q.hs.getD 1 Hop.z) ha.to hb.cnt hb.to s2 0
theorem chn_ok {f : UInt8} {a b : UInt64} {l : Int} {ha hb : Hop} {s1 s2 : S16} {idx : Int} {x y : Value × List Hop} (k1 : stE f a b l ha 1 idx = 0) (e1 : HsEqv (stP f a b l ha s1 1 idx).hs x.2) (k2 : exE (reP (stP f a b l ha s1 1 idx) x) hb 0 0 = 0) (e2 : HsEqv (exP (reP (stP f a b l ha s1 1 idx) x) hb s2 0 0).hs y.2) : Chn (reP (stP f a b l ha s1 1 idx) x) (reP (exP (reP (stP f a b l ha s1 1 idx) x) hb s2 0 0) y) ha hb s1 s2 := by
  obtain ⟨g1, l1, q1⟩ := st_gd k1 e1
  have l1' : (reP (stP f a b l ha s1 1 idx) x).hs.length = 1 := l1
  obtain ⟨g2, l2, q2, q3⟩ := ex_gd g1 zz13 k2 e2
  rw [l1'] at l2 q2 q3
  have s1' := says_new q1
  have hto : lastTo (reP (stP f a b l ha s1 1 idx) x) = ha.to := by
    show (x.2.getD (x.2.length - 1) Hop.z).to = ha.to
    rw [l1]; exact s1'.to
  have s3 := says_new q3
  rw [hto] at s3
  exact ⟨g1, l1, s1', g2, l2, says_eqv (q2 0 zz17) s1', s3⟩
section
variable {p q : Pth} {ha hb : Hop} {s1 s2 : S16}
abbrev k0 (q : Pth) (ha : Hop) : RK := rkH ha.sy (q.hs.getD 0 Hop.z)
abbrev k1 (q : Pth) (ha : Hop) : RK := rkH ha.to (q.hs.getD 1 Hop.z)
theorem Chn.c1 (t : Chn p q ha hb s1 s2) : vrV p ha.to [k0 q ha] = 1 := gd_one t.gp zz40 (by rw [t.lp]; exact t.p0.to) (fun i hi => by
  obtain rfl : i = 0 := by have := t.lp; omega
  rw [t.p0.rk, k0, rkH_eq t.q0]; simp)
theorem Chn.vr (t : Chn p q ha hb s1 s2) {ks : List RK} (hk : ks.length ≤ 100) (to : UInt32) : (vrV q to ks = 1 ↔ hb.to = to ∧ k0 q ha ∈ ks ∧ k1 q ha ∈ ks) := by
  rw [k0, k1, rkH_eq t.q0, rkH_eq t.q1]; exact gd_two t.gq t.lq t.q0 t.q1 hk to
theorem Chn.no (t : Chn p q ha hb s1 s2) {ks : List RK} (hk : ks.length ≤ 100) {to : UInt32} (h : ¬ (hb.to = to ∧ k0 q ha ∈ ks ∧ k1 q ha ∈ ks)) : vrV q to ks = 2 := vr_two hk (by rw [t.lq]; decide) fun x => h ((t.vr hk to).1 x)
theorem Chn.c2 (t : Chn p q ha hb s1 s2) : vrV q hb.to [k0 q ha, k1 q ha] = 1 := (t.vr zz40 _).2 ⟨rfl, zz40, zz40⟩
theorem Chn.c3 (t : Chn p q ha hb s1 s2) {x : UInt32} (h : ¬ x = hb.to) : vrV q x [k0 q ha, k1 q ha] = 2 := t.no zz40 fun y => h y.1.symm
theorem Chn.c4 (t : Chn p q ha hb s1 s2) (h : ¬ k0 q ha = k1 q ha) : vrV q hb.to [k0 q ha] = 2 := t.no zz40 fun y => h (by have := y.2.2; rw [List.mem_singleton] at this; exact this.symm)
theorem Chn.c5 (t : Chn p q ha hb s1 s2) (h : ¬ k0 q ha = k1 q ha) : vrV q hb.to [k1 q ha] = 2 := t.no zz40 fun y => h (by have := y.2.1; rw [List.mem_singleton] at this; exact this)
theorem Chn.sr (t : Chn p q ha hb s1 s2) : sysR q.hs = List.replicate hb.cnt.toNat ha.to ++ List.replicate ha.cnt.toNat ha.sy := by
  unfold sysR
  rw [t.lq]
  unfold sysG sysG sysG
  rw [t.lq]
  show ([] ++ List.replicate (q.hs.getD 1 Hop.z).cnt.toNat (q.hs.getD 1 Hop.z).sy) ++ List.replicate (q.hs.getD 0 Hop.z).cnt.toNat (q.hs.getD 0 Hop.z).sy = _
  rw [t.q0.cnt, t.q0.sy, t.q1.cnt, t.q1.sy, List.nil_append]
theorem Chn.sys (t : Chn p q ha hb s1 s2) (h : ha.cnt.toNat + hb.cnt.toNat ≤ 30) : sysE q = 0 ∧ sysV q = List.replicate hb.cnt.toNat ha.to ++ List.replicate ha.cnt.toNat ha.sy := by
  have e : sysE q = 0 := by
    unfold sysE
    rw [if_neg (by simp [t.gq.1]), t.sr, if_neg (by rw [List.length_append, List.length_replicate, List.length_replicate]; omega)]
  exact ⟨e, by unfold sysV; rw [if_pos e, t.sr]⟩
end
def syL (ha hb : Hop) : List UInt32 := List.replicate hb.cnt.toNat ha.to ++ List.replicate ha.cnt.toNat ha.sy
theorem syL_len (ha hb : Hop) : (syL ha hb).length = hb.cnt.toNat + ha.cnt.toNat := by unfold syL; rw [List.length_append, List.length_replicate, List.length_replicate]
theorem syL_lo {ha hb : Hop} {i : Nat} (h : i < hb.cnt.toNat) : (syL ha hb).getD i 0 = ha.to := by
  unfold syL
  rw [List.getD_eq_getElem?_getD, List.getElem?_append_left (by rw [List.length_replicate]; exact h), List.getElem?_replicate, if_pos h]; rfl
theorem syL_hi {ha hb : Hop} {i : Nat} (h : ¬ i < hb.cnt.toNat) (h2 : i < (syL ha hb).length) : (syL ha hb).getD i 0 = ha.sy := by
  rw [syL_len] at h2
  unfold syL
  rw [List.getD_eq_getElem?_getD, List.getElem?_append_right (by rw [List.length_replicate]; omega), List.length_replicate, List.getElem?_replicate, if_pos zz13]; rfl
theorem Chn.lo {p q : Pth} {ha hb : Hop} {s1 s2 : S16} (t : Chn p q ha hb s1 s2) (h : ha.cnt.toNat + hb.cnt.toNat ≤ 30) {i : Nat} (hi : i < hb.cnt.toNat) : (sysV q).getD i 0 = ha.to := by rw [(t.sys h).2]; exact syL_lo hi
theorem Chn.hi {p q : Pth} {ha hb : Hop} {s1 s2 : S16} (t : Chn p q ha hb s1 s2) (h : ha.cnt.toNat + hb.cnt.toNat ≤ 30) {i : Nat} (hi : ¬ i < hb.cnt.toNat) (h2 : i < (sysV q).length) : (sysV q).getD i 0 = ha.sy := by
  rw [(t.sys h).2] at h2 ⊢
  exact syL_hi hi h2
theorem Chn.len {p q : Pth} {ha hb : Hop} {s1 s2 : S16} (t : Chn p q ha hb s1 s2) (h : ha.cnt.toNat + hb.cnt.toNat ≤ 30) : (sysV q).length = hb.cnt.toNat + ha.cnt.toNat := by rw [(t.sys h).2]; exact syL_len ha hb
theorem lawChain (f : UInt8) (a b : UInt64) (l : Int) (ha : Hop) (hb : Hop) (s1 : S16) (s2 : S16) (idx : Int) (x : UInt32) (w : World) (hsvha : ha.sv) (hsvhb : hb.sv) (hG : Glb w) :
    Calls Tryd.prog 8 [.agg (pfL f a b l).toArray, .agg ha.c.toArray, .agg hb.c.toArray, .agg (v8s s1.1).toArray, .agg (v8s s2.1).toArray, .int .i64 idx, .int .u32 x.toNat].toArray w (Pur w (.bool true)) := by
  haveI := hsvha.one
  haveI := hsvhb.one
  refine enter (m := 215) (R := Mem w [] [] []) Tryd.func8 rfl rfl (Nat.le_of_ble_eq_true rfl) (Mem.start w) ?_
  refine wpc_seq <| wpc_region ?_
  refine wpl_t (t_box rfl (pfL f a b l) rfl) rfl (fun b7 => ?_)
  refine wpl_t (t_box rfl ha.c rfl) rfl (fun b8 => ?_)
  refine wpl_t (t_box rfl hb.c rfl) rfl (fun b9 => ?_)
  refine wpl_t (t_box rfl (v8s s1.1) rfl) rfl (fun b10 => ?_)
  refine wpl_t (t_box rfl (v8s s2.1) rfl) rfl (fun b11 => ?_)
  refine wpl_q (q_pure rfl) rfl <| wpl_nil <| ex_then <| wpc_seq <| wpc_region ?_
  refine wpl_t (t_pur (v := .bool true) Tryd.hb34 rfl fun w h => alive w (glob h hG)) rfl (fun b24 => ?_)
  refine wpl_q (q_pure rfl) rfl <| wpl_nil <| ex_then <| wpc_seq <| wpc_region <| wpl_q (q_ldN Tryd.underlying26 rfl Tryd.ti26 rfl LenC.h) rfl <| wpl_q (q_ldN Tryd.underlying68 rfl Tryd.ti68 rfl LenC.h) rfl <| wpl_q (q_ldN Tryd.underlying61 rfl Tryd.ti61 rfl LenC.h) rfl <| wpl_q (q_pure rfl) rfl ?_
  refine wpl_tp (t_callPF Tryd.hb26 rfl fun w h => start f a b l ha s1 1 idx w hsvha (glob h hG)) rfl (fun b30 p30 => ?_)
  haveI : OneC (reP (stP f a b l ha s1 1 idx) b30).c := reP_one p30.1
  have hsl := p30.2.1
  refine wpl_q (q_pure rfl) rfl <| wpl_q (q_pure rfl) rfl <| wpl_q (q_pure rfl) rfl ?_
  refine wpl_t (t_alloc Tryd.ti29 Pth.z.c rfl) rfl (fun b16 => ?_)
  refine wpl_t0 (t_stA Tryd.ti29 rfl rfl LenC.h OneC.h LenC.h) (fun _ => ?_)
  refine wpl_q (q_pure rfl) rfl <| wpl_nil <| ex_then <| wpc_seq <| wpc_seq <| wpc_region <| wpl_q (q_pure rfl) rfl <| wpl_q (q_pure rfl) rfl <| wpl_q (q_pure rfl) rfl ?_
  refine wpl_bool2 35 34 rfl rfl (fun hb35 => ?_) (fun hb35 => ?_)
  ·
   have hE : stE f a b l ha 1 idx ≠ 0 := by simpa using hb35
   have hz : (stP f a b l ha s1 1 idx).hs.length = 0 := st_err hE
   have svz : SV b30.1 0 := by rw [← hz]; exact p30.1
   refine wpl_off rfl rfl rfl rfl <| wpl_off rfl rfl rfl rfl <| wpl_q (q_pure rfl) rfl <| wpl_nil <| ex_then ?_
   refine wpc_cond_t rfl ?_
   refine wpc_seq <| wpc_region <| wpl_q (q_pure rfl) rfl <| wpl_q (q_pure rfl) rfl <| wpl_on rfl rfl <| wpl_q (q_field Tryd.underlying29 rfl Tryd.ti27 rfl rfl _ rfl) rfl <| wpl_on rfl rfl <| wpl_q (q_ld Tryd.underlying27 rfl rfl (show (reP (stP f a b l ha s1 1 idx) b30).c[4]? = some b30.1 from rfl)) rfl <| wpl_on rfl rfl ?_
   refine wpl_q (q_lenW Tryd.underlying27 rfl zz4) rfl ?_
   refine wpl_on rfl rfl <| wpl_q (q_tru (q_eqI rfl rfl) rfl) rfl <| wpl_q (q_pure rfl) rfl <| wpl_q (q_pure rfl) rfl <| wpl_nil <| ex_then <| wpc_ret ?_
   refine ex_then_ret ?_
   refine ret1 (.inl rfl) rfl rfl ?_
   exact fun w h => ⟨rfl, h.below⟩
  ·
   have hE : stE f a b l ha 1 idx = 0 := by simpa using hb35
   obtain ⟨g1, l1, q1⟩ := st_gd hE p30.2
   have l1x : (reP (stP f a b l ha s1 1 idx) b30).hs.length = 1 := l1
   have hsl1 : (stP f a b l ha s1 1 idx).hs.length = 1 := hsl.trans l1
   have svp : SV b30.1 1 := by rw [← hsl1]; exact p30.1
   refine wpl_on rfl rfl <| wpl_q (q_pure rfl) rfl <| wpl_on rfl rfl <| wpl_q (q_pure rfl) rfl <| wpl_q (q_pure rfl) rfl <| wpl_nil <| ex_then ?_
   refine wpc_cond_f rfl ?_
   refine wpc_skip <| ex_then <| wpc_seq <| wpc_region <| wpl_q (q_ldN Tryd.underlying29 rfl Tryd.ti29 rfl LenC.h) rfl <| wpl_q (q_ldN Tryd.underlying68 rfl Tryd.ti68 rfl LenC.h) rfl <| wpl_q (q_ldN Tryd.underlying61 rfl Tryd.ti61 rfl LenC.h) rfl ?_
   refine wpl_tp (t_callPF Tryd.hb28 rfl fun w h => extend (reP (stP f a b l ha s1 1 idx) b30) hb s2 0 0 w (reP_seen p30.2 (h.seen_row zz6) (hopsF_at h zz6)) hsvhb (chk_small g1.1) (glob h hG) zz13) rfl (fun b50 p50 => ?_)
   haveI : OneC (reP (exP (reP (stP f a b l ha s1 1 idx) b30) hb s2 0 0) b50).c := reP_one p50.1
   have hql := p50.2.1
   refine wpl_q (q_pure rfl) rfl <| wpl_q (q_pure rfl) rfl <| wpl_q (q_pure rfl) rfl ?_
   refine wpl_t (t_alloc Tryd.ti29 Pth.z.c rfl) rfl (fun b18 => ?_)
   refine wpl_t0 (t_stA Tryd.ti29 rfl rfl LenC.h OneC.h LenC.h) (fun _ => ?_)
   refine wpl_q (q_pure rfl) rfl <| wpl_nil <| ex_then <| wpc_seq <| wpc_seq <| wpc_region <| wpl_q (q_pure rfl) rfl <| wpl_q (q_pure rfl) rfl <| wpl_nil <| ex_then ?_
   refine wpc_cond rfl (fun hc54 => ?_) (fun hc54 => ?_)
   ·
    have hX : exE (reP (stP f a b l ha s1 1 idx) b30) hb 0 0 ≠ 0 := by simpa using hc54
    have hfl : 1 < hb.fl.toNat := fl_err (h := hb.wa (lastTo (reP (stP f a b l ha s1 1 idx) b30))) (by rw [← exE_inv g1 zz13]; exact hX)
    refine wpc_seq <| wpc_region <| wpl_q (q_pure rfl) rfl <| wpl_q (q_pure rfl) rfl <| wpl_on rfl rfl <| wpl_q (q_field Tryd.underlying68 rfl Tryd.ti5 rfl rfl _ rfl) rfl <| wpl_on rfl rfl <| wpl_q (q_ld Tryd.underlying5 rfl rfl (Hop.c_fl _)) rfl <| wpl_on rfl rfl ?_
    refine wpl_q (q_tru (q_pure rfl) zz13) rfl ?_
    refine wpl_q (q_pure rfl) rfl <| wpl_q (q_pure rfl) rfl <| wpl_nil <| ex_then <| wpc_ret ?_
    refine ex_then_ret ?_
    refine ret1 (.inl rfl) rfl rfl ?_
    exact fun w h => ⟨rfl, h.below⟩
   ·
    have hX : exE (reP (stP f a b l ha s1 1 idx) b30) hb 0 0 = 0 := by simpa using hc54
    have t := chn_ok hE p30.2 hX p50.2
    have hql2 : (exP (reP (stP f a b l ha s1 1 idx) b30) hb s2 0 0).hs.length = 2 := hql.trans t.lq
    have l2x : b50.2.length = 2 := t.lq
    have svq : SV b50.1 2 := by rw [← hql2]; exact p50.1
    have smp := chk_small t.gp.1
    have smq := chk_small t.gq.1
    have hca := ha.cnt.toNat_lt
    have hcb := hb.cnt.toNat_lt
    refine wpc_skip <| ex_then <| wpc_seq <| wpc_seq <| wpc_region <| wpl_q (q_field Tryd.underlying29 rfl Tryd.ti27 rfl rfl _ rfl) rfl <| wpl_q (q_ld Tryd.underlying27 rfl rfl (show (reP (stP f a b l ha s1 1 idx) b30).c[4]? = some b30.1 from rfl)) rfl ?_
    refine wpl_q (q_lenW Tryd.underlying27 rfl zz4) rfl ?_
    refine wpl_q (q_bt (c := false) (q_neI rfl rfl) rfl) rfl ?_
    refine wpl_q (q_pure rfl) rfl <| wpl_on rfl rfl <| wpl_q (q_field Tryd.underlying29 rfl Tryd.ti27 rfl rfl _ rfl) rfl <| wpl_on rfl rfl <| wpl_q (q_ld Tryd.underlying27 rfl rfl (show (reP (exP (reP (stP f a b l ha s1 1 idx) b30) hb s2 0 0) b50).c[4]? = some b50.1 from rfl)) rfl <| wpl_on rfl rfl ?_
    refine wpl_q (q_lenW Tryd.underlying27 rfl zz4) rfl ?_
    refine wpl_on rfl rfl ?_
    refine wpl_q (q_bt (c := false) (q_neI rfl rfl) rfl) rfl ?_
    refine wpl_q (q_pure rfl) rfl <| wpl_q (q_pure rfl) rfl <| wpl_on rfl rfl <| wpl_q (q_ldN Tryd.underlying29 rfl Tryd.ti29 rfl LenC.h) rfl <| wpl_on rfl rfl ?_
    refine wpl_t (t_pur (v := .int .i64 0) Tryd.hb18 rfl fun w h => by
      have q := refCheck42 (reP (exP (reP (stP f a b l ha s1 1 idx) b30) hb s2 0 0) b50) w (reP_seen p50.2 (h.seen_row zz6) (hopsF_at h zz6))
      rwa [t.gq.1] at q) rfl (fun b73 => ?_)
    refine wpl_on rfl rfl ?_
    refine wpl_q (q_bt (c := false) (q_neI rfl rfl) rfl) rfl ?_
    refine wpl_q (q_pure rfl) rfl <| wpl_nil <| ex_then ?_
    refine wpc_cond_f rfl ?_
    refine wpc_skip <| ex_then <| wpc_seq ?_
    refine wpc_draw 99 zz5 (fun _ h => h.drew) ?_
    refine wpd_p 0 rfl zz5 trivial (q_field Tryd.underlying68 rfl Tryd.ti49 rfl rfl _ rfl) rfl sk0 ?_
    refine wpd_q 1 rfl zz5 trivial (q_ld Tryd.underlying49 rfl rfl (Hop.c_sy _)) rfl (fun _ h => h) ?_
    refine wpd_p 2 rfl zz5 trivial (q_field Tryd.underlying29 rfl Tryd.ti27 rfl rfl _ rfl) rfl sk0 ?_
    refine wpd_q 3 rfl zz5 trivial (q_ld Tryd.underlying27 rfl rfl (show (reP (exP (reP (stP f a b l ha s1 1 idx) b30) hb s2 0 0) b50).c[4]? = some b50.1 from rfl)) rfl (fun _ h => h) ?_
    refine wpd_p 4 rfl zz5 trivial (q_idxW (j := 0) Tryd.underlying27 Tryd.ti68 rfl rfl zz4 zz2) rfl sk0 ?_
    refine wpd_p 5 rfl zz5 trivial (q_fieldPo 4 Tryd.underlying68 rfl Tryd.ti63 rfl rfl rfl) rfl sk0 ?_
    refine wpd_q 6 rfl zz5 trivial (q_ldWFN Tryd.underlying63 rfl Tryd.ti63 rfl (fun w h => zz9) (b50.2.getD 0 Hop.z).key (hcs_key (l := b50.2) (i := 0) zz13) (Hop.key_length _)) rfl (fun _ h => h) ?_
    refine wpd_p 7 rfl zz5 trivial (q_build (cs := RK.c (k0 (reP (exP (reP (stP f a b l ha s1 1 idx) b30) hb s2 0 0) b50) ha)) rfl (built_rk ha.sy (b50.2.getD 0 Hop.z).root (b50.2.getD 0 Hop.z).ht)) rfl sk0 ?_
    refine wpd_p 8 rfl zz5 trivial (q_field Tryd.underlying68 rfl Tryd.ti49 rfl rfl _ rfl) rfl sk0 ?_
    refine wpd_q 9 rfl zz5 trivial (q_ld Tryd.underlying49 rfl rfl (Hop.c_to _)) rfl (fun _ h => h) ?_
    refine wpd_p 10 rfl zz5 trivial (q_field Tryd.underlying29 rfl Tryd.ti27 rfl rfl _ rfl) rfl sk0 ?_
    refine wpd_q 11 rfl zz5 trivial (q_ld Tryd.underlying27 rfl rfl (show (reP (exP (reP (stP f a b l ha s1 1 idx) b30) hb s2 0 0) b50).c[4]? = some b50.1 from rfl)) rfl (fun _ h => h) ?_
    refine wpd_p 12 rfl zz5 trivial (q_idxW (j := 1) Tryd.underlying27 Tryd.ti68 rfl rfl zz4 zz2) rfl sk0 ?_
    refine wpd_p 13 rfl zz5 trivial (q_fieldPo 4 Tryd.underlying68 rfl Tryd.ti63 rfl rfl rfl) rfl sk0 ?_
    refine wpd_q 14 rfl zz5 trivial (q_ldWFN Tryd.underlying63 rfl Tryd.ti63 rfl (fun w h => zz9) (b50.2.getD 1 Hop.z).key (hcs_key (l := b50.2) (i := 1) zz13) (Hop.key_length _)) rfl (fun _ h => h) ?_
    refine wpd_p 15 rfl zz5 trivial (q_build (cs := RK.c (k1 (reP (exP (reP (stP f a b l ha s1 1 idx) b30) hb s2 0 0) b50) ha)) rfl (built_rk ha.to (b50.2.getD 1 Hop.z).root (b50.2.getD 1 Hop.z).ht)) rfl sk0 ?_
    refine wpd_tp 16 rfl zz5 trivial (t_bsG [.agg (RK.c (k0 (reP (exP (reP (stP f a b l ha s1 1 idx) b30) hb s2 0 0) b50) ha)).toArray, .agg (RK.c (k1 (reP (exP (reP (stP f a b l ha s1 1 idx) b30) hb s2 0 0) b50) ha)).toArray] (rks [(k0 (reP (exP (reP (stP f a b l ha s1 1 idx) b30) hb s2 0 0) b50) ha), (k1 (reP (exP (reP (stP f a b l ha s1 1 idx) b30) hb s2 0 0) b50) ha)]) Tryd.underlying50 Tryd.ti80 rfl zz17 rfl zz17 zz17 rfl zz37 rfl) rfl (fun _ => (fun w h => .inr (h.sub SubC.h SubC.h))) (fun b92 p92 => ?_)
    refine wpd_p 17 rfl zz5 trivial (q_pure rfl) rfl (fun w h => .inr (h.sub SubC.h SubC.h)) ?_
    refine wpd_done zz5 ?_
    refine ex_then <| wpc_seq <| wpc_region <| wpl_q (q_ldN Tryd.underlying29 rfl Tryd.ti29 rfl LenC.h) rfl ?_
    refine wpl_tp (t_callP1 Tryd.hb15 rfl fun w h => systems (reP (exP (reP (stP f a b l ha s1 1 idx) b30) hb s2 0 0) b50) w (reP_seen p50.2 (h.seen_row zz6) (hopsF_at h zz6))) rfl (fun b95 p95 => ?_)
    refine wpl_q (q_pure rfl) rfl <| wpl_q (q_pure rfl) rfl <| wpl_q (q_pure rfl) rfl <| wpl_q (q_pure rfl) rfl <| wpl_q (q_pure rfl) rfl <| wpl_nil <| ex_then ?_
    refine wpc_cutc ({ x : Unit // True }) [(6, .int .u32 x.toNat), (8, .pointer (some ⟨b8, 0, none⟩)), (9, .pointer (some ⟨b9, 0, none⟩)), (15, .bool true), (16, .pointer (some ⟨b16, 0, none⟩)), (18, .pointer (some ⟨b18, 0, none⟩)), (20, b92)] (fun x Lc => Lc) (fun x => Mem w [] [.row b95 (sysV (reP (exP (reP (stP f a b l ha s1 1 idx) b30) hb s2 0 0) b50)).length 49 1 (v32s (sysV (reP (exP (reP (stP f a b l ha s1 1 idx) b30) hb s2 0 0) b50))), .row b92 2 80 18 (rks [(k0 (reP (exP (reP (stP f a b l ha s1 1 idx) b30) hb s2 0 0) b50) ha), (k1 (reP (exP (reP (stP f a b l ha s1 1 idx) b30) hb s2 0 0) b50) ha)]), .blk b18 29 (reP (exP (reP (stP f a b l ha s1 1 idx) b30) hb s2 0 0) b50).c, .row b50.1 (exP (reP (stP f a b l ha s1 1 idx) b30) hb s2 0 0).hs.length 68 24 (hcs b50.2), .blk b16 29 (reP (stP f a b l ha s1 1 idx) b30).c, .row b30.1 (stP f a b l ha s1 1 idx).hs.length 68 24 (hcs b30.2), .blk b11 61 (v8s s2.1), .blk b10 61 (v8s s1.1), .blk b9 68 hb.c, .blk b8 68 ha.c, .blk b7 26 (pfL f a b l)] [hopsF b50.2, hopsF b30.2]) ?_ ?_
    ·
     refine wpc_seq <| wpc_region <| wpl_q (q_field Tryd.underlying68 rfl Tryd.ti5 rfl rfl _ rfl) rfl <| wpl_q (q_ld Tryd.underlying5 rfl rfl (Hop.c_cnt _)) rfl <| wpl_q (q8_int Tryd.underlying5 Tryd.underlying3 rfl) rfl <| wpl_q (q_field Tryd.underlying68 rfl Tryd.ti5 rfl rfl _ rfl) rfl <| wpl_q (q_ld Tryd.underlying5 rfl rfl (Hop.c_cnt _)) rfl <| wpl_q (q8_int Tryd.underlying5 Tryd.underlying3 rfl) rfl ?_
     refine wpl_q (q_addN rfl rfl zz2) rfl ?_
     refine wpl_q (q_pure rfl) rfl <| wpl_nil <| ex_then ?_
     refine wpc_cond rfl (fun hc105 => ?_) (fun hc105 => ?_)
     ·
      have hs30 : ha.cnt.toNat + hb.cnt.toNat ≤ 30 := by simp only [decide_eq_true_eq] at hc105; omega
      have hsE := (t.sys hs30).1
      have hsL := t.len hs30
      refine wpc_seq <| wpc_seq <| wpc_region <| wpl_q (q_pure rfl) rfl ?_
      refine wpl_q (q_bt (c := false) (q_neI rfl rfl) (by rw [hsE]; rfl)) rfl ?_
      refine wpl_q (q_pure rfl) rfl <| wpl_on rfl rfl <| wpl_q (q_pure rfl) rfl <| wpl_on rfl rfl ?_
      refine wpl_q (q_lenW Tryd.underlying38 rfl zz4) rfl ?_
      refine wpl_on rfl rfl <| wpl_q (q_field Tryd.underlying68 rfl Tryd.ti5 rfl rfl _ rfl) rfl <| wpl_on rfl rfl <| wpl_q (q_ld Tryd.underlying5 rfl rfl (Hop.c_cnt _)) rfl <| wpl_on rfl rfl <| wpl_q (q8_int Tryd.underlying5 Tryd.underlying3 rfl) rfl <| wpl_on rfl rfl <| wpl_q (q_field Tryd.underlying68 rfl Tryd.ti5 rfl rfl _ rfl) rfl <| wpl_on rfl rfl <| wpl_q (q_ld Tryd.underlying5 rfl rfl (Hop.c_cnt _)) rfl <| wpl_on rfl rfl <| wpl_q (q8_int Tryd.underlying5 Tryd.underlying3 rfl) rfl ?_
      refine wpl_on rfl rfl ?_
      refine wpl_q (q_addN rfl rfl zz2) rfl ?_
      refine wpl_on rfl rfl ?_
      refine wpl_q (q_bt (c := false) (q_neI rfl rfl) (by rw [decide_eq_true zz13]; rfl)) rfl ?_
      refine wpl_q (q_pure rfl) rfl <| wpl_nil <| ex_then ?_
      refine wpc_cond_f rfl ?_
      refine wpc_skip <| ex_then <| wpc_seq <| wpc_region <| wpl_q (q_pure rfl) rfl <| wpl_nil <| ex_then <| wpc_block ?_
      refine wpc_loopc (ι := { x : Nat // (x ≤ (sysV (reP (exP (reP (stP f a b l ha s1 1 idx) b30) hb s2 0 0) b50)).length) }) [(6, _), (8, _), (9, _), (15, _), (16, _), (18, _), (20, _)] (fun x Lc => (23, .int .i64 ((x.1 : Nat) : Int)) :: (21, b95) :: Lc) (fun x => Mem w [] [.row b95 (sysV (reP (exP (reP (stP f a b l ha s1 1 idx) b30) hb s2 0 0) b50)).length 49 1 (v32s (sysV (reP (exP (reP (stP f a b l ha s1 1 idx) b30) hb s2 0 0) b50))), .row b92 2 80 18 (rks [(k0 (reP (exP (reP (stP f a b l ha s1 1 idx) b30) hb s2 0 0) b50) ha), (k1 (reP (exP (reP (stP f a b l ha s1 1 idx) b30) hb s2 0 0) b50) ha)]), .blk b18 29 (reP (exP (reP (stP f a b l ha s1 1 idx) b30) hb s2 0 0) b50).c, .row b50.1 (exP (reP (stP f a b l ha s1 1 idx) b30) hb s2 0 0).hs.length 68 24 (hcs b50.2), .blk b16 29 (reP (stP f a b l ha s1 1 idx) b30).c, .row b30.1 (stP f a b l ha s1 1 idx).hs.length 68 24 (hcs b30.2), .blk b11 61 (v8s s2.1), .blk b10 61 (v8s s1.1), .blk b9 68 hb.c, .blk b8 68 ha.c, .blk b7 26 (pfL f a b l)] [hopsF b50.2, hopsF b30.2]) (fun x => (sysV (reP (exP (reP (stP f a b l ha s1 1 idx) b30) hb s2 0 0) b50)).length - x.1) ⟨0, Nat.zero_le _⟩ zz10 ?_ ?_
      ·
       exact fun w h => h
      ·
       rintro ⟨i, hi0⟩; try dsimp only
       have hi0 : i ≤ (sysV (reP (exP (reP (stP f a b l ha s1 1 idx) b30) hb s2 0 0) b50)).length := hi0
       refine wpc_seq <| wpc_seq <| wpc_region <| wpl_q (q_pure rfl) rfl <| wpl_q (q_pure rfl) rfl ?_
       refine wpl_q (q_lenW Tryd.underlying38 rfl zz4) rfl ?_
       refine wpl_q (q_pure rfl) rfl <| wpl_nil <| ex_then ?_
       refine wpc_cond rfl (fun hc123 => ?_) (fun hc123 => ?_)
       ·
        simp only [decide_eq_true_eq] at hc123
        have hil : i < (sysV (reP (exP (reP (stP f a b l ha s1 1 idx) b30) hb s2 0 0) b50)).length := by omega
        refine wpc_skip <| ex_then <| wpc_seq <| wpc_block <| wpc_seq ?_
        refine wpc_draw 30 zz5 (fun _ h => h.drew) ?_
        refine wpd_p 0 rfl zz5 trivial (q_pure rfl) rfl sk0 ?_
        refine wpd_p 1 rfl zz5 trivial (q_field Tryd.underlying68 rfl Tryd.ti5 rfl rfl _ rfl) rfl sk0 ?_
        refine wpd_q 2 rfl zz5 trivial (q_ld Tryd.underlying5 rfl rfl (Hop.c_cnt _)) rfl (fun _ h => h) ?_
        refine wpd_p 3 rfl zz5 trivial (q8_int Tryd.underlying5 Tryd.underlying3 rfl) rfl sk0 ?_
        refine wpd_p 4 rfl zz5 trivial (q_pure rfl) rfl sk0 ?_
        refine wpd_p 5 rfl zz5 trivial (q_pure rfl) rfl sk0 ?_
        refine wpd_bool2 131 130 rfl rfl (fun hb131 => ?_) (fun hb131 => ?_)
        ·
         have hib : i < hb.cnt.toNat := by have := of_decide_eq_true hb131; omega
         refine wpd_p 6 rfl zz5 ⟨_, rfl, rfl⟩ (q_pure rfl) rfl sk0 ?_
         refine wpd_p 7 rfl zz5 ⟨_, rfl, rfl⟩ (q_pure rfl) rfl sk0 ?_
         refine wpd_p 8 rfl zz5 ⟨_, rfl, rfl⟩ (q_idxW1 Tryd.underlying38 Tryd.ti49 rfl rfl zz4 zz2) rfl sk0 ?_
         refine wpd_q 9 rfl zz5 ⟨_, rfl, rfl⟩ (q_ldW Tryd.underlying49 rfl rfl (fun w h => zz9) (by first | exact v32s_get zz7 | rfl)) rfl (fun _ h => h) ?_
         refine wpd_p 10 rfl zz5 ⟨_, rfl, rfl⟩ (q_field Tryd.underlying68 rfl Tryd.ti49 rfl rfl _ rfl) rfl sk0 ?_
         refine wpd_q 11 rfl zz5 ⟨_, rfl, rfl⟩ (q_ld Tryd.underlying49 rfl rfl (Hop.c_to _)) rfl (fun _ h => h) ?_
         refine wpd_p 12 rfl zz5 ⟨_, rfl, rfl⟩ (q_bt (c := false) (q32_neq rfl rfl) (by rw [decide_eq_true (t.lo hs30 hib)]; rfl)) rfl sk0 ?_
         refine wpd_p 13 rfl zz5 trivial (q_pure rfl) rfl sk0 ?_
         refine wpd_p 14 rfl zz5 trivial (q_pure rfl) rfl sk0 ?_
         refine wpd_p 15 rfl zz5 ⟨_, rfl, rfl⟩ (q_pure rfl) rfl sk0 ?_
         refine wpd_p 16 rfl zz5 ⟨_, rfl, rfl⟩ (q_field Tryd.underlying68 rfl Tryd.ti5 rfl rfl _ rfl) rfl sk0 ?_
         refine wpd_q 17 rfl zz5 ⟨_, rfl, rfl⟩ (q_ld Tryd.underlying5 rfl rfl (Hop.c_cnt _)) rfl (fun _ h => h) ?_
         refine wpd_p 18 rfl zz5 ⟨_, rfl, rfl⟩ (q8_int Tryd.underlying5 Tryd.underlying3 rfl) rfl sk0 ?_
         refine wpd_p 19 rfl zz5 ⟨_, rfl, rfl⟩ (q_pure rfl) rfl sk0 ?_
         refine wpd_p 20 rfl zz5 ⟨_, rfl, rfl⟩ (q_pure rfl) rfl sk0 ?_
         refine wpd_bool2 146 145 rfl rfl (fun hb146 => ?_) (fun hb146 => ?_)
         ·
          have hig : hb.cnt.toNat ≤ i := by have := of_decide_eq_true hb146; omega
          refine wpd_p 21 rfl zz5 ⟨_, rfl, rfl⟩ (q_pure rfl) rfl sk0 ?_
          refine wpd_p 22 rfl zz5 ⟨_, rfl, rfl⟩ (q_pure rfl) rfl sk0 ?_
          refine wpd_p 23 rfl zz5 ⟨_, rfl, rfl⟩ (q_idxW1 Tryd.underlying38 Tryd.ti49 rfl rfl zz4 zz2) rfl sk0 ?_
          refine wpd_q 24 rfl zz5 ⟨_, rfl, rfl⟩ (q_ldW Tryd.underlying49 rfl rfl (fun w h => zz9) (by first | exact v32s_get zz7 | rfl)) rfl (fun _ h => h) ?_
          refine wpd_p 25 rfl zz5 ⟨_, rfl, rfl⟩ (q_field Tryd.underlying68 rfl Tryd.ti49 rfl rfl _ rfl) rfl sk0 ?_
          refine wpd_q 26 rfl zz5 ⟨_, rfl, rfl⟩ (q_ld Tryd.underlying49 rfl rfl (Hop.c_sy _)) rfl (fun _ h => h) ?_
          refine wpd_p 27 rfl zz5 ⟨_, rfl, rfl⟩ (q_bt (c := false) (q32_neq rfl rfl) (by first | (rw [decide_eq_true (t.hi hs30 zz13 hil)]; rfl) | (exfalso; omega))) rfl sk0 ?_
          refine wpd_p 28 rfl zz5 ⟨_, rfl, rfl⟩ (q_pure rfl) rfl sk0 ?_
          refine wpd_p 29 rfl zz5 trivial (q_pure rfl) rfl sk0 ?_
          refine wpd_done zz5 ?_
          refine ex_then ?_
          refine wpc_cond_f rfl ?_
          refine wpc_skip <| ex_block <| ex_then <| wpc_region <| wpl_q (q_pure rfl) rfl ?_
          refine wpl_q (q_addN (b := 1) rfl rfl zz2) rfl ?_
          refine wpl_q (q_pure rfl) rfl <| wpl_nil ?_
          refine ex_again ⟨i + 1, (show i + 1 ≤ (sysV (reP (exP (reP (stP f a b l ha s1 1 idx) b30) hb s2 0 0) b50)).length from zz13)⟩ ?_ ?_ ?_
          ·
           exact zz10
          ·
           exact fun w h => by first | exact h | exact h.sub SubC.h SubC.h | exact h.sub zz8 zz8
          ·
           (show (sysV (reP (exP (reP (stP f a b l ha s1 1 idx) b30) hb s2 0 0) b50)).length - (i + 1) < (sysV (reP (exP (reP (stP f a b l ha s1 1 idx) b30) hb s2 0 0) b50)).length - i); omega
         ·
          refine wpd_off 21 rfl zz5 ⟨_, _, rfl, rfl, rfl⟩ rfl sk0 ?_
          refine wpd_off 22 rfl zz5 ⟨_, _, rfl, rfl, rfl⟩ rfl sk0 ?_
          refine wpd_off 23 rfl zz5 ⟨_, _, rfl, rfl, rfl⟩ rfl sk0 ?_
          refine wpd_off 24 rfl zz5 ⟨_, _, rfl, rfl, rfl⟩ rfl sk0 ?_
          refine wpd_off 25 rfl zz5 ⟨_, _, rfl, rfl, rfl⟩ rfl sk0 ?_
          refine wpd_off 26 rfl zz5 ⟨_, _, rfl, rfl, rfl⟩ rfl sk0 ?_
          refine wpd_off 27 rfl zz5 ⟨_, _, rfl, rfl, rfl⟩ rfl sk0 ?_
          refine wpd_p 28 rfl zz5 ⟨_, rfl, rfl⟩ (q_pure rfl) rfl sk0 ?_
          refine wpd_p 29 rfl zz5 trivial (q_pure rfl) rfl sk0 ?_
          refine wpd_done zz5 ?_
          refine ex_then ?_
          refine wpc_cond_f rfl ?_
          refine wpc_skip <| ex_block <| ex_then <| wpc_region <| wpl_q (q_pure rfl) rfl ?_
          refine wpl_q (q_addN (b := 1) rfl rfl zz2) rfl ?_
          refine wpl_q (q_pure rfl) rfl <| wpl_nil ?_
          refine ex_again ⟨i + 1, (show i + 1 ≤ (sysV (reP (exP (reP (stP f a b l ha s1 1 idx) b30) hb s2 0 0) b50)).length from zz13)⟩ ?_ ?_ ?_
          ·
           exact zz10
          ·
           exact fun w h => by first | exact h | exact h.sub SubC.h SubC.h | exact h.sub zz8 zz8
          ·
           (show (sysV (reP (exP (reP (stP f a b l ha s1 1 idx) b30) hb s2 0 0) b50)).length - (i + 1) < (sysV (reP (exP (reP (stP f a b l ha s1 1 idx) b30) hb s2 0 0) b50)).length - i); omega
        ·
         have hib : ¬ i < hb.cnt.toNat := by have := of_decide_eq_false hb131; omega
         refine wpd_off 6 rfl zz5 ⟨_, _, rfl, rfl, rfl⟩ rfl sk0 ?_
         refine wpd_off 7 rfl zz5 ⟨_, _, rfl, rfl, rfl⟩ rfl sk0 ?_
         refine wpd_off 8 rfl zz5 ⟨_, _, rfl, rfl, rfl⟩ rfl sk0 ?_
         refine wpd_off 9 rfl zz5 ⟨_, _, rfl, rfl, rfl⟩ rfl sk0 ?_
         refine wpd_off 10 rfl zz5 ⟨_, _, rfl, rfl, rfl⟩ rfl sk0 ?_
         refine wpd_off 11 rfl zz5 ⟨_, _, rfl, rfl, rfl⟩ rfl sk0 ?_
         refine wpd_off 12 rfl zz5 ⟨_, _, rfl, rfl, rfl⟩ rfl sk0 ?_
         refine wpd_p 13 rfl zz5 trivial (q_pure rfl) rfl sk0 ?_
         refine wpd_p 14 rfl zz5 trivial (q_pure rfl) rfl sk0 ?_
         refine wpd_p 15 rfl zz5 ⟨_, rfl, rfl⟩ (q_pure rfl) rfl sk0 ?_
         refine wpd_p 16 rfl zz5 ⟨_, rfl, rfl⟩ (q_field Tryd.underlying68 rfl Tryd.ti5 rfl rfl _ rfl) rfl sk0 ?_
         refine wpd_q 17 rfl zz5 ⟨_, rfl, rfl⟩ (q_ld Tryd.underlying5 rfl rfl (Hop.c_cnt _)) rfl (fun _ h => h) ?_
         refine wpd_p 18 rfl zz5 ⟨_, rfl, rfl⟩ (q8_int Tryd.underlying5 Tryd.underlying3 rfl) rfl sk0 ?_
         refine wpd_p 19 rfl zz5 ⟨_, rfl, rfl⟩ (q_pure rfl) rfl sk0 ?_
         refine wpd_p 20 rfl zz5 ⟨_, rfl, rfl⟩ (q_pure rfl) rfl sk0 ?_
         refine wpd_bool2 146 145 rfl rfl (fun hb146 => ?_) (fun hb146 => ?_)
         ·
          have hig : hb.cnt.toNat ≤ i := by have := of_decide_eq_true hb146; omega
          refine wpd_p 21 rfl zz5 ⟨_, rfl, rfl⟩ (q_pure rfl) rfl sk0 ?_
          refine wpd_p 22 rfl zz5 ⟨_, rfl, rfl⟩ (q_pure rfl) rfl sk0 ?_
          refine wpd_p 23 rfl zz5 ⟨_, rfl, rfl⟩ (q_idxW1 Tryd.underlying38 Tryd.ti49 rfl rfl zz4 zz2) rfl sk0 ?_
          refine wpd_q 24 rfl zz5 ⟨_, rfl, rfl⟩ (q_ldW Tryd.underlying49 rfl rfl (fun w h => zz9) (by first | exact v32s_get zz7 | rfl)) rfl (fun _ h => h) ?_
          refine wpd_p 25 rfl zz5 ⟨_, rfl, rfl⟩ (q_field Tryd.underlying68 rfl Tryd.ti49 rfl rfl _ rfl) rfl sk0 ?_
          refine wpd_q 26 rfl zz5 ⟨_, rfl, rfl⟩ (q_ld Tryd.underlying49 rfl rfl (Hop.c_sy _)) rfl (fun _ h => h) ?_
          refine wpd_p 27 rfl zz5 ⟨_, rfl, rfl⟩ (q_bt (c := false) (q32_neq rfl rfl) (by first | (rw [decide_eq_true (t.hi hs30 zz13 hil)]; rfl) | (exfalso; omega))) rfl sk0 ?_
          refine wpd_p 28 rfl zz5 ⟨_, rfl, rfl⟩ (q_pure rfl) rfl sk0 ?_
          refine wpd_p 29 rfl zz5 trivial (q_pure rfl) rfl sk0 ?_
          refine wpd_done zz5 ?_
          refine ex_then ?_
          refine wpc_cond_f rfl ?_
          refine wpc_skip <| ex_block <| ex_then <| wpc_region <| wpl_q (q_pure rfl) rfl ?_
          refine wpl_q (q_addN (b := 1) rfl rfl zz2) rfl ?_
          refine wpl_q (q_pure rfl) rfl <| wpl_nil ?_
          refine ex_again ⟨i + 1, (show i + 1 ≤ (sysV (reP (exP (reP (stP f a b l ha s1 1 idx) b30) hb s2 0 0) b50)).length from zz13)⟩ ?_ ?_ ?_
          ·
           exact zz10
          ·
           exact fun w h => by first | exact h | exact h.sub SubC.h SubC.h | exact h.sub zz8 zz8
          ·
           (show (sysV (reP (exP (reP (stP f a b l ha s1 1 idx) b30) hb s2 0 0) b50)).length - (i + 1) < (sysV (reP (exP (reP (stP f a b l ha s1 1 idx) b30) hb s2 0 0) b50)).length - i); omega
         ·
          refine wpd_off 21 rfl zz5 ⟨_, _, rfl, rfl, rfl⟩ rfl sk0 ?_
          refine wpd_off 22 rfl zz5 ⟨_, _, rfl, rfl, rfl⟩ rfl sk0 ?_
          refine wpd_off 23 rfl zz5 ⟨_, _, rfl, rfl, rfl⟩ rfl sk0 ?_
          refine wpd_off 24 rfl zz5 ⟨_, _, rfl, rfl, rfl⟩ rfl sk0 ?_
          refine wpd_off 25 rfl zz5 ⟨_, _, rfl, rfl, rfl⟩ rfl sk0 ?_
          refine wpd_off 26 rfl zz5 ⟨_, _, rfl, rfl, rfl⟩ rfl sk0 ?_
          refine wpd_off 27 rfl zz5 ⟨_, _, rfl, rfl, rfl⟩ rfl sk0 ?_
          refine wpd_p 28 rfl zz5 ⟨_, rfl, rfl⟩ (q_pure rfl) rfl sk0 ?_
          refine wpd_p 29 rfl zz5 trivial (q_pure rfl) rfl sk0 ?_
          refine wpd_done zz5 ?_
          refine ex_then ?_
          refine wpc_cond_f rfl ?_
          refine wpc_skip <| ex_block <| ex_then <| wpc_region <| wpl_q (q_pure rfl) rfl ?_
          refine wpl_q (q_addN (b := 1) rfl rfl zz2) rfl ?_
          refine wpl_q (q_pure rfl) rfl <| wpl_nil ?_
          refine ex_again ⟨i + 1, (show i + 1 ≤ (sysV (reP (exP (reP (stP f a b l ha s1 1 idx) b30) hb s2 0 0) b50)).length from zz13)⟩ ?_ ?_ ?_
          ·
           exact zz10
          ·
           exact fun w h => by first | exact h | exact h.sub SubC.h SubC.h | exact h.sub zz8 zz8
          ·
           (show (sysV (reP (exP (reP (stP f a b l ha s1 1 idx) b30) hb s2 0 0) b50)).length - (i + 1) < (sysV (reP (exP (reP (stP f a b l ha s1 1 idx) b30) hb s2 0 0) b50)).length - i); omega
       ·
        refine wpc_exit ?_
        refine ex_then_exit ?_
        refine ex_then_exit ?_
        refine ex_block_hit ?_
        refine ex_mid ⟨(), trivial⟩ ?_ ?_
        ·
         exact zz10
        ·
         exact fun w h => by first | exact h | exact h.sub SubC.h SubC.h | exact h.sub zz8 zz8
     ·
      refine wpc_skip ?_
      refine ex_mid ⟨(), trivial⟩ ?_ ?_
      ·
       exact zz10
      ·
       exact fun w h => by first | exact h | exact h.sub SubC.h SubC.h | exact h.sub zz8 zz8
    ·
     rintro ⟨_, _⟩; try dsimp only
     refine wpc_seq ?_
     refine wpc_draw 99 zz5 (fun _ h => h.drew) ?_
     refine wpd_p 0 rfl zz5 trivial (q_pure rfl) rfl sk0 ?_
     refine wpd_p 1 rfl zz5 trivial (q_pure rfl) rfl sk0 ?_
     refine wpd_q 2 rfl zz5 ⟨_, rfl, rfl⟩ (q_ldN Tryd.underlying29 rfl Tryd.ti29 rfl LenC.h) rfl (fun _ h => h) ?_
     refine wpd_p 3 rfl zz5 ⟨_, rfl, rfl⟩ (q_field Tryd.underlying68 rfl Tryd.ti49 rfl rfl _ rfl) rfl sk0 ?_
     refine wpd_q 4 rfl zz5 ⟨_, rfl, rfl⟩ (q_ld Tryd.underlying49 rfl rfl (Hop.c_to _)) rfl (fun _ h => h) ?_
     refine wpd_p 5 rfl zz5 ⟨_, rfl, rfl⟩ (q_pure rfl) rfl sk0 ?_
     refine wpd_p 6 rfl zz5 ⟨_, rfl, rfl⟩ (q_idxW (j := 0) Tryd.underlying50 Tryd.ti80 rfl rfl zz4 zz2) rfl sk0 ?_
     refine wpd_q 7 rfl zz5 ⟨_, rfl, rfl⟩ (q_ldWN Tryd.underlying80 rfl Tryd.ti80 rfl (fun w h => zz9) (RK.c (k0 (reP (exP (reP (stP f a b l ha s1 1 idx) b30) hb s2 0 0) b50) ha)) (cat_part (l := [(k0 (reP (exP (reP (stP f a b l ha s1 1 idx) b30) hb s2 0 0) b50) ha), (k1 (reP (exP (reP (stP f a b l ha s1 1 idx) b30) hb s2 0 0) b50) ha)]) (i := 0) RK.c_length RK.z (Nat.le_of_ble_eq_true rfl)) (RK.c_length _)) rfl (fun _ h => h) ?_
     refine wpd_tp 8 rfl zz5 ⟨_, rfl, rfl⟩ (t_bsG [.agg (RK.c (k0 (reP (exP (reP (stP f a b l ha s1 1 idx) b30) hb s2 0 0) b50) ha)).toArray] (rks [(k0 (reP (exP (reP (stP f a b l ha s1 1 idx) b30) hb s2 0 0) b50) ha)]) Tryd.underlying50 Tryd.ti80 rfl zz17 rfl zz17 zz17 rfl zz24 rfl) rfl (fun _ => (fun w h => .inr (h.sub SubC.h SubC.h))) (fun b164 p164 => ?_)
     refine wpd_t 9 rfl zz5 ⟨_, rfl, rfl⟩ (t_pur (v := .bool true) Tryd.hb33 rfl fun w h => by
       have q := is_ (reP (stP f a b l ha s1 1 idx) b30) ha.to 1 b164 [(k0 (reP (exP (reP (stP f a b l ha s1 1 idx) b30) hb s2 0 0) b50) ha)] w (reP_seen p30.2 (h.seen_row zz6) (hopsF_at h zz6)) (h.seen_row zz6) smp (glob h hG) (Nat.le_of_ble_eq_true rfl)
       rwa [decide_eq_true (t.c1)] at q) rfl (fun _ => (fun w h => .inr (h.sub SubC.h SubC.h))) (fun b165 => ?_)
     refine wpd_p 10 rfl zz5 trivial (q_pure rfl) rfl (fun w h => .inr (h.sub SubC.h SubC.h)) ?_
     refine wpd_p 11 rfl zz5 trivial (q_pure rfl) rfl (fun w h => .inr (h.sub SubC.h SubC.h)) ?_
     refine wpd_q 12 rfl zz5 ⟨_, rfl, rfl⟩ (q_ldN Tryd.underlying29 rfl Tryd.ti29 rfl LenC.h) rfl (fun w h => h.sub SubC.h SubC.h) ?_
     refine wpd_p 13 rfl zz5 ⟨_, rfl, rfl⟩ (q_field Tryd.underlying68 rfl Tryd.ti49 rfl rfl _ rfl) rfl (fun w h => .inr (h.sub SubC.h SubC.h)) ?_
     refine wpd_q 14 rfl zz5 ⟨_, rfl, rfl⟩ (q_ld Tryd.underlying49 rfl rfl (Hop.c_to _)) rfl (fun w h => h.sub SubC.h SubC.h) ?_
     refine wpd_p 15 rfl zz5 ⟨_, rfl, rfl⟩ (q_pure rfl) rfl (fun w h => .inr (h.sub SubC.h SubC.h)) ?_
     refine wpd_t 16 rfl zz5 ⟨_, rfl, rfl⟩ (t_pur (v := .bool true) Tryd.hb33 rfl fun w h => by
       have q := is_ (reP (exP (reP (stP f a b l ha s1 1 idx) b30) hb s2 0 0) b50) hb.to 1 b92 [(k0 (reP (exP (reP (stP f a b l ha s1 1 idx) b30) hb s2 0 0) b50) ha), (k1 (reP (exP (reP (stP f a b l ha s1 1 idx) b30) hb s2 0 0) b50) ha)] w (reP_seen p50.2 (h.seen_row zz6) (hopsF_at h zz6)) (h.seen_row zz6) smq (glob h hG) (Nat.le_of_ble_eq_true rfl)
       rwa [decide_eq_true (t.c2)] at q) rfl (fun _ => (fun w h => .inr (h.sub SubC.h SubC.h))) (fun b172 => ?_)
     refine wpd_p 17 rfl zz5 trivial (q_pure rfl) rfl (fun w h => .inr (h.sub SubC.h SubC.h)) ?_
     refine wpd_p 18 rfl zz5 trivial (q_pure rfl) rfl (fun w h => .inr (h.sub SubC.h SubC.h)) ?_
     refine wpd_p 19 rfl zz5 ⟨_, rfl, rfl⟩ (q_pure rfl) rfl (fun w h => .inr (h.sub SubC.h SubC.h)) ?_
     refine wpd_p 20 rfl zz5 ⟨_, rfl, rfl⟩ (q_field Tryd.underlying68 rfl Tryd.ti49 rfl rfl _ rfl) rfl (fun w h => .inr (h.sub SubC.h SubC.h)) ?_
     refine wpd_q 21 rfl zz5 ⟨_, rfl, rfl⟩ (q_ld Tryd.underlying49 rfl rfl (Hop.c_to _)) rfl (fun w h => h.sub SubC.h SubC.h) ?_
     refine wpd_p 22 rfl zz5 ⟨_, rfl, rfl⟩ (q32_eql rfl rfl) rfl (fun w h => .inr (h.sub SubC.h SubC.h)) ?_
     refine wpd_p 23 rfl zz5 ⟨_, rfl, rfl⟩ (q_pure rfl) rfl (fun w h => .inr (h.sub SubC.h SubC.h)) ?_
     refine wpd_bool2 179 178 rfl rfl (fun hb179 => ?_) (fun hb179 => ?_)
     ·
      refine wpd_off 24 rfl zz5 ⟨_, _, rfl, rfl, rfl⟩ rfl (fun w h => .inr (h.sub SubC.h SubC.h)) ?_
      refine wpd_off 25 rfl zz5 ⟨_, _, rfl, rfl, rfl⟩ rfl (fun w h => .inr (h.sub SubC.h SubC.h)) ?_
      refine wpd_off 26 rfl zz5 ⟨_, _, rfl, rfl, rfl⟩ rfl (fun w h => .inr (h.sub SubC.h SubC.h)) ?_
      refine wpd_off 27 rfl zz5 ⟨_, _, rfl, rfl, rfl⟩ rfl (fun w h => .inr (h.sub SubC.h SubC.h)) ?_
      refine wpd_p 28 rfl zz5 ⟨_, rfl, rfl⟩ (q_pure rfl) rfl (fun w h => .inr (h.sub SubC.h SubC.h)) ?_
      refine wpd_p 29 rfl zz5 trivial (q_pure rfl) rfl (fun w h => .inr (h.sub SubC.h SubC.h)) ?_
      refine wpd_p 30 rfl zz5 trivial (q_pure rfl) rfl (fun w h => .inr (h.sub SubC.h SubC.h)) ?_
      refine wpd_p 31 rfl zz5 ⟨_, rfl, rfl⟩ (q_pure rfl) rfl (fun w h => .inr (h.sub SubC.h SubC.h)) ?_
      refine wpd_p 32 rfl zz5 ⟨_, rfl, rfl⟩ (q_idxW (j := 0) Tryd.underlying50 Tryd.ti80 rfl rfl zz4 zz2) rfl (fun w h => .inr (h.sub SubC.h SubC.h)) ?_
      refine wpd_q 33 rfl zz5 ⟨_, rfl, rfl⟩ (q_ldWN Tryd.underlying80 rfl Tryd.ti80 rfl (fun w h => zz9) (RK.c (k0 (reP (exP (reP (stP f a b l ha s1 1 idx) b30) hb s2 0 0) b50) ha)) (cat_part (l := [(k0 (reP (exP (reP (stP f a b l ha s1 1 idx) b30) hb s2 0 0) b50) ha), (k1 (reP (exP (reP (stP f a b l ha s1 1 idx) b30) hb s2 0 0) b50) ha)]) (i := 0) RK.c_length RK.z (Nat.le_of_ble_eq_true rfl)) (RK.c_length _)) rfl (fun w h => h.sub SubC.h SubC.h) ?_
      refine wpd_p 34 rfl zz5 ⟨_, rfl, rfl⟩ (q_pure rfl) rfl (fun w h => .inr (h.sub SubC.h SubC.h)) ?_
      refine wpd_p 35 rfl zz5 ⟨_, rfl, rfl⟩ (q_idxW (j := 1) Tryd.underlying50 Tryd.ti80 rfl rfl zz4 zz2) rfl (fun w h => .inr (h.sub SubC.h SubC.h)) ?_
      refine wpd_q 36 rfl zz5 ⟨_, rfl, rfl⟩ (q_ldWN Tryd.underlying80 rfl Tryd.ti80 rfl (fun w h => zz9) (RK.c (k1 (reP (exP (reP (stP f a b l ha s1 1 idx) b30) hb s2 0 0) b50) ha)) (cat_part (l := [(k0 (reP (exP (reP (stP f a b l ha s1 1 idx) b30) hb s2 0 0) b50) ha), (k1 (reP (exP (reP (stP f a b l ha s1 1 idx) b30) hb s2 0 0) b50) ha)]) (i := 1) RK.c_length RK.z (Nat.le_of_ble_eq_true rfl)) (RK.c_length _)) rfl (fun w h => h.sub SubC.h SubC.h) ?_
      refine wpd_q 37 rfl zz5 ⟨_, rfl, rfl⟩ (q_eqRK rfl rfl) rfl (fun w h => h.sub SubC.h SubC.h) ?_
      refine wpd_p 38 rfl zz5 ⟨_, rfl, rfl⟩ (q_pure rfl) rfl (fun w h => .inr (h.sub SubC.h SubC.h)) ?_
      refine wpd_bool2 194 193 rfl rfl (fun hb194 => ?_) (fun hb194 => ?_)
      ·
       refine wpd_off 39 rfl zz5 ⟨_, _, rfl, rfl, rfl⟩ rfl (fun w h => .inr (h.sub SubC.h SubC.h)) ?_
       refine wpd_off 40 rfl zz5 ⟨_, _, rfl, rfl, rfl⟩ rfl (fun w h => .inr (h.sub SubC.h SubC.h)) ?_
       refine wpd_off 41 rfl zz5 ⟨_, _, rfl, rfl, rfl⟩ rfl (fun w h => .inr (h.sub SubC.h SubC.h)) ?_
       refine wpd_off 42 rfl zz5 ⟨_, _, rfl, rfl, rfl⟩ rfl (fun w h => .inr (h.sub SubC.h SubC.h)) ?_
       refine wpd_off 43 rfl zz5 ⟨_, _, rfl, rfl, rfl⟩ rfl (fun w h => .inr (h.sub SubC.h SubC.h)) ?_
       refine wpd_off 44 rfl zz5 ⟨_, _, rfl, rfl, rfl⟩ rfl (fun w h => .inr (h.sub SubC.h SubC.h)) ?_
       refine wpd_off 45 rfl zz5 ⟨_, _, rfl, rfl, rfl⟩ rfl (fun w h => .inr (h.sub SubC.h SubC.h)) ?_
       refine wpd_off 46 rfl zz5 ⟨_, _, rfl, rfl, rfl⟩ rfl (fun w h => .inr (h.sub SubC.h SubC.h)) ?_
       refine wpd_off 47 rfl zz5 ⟨_, _, rfl, rfl, rfl⟩ rfl (fun w h => .inr (h.sub SubC.h SubC.h)) ?_
       refine wpd_off 48 rfl zz5 ⟨_, _, rfl, rfl, rfl⟩ rfl (fun w h => .inr (h.sub SubC.h SubC.h)) ?_
       refine wpd_off 49 rfl zz5 ⟨_, _, rfl, rfl, rfl⟩ rfl (fun w h => .inr (h.sub SubC.h SubC.h)) ?_
       refine wpd_off 50 rfl zz5 ⟨_, _, rfl, rfl, rfl⟩ rfl (fun w h => .inr (h.sub SubC.h SubC.h)) ?_
       refine wpd_off 51 rfl zz5 ⟨_, _, rfl, rfl, rfl⟩ rfl (fun w h => .inr (h.sub SubC.h SubC.h)) ?_
       refine wpd_off 52 rfl zz5 ⟨_, _, rfl, rfl, rfl⟩ rfl (fun w h => .inr (h.sub SubC.h SubC.h)) ?_
       refine wpd_off 53 rfl zz5 ⟨_, _, rfl, rfl, rfl⟩ rfl (fun w h => .inr (h.sub SubC.h SubC.h)) ?_
       refine wpd_off 54 rfl zz5 ⟨_, _, rfl, rfl, rfl⟩ rfl (fun w h => .inr (h.sub SubC.h SubC.h)) ?_
       refine wpd_off 55 rfl zz5 ⟨_, _, rfl, rfl, rfl⟩ rfl (fun w h => .inr (h.sub SubC.h SubC.h)) ?_
       refine wpd_off 56 rfl zz5 ⟨_, _, rfl, rfl, rfl⟩ rfl (fun w h => .inr (h.sub SubC.h SubC.h)) ?_
       refine wpd_p 57 rfl zz5 ⟨_, rfl, rfl⟩ (q_pure rfl) rfl (fun w h => .inr (h.sub SubC.h SubC.h)) ?_
       refine wpd_p 58 rfl zz5 trivial (q_pure rfl) rfl (fun w h => .inr (h.sub SubC.h SubC.h)) ?_
       refine wpd_p 59 rfl zz5 trivial (q_pure rfl) rfl (fun w h => .inr (h.sub SubC.h SubC.h)) ?_
       refine wpd_done zz5 ?_
       refine ex_then <| wpc_ret ?_
       refine ret1 (.inl rfl) rfl rfl ?_
       exact fun w h => ⟨rfl, h.below⟩
      ·
       have hkn : ¬ (k0 (reP (exP (reP (stP f a b l ha s1 1 idx) b30) hb s2 0 0) b50) ha) = (k1 (reP (exP (reP (stP f a b l ha s1 1 idx) b30) hb s2 0 0) b50) ha) := of_decide_eq_false hb194
       refine wpd_q 39 rfl zz5 ⟨_, rfl, rfl⟩ (q_ldN Tryd.underlying29 rfl Tryd.ti29 rfl LenC.h) rfl (fun w h => h.sub SubC.h SubC.h) ?_
       refine wpd_p 40 rfl zz5 ⟨_, rfl, rfl⟩ (q_field Tryd.underlying68 rfl Tryd.ti49 rfl rfl _ rfl) rfl (fun w h => .inr (h.sub SubC.h SubC.h)) ?_
       refine wpd_q 41 rfl zz5 ⟨_, rfl, rfl⟩ (q_ld Tryd.underlying49 rfl rfl (Hop.c_to _)) rfl (fun w h => h.sub SubC.h SubC.h) ?_
       refine wpd_p 42 rfl zz5 ⟨_, rfl, rfl⟩ (q_pure rfl) rfl (fun w h => .inr (h.sub SubC.h SubC.h)) ?_
       refine wpd_p 43 rfl zz5 ⟨_, rfl, rfl⟩ (q_idxW (j := 0) Tryd.underlying50 Tryd.ti80 rfl rfl zz4 zz2) rfl (fun w h => .inr (h.sub SubC.h SubC.h)) ?_
       refine wpd_q 44 rfl zz5 ⟨_, rfl, rfl⟩ (q_ldWN Tryd.underlying80 rfl Tryd.ti80 rfl (fun w h => zz9) (RK.c (k0 (reP (exP (reP (stP f a b l ha s1 1 idx) b30) hb s2 0 0) b50) ha)) (cat_part (l := [(k0 (reP (exP (reP (stP f a b l ha s1 1 idx) b30) hb s2 0 0) b50) ha), (k1 (reP (exP (reP (stP f a b l ha s1 1 idx) b30) hb s2 0 0) b50) ha)]) (i := 0) RK.c_length RK.z (Nat.le_of_ble_eq_true rfl)) (RK.c_length _)) rfl (fun w h => h.sub SubC.h SubC.h) ?_
       refine wpd_tp 45 rfl zz5 ⟨_, rfl, rfl⟩ (t_bsG [.agg (RK.c (k0 (reP (exP (reP (stP f a b l ha s1 1 idx) b30) hb s2 0 0) b50) ha)).toArray] (rks [(k0 (reP (exP (reP (stP f a b l ha s1 1 idx) b30) hb s2 0 0) b50) ha)]) Tryd.underlying50 Tryd.ti80 rfl zz17 rfl zz17 zz17 rfl zz24 rfl) rfl (fun _ => (fun w h => .inr (h.sub SubC.h SubC.h))) (fun b201 p201 => ?_)
       refine wpd_t 46 rfl zz5 ⟨_, rfl, rfl⟩ (t_pur (v := .bool true) Tryd.hb33 rfl fun w h => by
         have q := is_ (reP (exP (reP (stP f a b l ha s1 1 idx) b30) hb s2 0 0) b50) hb.to 2 b201 [(k0 (reP (exP (reP (stP f a b l ha s1 1 idx) b30) hb s2 0 0) b50) ha)] w (reP_seen p50.2 (h.seen_row zz6) (hopsF_at h zz6)) (h.seen_row zz6) smq (glob h hG) (Nat.le_of_ble_eq_true rfl)
         rwa [decide_eq_true (t.c4 hkn)] at q) rfl (fun _ => (fun w h => .inr (h.sub SubC.h SubC.h))) (fun b202 => ?_)
       refine wpd_p 47 rfl zz5 ⟨_, rfl, rfl⟩ (q_pure rfl) rfl (fun w h => .inr (h.sub SubC.h SubC.h)) ?_
       refine wpd_q 48 rfl zz5 ⟨_, rfl, rfl⟩ (q_ldN Tryd.underlying29 rfl Tryd.ti29 rfl LenC.h) rfl (fun w h => h.sub SubC.h SubC.h) ?_
       refine wpd_p 49 rfl zz5 ⟨_, rfl, rfl⟩ (q_field Tryd.underlying68 rfl Tryd.ti49 rfl rfl _ rfl) rfl (fun w h => .inr (h.sub SubC.h SubC.h)) ?_
       refine wpd_q 50 rfl zz5 ⟨_, rfl, rfl⟩ (q_ld Tryd.underlying49 rfl rfl (Hop.c_to _)) rfl (fun w h => h.sub SubC.h SubC.h) ?_
       refine wpd_p 51 rfl zz5 ⟨_, rfl, rfl⟩ (q_pure rfl) rfl (fun w h => .inr (h.sub SubC.h SubC.h)) ?_
       refine wpd_p 52 rfl zz5 ⟨_, rfl, rfl⟩ (q_idxW (j := 1) Tryd.underlying50 Tryd.ti80 rfl rfl zz4 zz2) rfl (fun w h => .inr (h.sub SubC.h SubC.h)) ?_
       refine wpd_q 53 rfl zz5 ⟨_, rfl, rfl⟩ (q_ldWN Tryd.underlying80 rfl Tryd.ti80 rfl (fun w h => zz9) (RK.c (k1 (reP (exP (reP (stP f a b l ha s1 1 idx) b30) hb s2 0 0) b50) ha)) (cat_part (l := [(k0 (reP (exP (reP (stP f a b l ha s1 1 idx) b30) hb s2 0 0) b50) ha), (k1 (reP (exP (reP (stP f a b l ha s1 1 idx) b30) hb s2 0 0) b50) ha)]) (i := 1) RK.c_length RK.z (Nat.le_of_ble_eq_true rfl)) (RK.c_length _)) rfl (fun w h => h.sub SubC.h SubC.h) ?_
       refine wpd_tp 54 rfl zz5 ⟨_, rfl, rfl⟩ (t_bsG [.agg (RK.c (k1 (reP (exP (reP (stP f a b l ha s1 1 idx) b30) hb s2 0 0) b50) ha)).toArray] (rks [(k1 (reP (exP (reP (stP f a b l ha s1 1 idx) b30) hb s2 0 0) b50) ha)]) Tryd.underlying50 Tryd.ti80 rfl zz17 rfl zz17 zz17 rfl zz24 rfl) rfl (fun _ => (fun w h => .inr (h.sub SubC.h SubC.h))) (fun b210 p210 => ?_)
       refine wpd_t 55 rfl zz5 ⟨_, rfl, rfl⟩ (t_pur (v := .bool true) Tryd.hb33 rfl fun w h => by
         have q := is_ (reP (exP (reP (stP f a b l ha s1 1 idx) b30) hb s2 0 0) b50) hb.to 2 b210 [(k1 (reP (exP (reP (stP f a b l ha s1 1 idx) b30) hb s2 0 0) b50) ha)] w (reP_seen p50.2 (h.seen_row zz6) (hopsF_at h zz6)) (h.seen_row zz6) smq (glob h hG) (Nat.le_of_ble_eq_true rfl)
         rwa [decide_eq_true (t.c5 hkn)] at q) rfl (fun _ => (fun w h => .inr (h.sub SubC.h SubC.h))) (fun b211 => ?_)
       refine wpd_p 56 rfl zz5 ⟨_, rfl, rfl⟩ (q_pure rfl) rfl (fun w h => .inr (h.sub SubC.h SubC.h)) ?_
       refine wpd_p 57 rfl zz5 ⟨_, rfl, rfl⟩ (q_pure rfl) rfl (fun w h => .inr (h.sub SubC.h SubC.h)) ?_
       refine wpd_p 58 rfl zz5 trivial (q_pure rfl) rfl (fun w h => .inr (h.sub SubC.h SubC.h)) ?_
       refine wpd_p 59 rfl zz5 trivial (q_pure rfl) rfl (fun w h => .inr (h.sub SubC.h SubC.h)) ?_
       refine wpd_done zz5 ?_
       refine ex_then <| wpc_ret ?_
       refine ret1 (.inl rfl) rfl rfl ?_
       exact fun w h => ⟨rfl, h.below⟩
     ·
      have hne : ¬ x = hb.to := of_decide_eq_false hb179
      refine wpd_q 24 rfl zz5 ⟨_, rfl, rfl⟩ (q_ldN Tryd.underlying29 rfl Tryd.ti29 rfl LenC.h) rfl (fun w h => h.sub SubC.h SubC.h) ?_
      refine wpd_p 25 rfl zz5 ⟨_, rfl, rfl⟩ (q_pure rfl) rfl (fun w h => .inr (h.sub SubC.h SubC.h)) ?_
      refine wpd_p 26 rfl zz5 ⟨_, rfl, rfl⟩ (q_pure rfl) rfl (fun w h => .inr (h.sub SubC.h SubC.h)) ?_
      refine wpd_t 27 rfl zz5 ⟨_, rfl, rfl⟩ (t_pur (v := .bool true) Tryd.hb33 rfl fun w h => by
        have q := is_ (reP (exP (reP (stP f a b l ha s1 1 idx) b30) hb s2 0 0) b50) x 2 b92 [(k0 (reP (exP (reP (stP f a b l ha s1 1 idx) b30) hb s2 0 0) b50) ha), (k1 (reP (exP (reP (stP f a b l ha s1 1 idx) b30) hb s2 0 0) b50) ha)] w (reP_seen p50.2 (h.seen_row zz6) (hopsF_at h zz6)) (h.seen_row zz6) smq (glob h hG) (Nat.le_of_ble_eq_true rfl)
        rwa [decide_eq_true (t.c3 hne)] at q) rfl (fun _ => (fun w h => .inr (h.sub SubC.h SubC.h))) (fun b183 => ?_)
      refine wpd_p 28 rfl zz5 ⟨_, rfl, rfl⟩ (q_pure rfl) rfl (fun w h => .inr (h.sub SubC.h SubC.h)) ?_
      refine wpd_p 29 rfl zz5 trivial (q_pure rfl) rfl (fun w h => .inr (h.sub SubC.h SubC.h)) ?_
      refine wpd_p 30 rfl zz5 trivial (q_pure rfl) rfl (fun w h => .inr (h.sub SubC.h SubC.h)) ?_
      refine wpd_p 31 rfl zz5 ⟨_, rfl, rfl⟩ (q_pure rfl) rfl (fun w h => .inr (h.sub SubC.h SubC.h)) ?_
      refine wpd_p 32 rfl zz5 ⟨_, rfl, rfl⟩ (q_idxW (j := 0) Tryd.underlying50 Tryd.ti80 rfl rfl zz4 zz2) rfl (fun w h => .inr (h.sub SubC.h SubC.h)) ?_
      refine wpd_q 33 rfl zz5 ⟨_, rfl, rfl⟩ (q_ldWN Tryd.underlying80 rfl Tryd.ti80 rfl (fun w h => zz9) (RK.c (k0 (reP (exP (reP (stP f a b l ha s1 1 idx) b30) hb s2 0 0) b50) ha)) (cat_part (l := [(k0 (reP (exP (reP (stP f a b l ha s1 1 idx) b30) hb s2 0 0) b50) ha), (k1 (reP (exP (reP (stP f a b l ha s1 1 idx) b30) hb s2 0 0) b50) ha)]) (i := 0) RK.c_length RK.z (Nat.le_of_ble_eq_true rfl)) (RK.c_length _)) rfl (fun w h => h.sub SubC.h SubC.h) ?_
      refine wpd_p 34 rfl zz5 ⟨_, rfl, rfl⟩ (q_pure rfl) rfl (fun w h => .inr (h.sub SubC.h SubC.h)) ?_
      refine wpd_p 35 rfl zz5 ⟨_, rfl, rfl⟩ (q_idxW (j := 1) Tryd.underlying50 Tryd.ti80 rfl rfl zz4 zz2) rfl (fun w h => .inr (h.sub SubC.h SubC.h)) ?_
      refine wpd_q 36 rfl zz5 ⟨_, rfl, rfl⟩ (q_ldWN Tryd.underlying80 rfl Tryd.ti80 rfl (fun w h => zz9) (RK.c (k1 (reP (exP (reP (stP f a b l ha s1 1 idx) b30) hb s2 0 0) b50) ha)) (cat_part (l := [(k0 (reP (exP (reP (stP f a b l ha s1 1 idx) b30) hb s2 0 0) b50) ha), (k1 (reP (exP (reP (stP f a b l ha s1 1 idx) b30) hb s2 0 0) b50) ha)]) (i := 1) RK.c_length RK.z (Nat.le_of_ble_eq_true rfl)) (RK.c_length _)) rfl (fun w h => h.sub SubC.h SubC.h) ?_
      refine wpd_q 37 rfl zz5 ⟨_, rfl, rfl⟩ (q_eqRK rfl rfl) rfl (fun w h => h.sub SubC.h SubC.h) ?_
      refine wpd_p 38 rfl zz5 ⟨_, rfl, rfl⟩ (q_pure rfl) rfl (fun w h => .inr (h.sub SubC.h SubC.h)) ?_
      refine wpd_bool2 194 193 rfl rfl (fun hb194 => ?_) (fun hb194 => ?_)
      ·
       refine wpd_off 39 rfl zz5 ⟨_, _, rfl, rfl, rfl⟩ rfl (fun w h => .inr (h.sub SubC.h SubC.h)) ?_
       refine wpd_off 40 rfl zz5 ⟨_, _, rfl, rfl, rfl⟩ rfl (fun w h => .inr (h.sub SubC.h SubC.h)) ?_
       refine wpd_off 41 rfl zz5 ⟨_, _, rfl, rfl, rfl⟩ rfl (fun w h => .inr (h.sub SubC.h SubC.h)) ?_
       refine wpd_off 42 rfl zz5 ⟨_, _, rfl, rfl, rfl⟩ rfl (fun w h => .inr (h.sub SubC.h SubC.h)) ?_
       refine wpd_off 43 rfl zz5 ⟨_, _, rfl, rfl, rfl⟩ rfl (fun w h => .inr (h.sub SubC.h SubC.h)) ?_
       refine wpd_off 44 rfl zz5 ⟨_, _, rfl, rfl, rfl⟩ rfl (fun w h => .inr (h.sub SubC.h SubC.h)) ?_
       refine wpd_off 45 rfl zz5 ⟨_, _, rfl, rfl, rfl⟩ rfl (fun w h => .inr (h.sub SubC.h SubC.h)) ?_
       refine wpd_off 46 rfl zz5 ⟨_, _, rfl, rfl, rfl⟩ rfl (fun w h => .inr (h.sub SubC.h SubC.h)) ?_
       refine wpd_off 47 rfl zz5 ⟨_, _, rfl, rfl, rfl⟩ rfl (fun w h => .inr (h.sub SubC.h SubC.h)) ?_
       refine wpd_off 48 rfl zz5 ⟨_, _, rfl, rfl, rfl⟩ rfl (fun w h => .inr (h.sub SubC.h SubC.h)) ?_
       refine wpd_off 49 rfl zz5 ⟨_, _, rfl, rfl, rfl⟩ rfl (fun w h => .inr (h.sub SubC.h SubC.h)) ?_
       refine wpd_off 50 rfl zz5 ⟨_, _, rfl, rfl, rfl⟩ rfl (fun w h => .inr (h.sub SubC.h SubC.h)) ?_
       refine wpd_off 51 rfl zz5 ⟨_, _, rfl, rfl, rfl⟩ rfl (fun w h => .inr (h.sub SubC.h SubC.h)) ?_
       refine wpd_off 52 rfl zz5 ⟨_, _, rfl, rfl, rfl⟩ rfl (fun w h => .inr (h.sub SubC.h SubC.h)) ?_
       refine wpd_off 53 rfl zz5 ⟨_, _, rfl, rfl, rfl⟩ rfl (fun w h => .inr (h.sub SubC.h SubC.h)) ?_
       refine wpd_off 54 rfl zz5 ⟨_, _, rfl, rfl, rfl⟩ rfl (fun w h => .inr (h.sub SubC.h SubC.h)) ?_
       refine wpd_off 55 rfl zz5 ⟨_, _, rfl, rfl, rfl⟩ rfl (fun w h => .inr (h.sub SubC.h SubC.h)) ?_
       refine wpd_off 56 rfl zz5 ⟨_, _, rfl, rfl, rfl⟩ rfl (fun w h => .inr (h.sub SubC.h SubC.h)) ?_
       refine wpd_p 57 rfl zz5 ⟨_, rfl, rfl⟩ (q_pure rfl) rfl (fun w h => .inr (h.sub SubC.h SubC.h)) ?_
       refine wpd_p 58 rfl zz5 trivial (q_pure rfl) rfl (fun w h => .inr (h.sub SubC.h SubC.h)) ?_
       refine wpd_p 59 rfl zz5 trivial (q_pure rfl) rfl (fun w h => .inr (h.sub SubC.h SubC.h)) ?_
       refine wpd_done zz5 ?_
       refine ex_then <| wpc_ret ?_
       refine ret1 (.inl rfl) rfl rfl ?_
       exact fun w h => ⟨rfl, h.below⟩
      ·
       have hkn : ¬ (k0 (reP (exP (reP (stP f a b l ha s1 1 idx) b30) hb s2 0 0) b50) ha) = (k1 (reP (exP (reP (stP f a b l ha s1 1 idx) b30) hb s2 0 0) b50) ha) := of_decide_eq_false hb194
       refine wpd_q 39 rfl zz5 ⟨_, rfl, rfl⟩ (q_ldN Tryd.underlying29 rfl Tryd.ti29 rfl LenC.h) rfl (fun w h => h.sub SubC.h SubC.h) ?_
       refine wpd_p 40 rfl zz5 ⟨_, rfl, rfl⟩ (q_field Tryd.underlying68 rfl Tryd.ti49 rfl rfl _ rfl) rfl (fun w h => .inr (h.sub SubC.h SubC.h)) ?_
       refine wpd_q 41 rfl zz5 ⟨_, rfl, rfl⟩ (q_ld Tryd.underlying49 rfl rfl (Hop.c_to _)) rfl (fun w h => h.sub SubC.h SubC.h) ?_
       refine wpd_p 42 rfl zz5 ⟨_, rfl, rfl⟩ (q_pure rfl) rfl (fun w h => .inr (h.sub SubC.h SubC.h)) ?_
       refine wpd_p 43 rfl zz5 ⟨_, rfl, rfl⟩ (q_idxW (j := 0) Tryd.underlying50 Tryd.ti80 rfl rfl zz4 zz2) rfl (fun w h => .inr (h.sub SubC.h SubC.h)) ?_
       refine wpd_q 44 rfl zz5 ⟨_, rfl, rfl⟩ (q_ldWN Tryd.underlying80 rfl Tryd.ti80 rfl (fun w h => zz9) (RK.c (k0 (reP (exP (reP (stP f a b l ha s1 1 idx) b30) hb s2 0 0) b50) ha)) (cat_part (l := [(k0 (reP (exP (reP (stP f a b l ha s1 1 idx) b30) hb s2 0 0) b50) ha), (k1 (reP (exP (reP (stP f a b l ha s1 1 idx) b30) hb s2 0 0) b50) ha)]) (i := 0) RK.c_length RK.z (Nat.le_of_ble_eq_true rfl)) (RK.c_length _)) rfl (fun w h => h.sub SubC.h SubC.h) ?_
       refine wpd_tp 45 rfl zz5 ⟨_, rfl, rfl⟩ (t_bsG [.agg (RK.c (k0 (reP (exP (reP (stP f a b l ha s1 1 idx) b30) hb s2 0 0) b50) ha)).toArray] (rks [(k0 (reP (exP (reP (stP f a b l ha s1 1 idx) b30) hb s2 0 0) b50) ha)]) Tryd.underlying50 Tryd.ti80 rfl zz17 rfl zz17 zz17 rfl zz24 rfl) rfl (fun _ => (fun w h => .inr (h.sub SubC.h SubC.h))) (fun b201 p201 => ?_)
       refine wpd_t 46 rfl zz5 ⟨_, rfl, rfl⟩ (t_pur (v := .bool true) Tryd.hb33 rfl fun w h => by
         have q := is_ (reP (exP (reP (stP f a b l ha s1 1 idx) b30) hb s2 0 0) b50) hb.to 2 b201 [(k0 (reP (exP (reP (stP f a b l ha s1 1 idx) b30) hb s2 0 0) b50) ha)] w (reP_seen p50.2 (h.seen_row zz6) (hopsF_at h zz6)) (h.seen_row zz6) smq (glob h hG) (Nat.le_of_ble_eq_true rfl)
         rwa [decide_eq_true (t.c4 hkn)] at q) rfl (fun _ => (fun w h => .inr (h.sub SubC.h SubC.h))) (fun b202 => ?_)
       refine wpd_p 47 rfl zz5 ⟨_, rfl, rfl⟩ (q_pure rfl) rfl (fun w h => .inr (h.sub SubC.h SubC.h)) ?_
       refine wpd_q 48 rfl zz5 ⟨_, rfl, rfl⟩ (q_ldN Tryd.underlying29 rfl Tryd.ti29 rfl LenC.h) rfl (fun w h => h.sub SubC.h SubC.h) ?_
       refine wpd_p 49 rfl zz5 ⟨_, rfl, rfl⟩ (q_field Tryd.underlying68 rfl Tryd.ti49 rfl rfl _ rfl) rfl (fun w h => .inr (h.sub SubC.h SubC.h)) ?_
       refine wpd_q 50 rfl zz5 ⟨_, rfl, rfl⟩ (q_ld Tryd.underlying49 rfl rfl (Hop.c_to _)) rfl (fun w h => h.sub SubC.h SubC.h) ?_
       refine wpd_p 51 rfl zz5 ⟨_, rfl, rfl⟩ (q_pure rfl) rfl (fun w h => .inr (h.sub SubC.h SubC.h)) ?_
       refine wpd_p 52 rfl zz5 ⟨_, rfl, rfl⟩ (q_idxW (j := 1) Tryd.underlying50 Tryd.ti80 rfl rfl zz4 zz2) rfl (fun w h => .inr (h.sub SubC.h SubC.h)) ?_
       refine wpd_q 53 rfl zz5 ⟨_, rfl, rfl⟩ (q_ldWN Tryd.underlying80 rfl Tryd.ti80 rfl (fun w h => zz9) (RK.c (k1 (reP (exP (reP (stP f a b l ha s1 1 idx) b30) hb s2 0 0) b50) ha)) (cat_part (l := [(k0 (reP (exP (reP (stP f a b l ha s1 1 idx) b30) hb s2 0 0) b50) ha), (k1 (reP (exP (reP (stP f a b l ha s1 1 idx) b30) hb s2 0 0) b50) ha)]) (i := 1) RK.c_length RK.z (Nat.le_of_ble_eq_true rfl)) (RK.c_length _)) rfl (fun w h => h.sub SubC.h SubC.h) ?_
       refine wpd_tp 54 rfl zz5 ⟨_, rfl, rfl⟩ (t_bsG [.agg (RK.c (k1 (reP (exP (reP (stP f a b l ha s1 1 idx) b30) hb s2 0 0) b50) ha)).toArray] (rks [(k1 (reP (exP (reP (stP f a b l ha s1 1 idx) b30) hb s2 0 0) b50) ha)]) Tryd.underlying50 Tryd.ti80 rfl zz17 rfl zz17 zz17 rfl zz24 rfl) rfl (fun _ => (fun w h => .inr (h.sub SubC.h SubC.h))) (fun b210 p210 => ?_)
       refine wpd_t 55 rfl zz5 ⟨_, rfl, rfl⟩ (t_pur (v := .bool true) Tryd.hb33 rfl fun w h => by
         have q := is_ (reP (exP (reP (stP f a b l ha s1 1 idx) b30) hb s2 0 0) b50) hb.to 2 b210 [(k1 (reP (exP (reP (stP f a b l ha s1 1 idx) b30) hb s2 0 0) b50) ha)] w (reP_seen p50.2 (h.seen_row zz6) (hopsF_at h zz6)) (h.seen_row zz6) smq (glob h hG) (Nat.le_of_ble_eq_true rfl)
         rwa [decide_eq_true (t.c5 hkn)] at q) rfl (fun _ => (fun w h => .inr (h.sub SubC.h SubC.h))) (fun b211 => ?_)
       refine wpd_p 56 rfl zz5 ⟨_, rfl, rfl⟩ (q_pure rfl) rfl (fun w h => .inr (h.sub SubC.h SubC.h)) ?_
       refine wpd_p 57 rfl zz5 ⟨_, rfl, rfl⟩ (q_pure rfl) rfl (fun w h => .inr (h.sub SubC.h SubC.h)) ?_
       refine wpd_p 58 rfl zz5 trivial (q_pure rfl) rfl (fun w h => .inr (h.sub SubC.h SubC.h)) ?_
       refine wpd_p 59 rfl zz5 trivial (q_pure rfl) rfl (fun w h => .inr (h.sub SubC.h SubC.h)) ?_
       refine wpd_done zz5 ?_
       refine ex_then <| wpc_ret ?_
       refine ret1 (.inl rfl) rfl rfl ?_
       exact fun w h => ⟨rfl, h.below⟩
end Go.Proofs.YtjpfhkjmjnjggaaDoor
