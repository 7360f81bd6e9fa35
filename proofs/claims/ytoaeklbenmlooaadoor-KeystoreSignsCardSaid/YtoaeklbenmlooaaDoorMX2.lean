/- What the statement reaches, in order. -/
import Derived.Test.YtoaeklbenmlooaaDoorMXPLN
import Derived.Test.YtoaeklbenmlooaaDoorMXPLL
import Derived.Test.YtoaeklbenmlooaaDoorMXTI
import Derived.Test.YtoaeklbenmlooaaDoorMXPLI
import Derived.Test.YtoaeklbenmlooaaDoorMXPLZ
import Derived.WalkKit
import Derived.ProofKit
import Derived.OpenShut
import Derived.ChangeOld
import Derived.Below
import Derived.Carry
import Derived.LaidMore
import Derived.Deep.DeepHandedRow
import Derived.Deep.DeepWitnessRowRef
import Derived.Lib.LaidTab
import Derived.Stop.Joined
import Derived.Test.YtoaeklbenmlooaaDoorMX1
set_option linter.unusedSimpArgs false
set_option linter.unusedVariables false
set_option maxRecDepth 100000
namespace Go.Proofs.YtoaeklbenmlooaaDoor
open Go Go.PL Go.RowKit
section
variable {k a : KE} {d : Int}
theorem ok1 (h : ¬ k.id = a.id) : true = !okK k a d := by simp [okK, h]
theorem ok2 (h : ¬ k.ht = a.ht) : true = !okK k a d := by simp [okK, h]
theorem ok3 (h : ¬ k.ak = a.ak) : true = !okK k a d := by simp [okK, h]
theorem ok4 (h : ¬ k.dr = a.dr) : true = !okK k a d := by simp [okK, h]
theorem ok5 (h : ¬ k.du = d) : true = !okK k a d := by simp [okK, h]
theorem ok6 (h : k.nx < 0) : true = !okK k a d := by
  have : decide (0 ≤ k.nx) = false := decide_eq_false zz16
  simp [okK, this]
theorem ok7 (h1 : k.id = a.id) (h2 : k.ht = a.ht) (h3 : k.ak = a.ak) (h4 : k.dr = a.dr) (h5 : k.du = d) (h6 : ¬ k.nx < 0) : decide (k.nx > d) = !okK k a d := by
  have e6 : decide (0 ≤ k.nx) = true := decide_eq_true zz16
  simp [okK, h1, h2, h3, h4, h5, e6]
  rw [Bool.eq_iff_iff]; simp
end
theorem ku {s : St} (h : ChkP s) (hu : s.up = true) : ChkU s := h.2.2.2.2 hu
theorem check (s : St) (dv pv kv : Value) (w : World) (hs : StS w.cell? s dv pv kv)  :
    Calls Tryd.prog 60 [.agg (s.c dv pv kv).toArray].toArray w (Pur w (.int .i64 (chkF s))) := by
  have sdv := hs.d.sv
  have spv := hs.p.sv
  have skv := hs.k.sv
  have l1hs := hs.ld
  have l2hs := hs.lp
  have l3hs := hs.lk
  refine enter (m := 145) (R := Mem w [] [] []) Tryd.func60 rfl rfl (Nat.le_of_ble_eq_true rfl) (Mem.start w) ?_
  refine wpc_seq <| wpc_region ?_
  refine wpl_t (t_box rfl (s.c dv pv kv) rfl) rfl (fun b1 => ?_)
  refine wpl_q (q_pure rfl) rfl <| wpl_nil <| ex_then <| wpc_seq <| wpc_seq <| wpc_region <| wpl_q (q_field Tryd.underlying35 rfl Tryd.ti3 rfl rfl _ rfl) rfl ?_
  refine wpl_q (q_ld Tryd.underlying3 rfl rfl zz13) rfl ?_
  refine wpl_q (q_pure rfl) rfl <| wpl_q (q_pure rfl) rfl ?_
  refine wpl_bool2 14 13 rfl rfl (fun hb14 => ?_) (fun hb14 => ?_)
  ·
   try simp only [decide_eq_true_eq] at hb14
   refine wpl_off rfl rfl rfl rfl <| wpl_off rfl rfl rfl rfl <| wpl_off rfl rfl rfl rfl <| wpl_q (q_pure rfl) rfl <| wpl_q (q_pure rfl) rfl <| wpl_off rfl rfl rfl rfl <| wpl_off rfl rfl rfl rfl <| wpl_off rfl rfl rfl rfl <| wpl_off rfl rfl rfl rfl <| wpl_off rfl rfl rfl rfl <| wpl_off rfl rfl rfl rfl <| wpl_off rfl rfl rfl rfl ?_
   refine wpl_off rfl rfl rfl rfl <| wpl_q (q_pure rfl) rfl <| wpl_nil <| ex_then ?_
   refine wpc_cond_t rfl ?_
   refine wpc_seq <| wpc_region <| wpl_q (q_pure rfl) rfl <| wpl_nil <| ex_then <| wpc_ret ?_
   refine ex_then_ret ?_
   refine ret1 (.inl rfl) rfl rfl ?_
   exact fun w h => ⟨by rw [chk8 (fun hh => by have := hh.1; have := hh.2.1; have := hh.2.2.1; omega)], h.below⟩
  ·
   try simp only [decide_eq_false_iff_not] at hb14
   refine wpl_on rfl rfl <| wpl_q (q_field Tryd.underlying35 rfl Tryd.ti3 rfl rfl _ rfl) rfl <| wpl_on rfl rfl ?_
   refine wpl_q (q_ld Tryd.underlying3 rfl rfl zz13) rfl ?_
   refine wpl_on rfl rfl <| wpl_q (q_pure rfl) rfl <| wpl_q (q_pure rfl) rfl <| wpl_q (q_pure rfl) rfl ?_
   refine wpl_bool2 19 17 rfl rfl (fun hb19 => ?_) (fun hb19 => ?_)
   ·
    try simp only [decide_eq_true_eq] at hb19
    refine wpl_off rfl rfl rfl rfl <| wpl_off rfl rfl rfl rfl <| wpl_off rfl rfl rfl rfl <| wpl_off rfl rfl rfl rfl <| wpl_off rfl rfl rfl rfl <| wpl_off rfl rfl rfl rfl <| wpl_off rfl rfl rfl rfl <| wpl_off rfl rfl rfl rfl <| wpl_q (q_pure rfl) rfl <| wpl_nil <| ex_then ?_
    refine wpc_cond_t rfl ?_
    refine wpc_seq <| wpc_region <| wpl_q (q_pure rfl) rfl <| wpl_nil <| ex_then <| wpc_ret ?_
    refine ex_then_ret ?_
    refine ret1 (.inl rfl) rfl rfl ?_
    exact fun w h => ⟨by rw [chk8 (fun hh => by have := hh.1; have := hh.2.1; have := hh.2.2.1; omega)], h.below⟩
   ·
    try simp only [decide_eq_false_iff_not] at hb19
    refine wpl_on rfl rfl <| wpl_q (q_field Tryd.underlying35 rfl Tryd.ti22 rfl rfl _ rfl) rfl <| wpl_on rfl rfl ?_
    refine wpl_q (q_ld Tryd.underlying22 rfl rfl zz13) rfl ?_
    refine wpl_on rfl rfl ?_
    refine wpl_q (q_lenW Tryd.underlying22 rfl zz3) rfl ?_
    refine wpl_on rfl rfl <| wpl_q (q_field Tryd.underlying35 rfl Tryd.ti22 rfl rfl _ rfl) rfl <| wpl_on rfl rfl ?_
    refine wpl_q (q_ld Tryd.underlying22 rfl rfl zz13) rfl ?_
    refine wpl_on rfl rfl ?_
    refine wpl_q (q_lenW Tryd.underlying22 rfl zz3) rfl ?_
    refine wpl_on rfl rfl ?_
    refine wpl_q (q_addN rfl rfl zz1) rfl ?_
    refine wpl_on rfl rfl <| wpl_q (q_pure rfl) rfl <| wpl_q (q_pure rfl) rfl <| wpl_nil <| ex_then ?_
    refine wpc_cond rfl (fun hc28 => ?_) (fun hc28 => ?_)
    ·
     simp only [decide_eq_true_eq] at hc28
     refine wpc_seq <| wpc_region <| wpl_q (q_pure rfl) rfl <| wpl_nil <| ex_then <| wpc_ret ?_
     refine ex_then_ret ?_
     refine ret1 (.inl rfl) rfl rfl ?_
     exact fun w h => ⟨by rw [chk8 (fun hh => by have := hh.1; have := hh.2.1; have := hh.2.2.1; omega)], h.below⟩
    ·
     simp only [decide_eq_false_iff_not] at hc28
     refine wpc_skip <| ex_then <| wpc_seq <| wpc_seq <| wpc_region <| wpl_q (q_field Tryd.underlying35 rfl Tryd.ti4 rfl rfl _ rfl) rfl ?_
     refine wpl_q (q_ld Tryd.underlying4 rfl rfl zz13) rfl ?_
     refine wpl_q (q_pure rfl) rfl <| wpl_nil <| ex_then ?_
     refine wpc_cond rfl (fun hc31 => ?_) (fun hc31 => ?_)
     ·
      simp only [Bool.not_eq_true'] at hc31
      refine wpc_seq <| wpc_seq <| wpc_region <| wpl_q (q_field Tryd.underlying35 rfl Tryd.ti22 rfl rfl _ rfl) rfl ?_
      refine wpl_q (q_ld Tryd.underlying22 rfl rfl zz13) rfl ?_
      refine wpl_q (q_lenW Tryd.underlying22 rfl zz3) rfl ?_
      refine wpl_q (q_pure rfl) rfl <| wpl_q (q_pure rfl) rfl ?_
      refine wpl_bool2 36 35 rfl rfl (fun hb36 => ?_) (fun hb36 => ?_)
      ·
       try simp only [decide_eq_true_eq] at hb36
       refine wpl_off rfl rfl rfl rfl <| wpl_off rfl rfl rfl rfl <| wpl_off rfl rfl rfl rfl <| wpl_off rfl rfl rfl rfl <| wpl_q (q_pure rfl) rfl <| wpl_nil <| ex_then ?_
       refine wpc_cond_t rfl ?_
       refine wpc_seq <| wpc_region <| wpl_q (q_pure rfl) rfl <| wpl_nil <| ex_then <| wpc_ret ?_
       refine ex_then_ret ?_
       refine ex_then_ret ?_
       refine ret1 (.inl rfl) rfl rfl ?_
       exact fun w h => ⟨by rw [chk8 (fun hh => by have := hh.2.2.2.1 hc31; omega)], h.below⟩
      ·
       try simp only [decide_eq_false_iff_not] at hb36
       refine wpl_on rfl rfl <| wpl_q (q_field Tryd.underlying35 rfl Tryd.ti26 rfl rfl _ rfl) rfl <| wpl_on rfl rfl ?_
       refine wpl_q (q_ld Tryd.underlying26 rfl rfl zz13) rfl ?_
       refine wpl_on rfl rfl ?_
       refine wpl_q (q_lenW Tryd.underlying26 rfl zz3) rfl ?_
       refine wpl_on rfl rfl <| wpl_q (q_pure rfl) rfl <| wpl_q (q_pure rfl) rfl <| wpl_nil <| ex_then ?_
       refine wpc_cond rfl (fun hc41 => ?_) (fun hc41 => ?_)
       ·
        simp only [decide_eq_true_eq] at hc41
        refine wpc_seq <| wpc_region <| wpl_q (q_pure rfl) rfl <| wpl_nil <| ex_then <| wpc_ret ?_
        refine ex_then_ret ?_
        refine ex_then_ret ?_
        refine ret1 (.inl rfl) rfl rfl ?_
        exact fun w h => ⟨by rw [chk8 (fun hh => by have := hh.2.2.2.1 hc31; omega)], h.below⟩
       ·
        simp only [decide_eq_false_iff_not] at hc41
        refine wpc_skip <| ex_then <| wpc_seq <| wpc_region <| wpl_q (q_pure rfl) rfl <| wpl_nil <| ex_then <| wpc_ret ?_
        refine ex_then_ret ?_
        refine ret1 (.inl rfl) rfl rfl ?_
        exact fun w h => ⟨by rw [chk0 ⟨zz16, zz16, zz16, fun _ => ⟨zz16, zz16⟩, fun hh => by rw [hc31] at hh; cases hh⟩], h.below⟩
     ·
      simp only [Bool.not_eq_false'] at hc31
      refine wpc_skip <| ex_then <| wpc_seq <| wpc_region <| wpl_q (q_field Tryd.underlying35 rfl Tryd.ti22 rfl rfl _ rfl) rfl ?_
      refine wpl_q (q_ld Tryd.underlying22 rfl rfl zz13) rfl ?_
      refine wpl_tp (t_callP1 Tryd.hb5 rfl fun w h => scan _ _ w zz15) rfl (fun b45 p45 => ?_)
      refine wpl_q (q_pure rfl) rfl <| wpl_q (q_pure rfl) rfl <| wpl_q (q_pure rfl) rfl <| wpl_q (q_pure rfl) rfl <| wpl_q (q_pure rfl) rfl <| wpl_nil <| ex_then <| wpc_seq <| wpc_region <| wpl_q (q_field Tryd.underlying35 rfl Tryd.ti22 rfl rfl _ rfl) rfl ?_
      refine wpl_q (q_ld Tryd.underlying22 rfl rfl zz13) rfl ?_
      refine wpl_q (q_field Tryd.underlying35 rfl Tryd.ti22 rfl rfl _ rfl) rfl ?_
      refine wpl_q (q_ld Tryd.underlying22 rfl rfl zz13) rfl ?_
      refine wpl_tp (t_bsV [dv, pv] Tryd.underlying111 Tryd.ti22 rfl rfl zz27 zz27 rfl zz17) rfl (fun b53 p53 => ?_)
      refine wpl_tp (t_callP1 Tryd.hb79 rfl fun w h => concat2 _ dv pv s.dk s.pd w (partsK2 h.seenV (h.seen_old hs.d) (h.seen_old hs.p)) (by rw [List.length_append]; omega)) rfl (fun b54 p54 => ?_)
      refine wpl_tp (t_callP1 Tryd.hb5 rfl fun w h => scan _ _ w zz15) rfl (fun b55 p55 => ?_)
      refine wpl_q (q_pure rfl) rfl <| wpl_q (q_pure rfl) rfl <| wpl_q (q_pure rfl) rfl <| wpl_q (q_pure rfl) rfl <| wpl_q (q_pure rfl) rfl <| wpl_nil <| ex_then <| wpc_seq <| wpc_seq <| wpc_region <| wpl_q (q_pure rfl) rfl <| wpl_q (q_field Tryd.underlying35 rfl Tryd.ti22 rfl rfl _ rfl) rfl ?_
      refine wpl_q (q_ld Tryd.underlying22 rfl rfl zz13) rfl ?_
      refine wpl_q (q_lenW Tryd.underlying22 rfl zz3) rfl ?_
      refine wpl_q (q_pure rfl) rfl <| wpl_q (q_pure rfl) rfl ?_
      refine wpl_bool2 63 62 rfl rfl (fun hb63 => ?_) (fun hb63 => ?_)
      ·
       simp only [bne_iff_ne, ne_eq] at hb63
       refine wpl_off rfl rfl rfl rfl <| wpl_off rfl rfl rfl rfl <| wpl_off rfl rfl rfl rfl <| wpl_off rfl rfl rfl rfl <| wpl_off rfl rfl rfl rfl <| wpl_off rfl rfl rfl rfl <| wpl_off rfl rfl rfl rfl <| wpl_q (q_pure rfl) rfl <| wpl_q (q_pure rfl) rfl <| wpl_off rfl rfl rfl rfl <| wpl_off rfl rfl rfl rfl <| wpl_off rfl rfl rfl rfl ?_
       refine wpl_off rfl rfl rfl rfl <| wpl_off rfl rfl rfl rfl <| wpl_off rfl rfl rfl rfl <| wpl_q (q_pure rfl) rfl <| wpl_nil <| ex_then ?_
       refine wpc_cond_t rfl ?_
       refine wpc_seq <| wpc_region <| wpl_q (q_pure rfl) rfl <| wpl_nil <| ex_then <| wpc_ret ?_
       refine ex_then_ret ?_
       refine ret1 (.inl rfl) rfl rfl ?_
       exact fun w h => ⟨by rw [chk8 (fun hh => by have hu := ku hh hc31; have := hu.1; have := hu.2.1; have := hu.2.2.1; omega)], h.below⟩
      ·
       simp only [bne_eq_false_iff_eq] at hb63
       refine wpl_on rfl rfl <| wpl_q (q_pure rfl) rfl <| wpl_on rfl rfl <| wpl_q (q_pure rfl) rfl <| wpl_on rfl rfl <| wpl_q (q_field Tryd.underlying35 rfl Tryd.ti22 rfl rfl _ rfl) rfl <| wpl_on rfl rfl ?_
       refine wpl_q (q_ld Tryd.underlying22 rfl rfl zz13) rfl ?_
       refine wpl_on rfl rfl ?_
       refine wpl_q (q_lenW Tryd.underlying22 rfl zz3) rfl ?_
       refine wpl_on rfl rfl ?_
       first | refine wpl_q (qop_eq (q_pure rfl) (congrArg (Value.int .i64) (wk_i64 zz16 zz16))) rfl ?_ | refine wpl_q (q_pure rfl) rfl ?_
       refine wpl_on rfl rfl <| wpl_q (q_pure rfl) rfl <| wpl_q (q_pure rfl) rfl <| wpl_q (q_pure rfl) rfl ?_
       refine wpl_bool2 72 70 rfl rfl (fun hb72 => ?_) (fun hb72 => ?_)
       ·
        simp only [bne_iff_ne, ne_eq] at hb72
        refine wpl_off rfl rfl rfl rfl <| wpl_off rfl rfl rfl rfl <| wpl_off rfl rfl rfl rfl <| wpl_off rfl rfl rfl rfl <| wpl_off rfl rfl rfl rfl <| wpl_off rfl rfl rfl rfl <| wpl_q (q_pure rfl) rfl <| wpl_nil <| ex_then ?_
        refine wpc_cond_t rfl ?_
        refine wpc_seq <| wpc_region <| wpl_q (q_pure rfl) rfl <| wpl_nil <| ex_then <| wpc_ret ?_
        refine ex_then_ret ?_
        refine ret1 (.inl rfl) rfl rfl ?_
        exact fun w h => ⟨by rw [chk8 (fun hh => by have hu := ku hh hc31; have := hu.1; have := hu.2.1; have := hu.2.2.1; omega)], h.below⟩
       ·
        simp only [bne_eq_false_iff_eq] at hb72
        refine wpl_on rfl rfl <| wpl_q (q_pure rfl) rfl <| wpl_on rfl rfl ?_
        refine wpl_q (q_lenW Tryd.underlying26 rfl zz3) rfl ?_
        refine wpl_on rfl rfl <| wpl_q (q_field Tryd.underlying35 rfl Tryd.ti26 rfl rfl _ rfl) rfl <| wpl_on rfl rfl ?_
        refine wpl_q (q_ld Tryd.underlying26 rfl rfl zz13) rfl ?_
        refine wpl_on rfl rfl ?_
        refine wpl_q (q_lenW Tryd.underlying26 rfl zz3) rfl ?_
        refine wpl_on rfl rfl <| wpl_q (q_pure rfl) rfl <| wpl_q (q_pure rfl) rfl <| wpl_nil <| ex_then ?_
        refine wpc_cond rfl (fun hc79 => ?_) (fun hc79 => ?_)
        ·
         simp only [bne_iff_ne, ne_eq] at hc79
         refine wpc_seq <| wpc_region <| wpl_q (q_pure rfl) rfl <| wpl_nil <| ex_then <| wpc_ret ?_
         refine ex_then_ret ?_
         refine ret1 (.inl rfl) rfl rfl ?_
         exact fun w h => ⟨by rw [chk8 (fun hh => by have hu := ku hh hc31; have := hu.1; have := hu.2.1; have := hu.2.2.1; omega)], h.below⟩
        ·
         simp only [bne_eq_false_iff_eq] at hc79
         have hn1 : (scanR s.dk).2 = s.dk.length := by omega
         have hn2 : (scanR (s.dk ++ s.pd)).2 = s.dk.length + s.pd.length := by omega
         have hn3 : (scanR (s.dk ++ s.pd)).1.length = s.ks.length := by omega
         refine wpc_skip <| ex_then <| wpc_seq <| wpc_seq <| wpc_region <| wpl_q (q_field Tryd.underlying35 rfl Tryd.ti26 rfl rfl _ rfl) rfl ?_
         refine wpl_q (q_ld Tryd.underlying26 rfl rfl zz13) rfl ?_
         refine wpl_q (q_lenW Tryd.underlying26 rfl zz3) rfl ?_
         refine wpl_q (q_pure rfl) rfl <| wpl_nil <| ex_then <| wpc_block ?_
         refine wpc_loopc (ι := { x : Nat // (x ≤ s.ks.length) ∧ (∀ j, j < x → okK (s.ks.getD j KE.z) ((scanR (s.dk ++ s.pd)).1.getD j KE.z) (durF (scanR s.dk).1 j) = true) }) [(3, _), (5, _), (81, _), (82, _)] (fun x Lc => (83, .int .i64 ((x.1 : Nat) : Int)) :: Lc) (fun x => Mem w [] [kRow b55 (scanR (s.dk ++ s.pd)).1, kRow b45 (scanR s.dk).1] []) (fun x => s.ks.length - x.1) ⟨0, ⟨Nat.zero_le _, fun j hj => absurd hj (Nat.not_lt_zero _)⟩⟩ zz14 ?_ ?_
         ·
          exact fun w h => h.sub SubC.h SubC.h
         ·
          rintro ⟨i, ⟨hi0, hi1⟩⟩; try dsimp only
          have hi0 : i ≤ s.ks.length := hi0; have hi1 : ∀ j, j < i → okK (s.ks.getD j KE.z) ((scanR (s.dk ++ s.pd)).1.getD j KE.z) (durF (scanR s.dk).1 j) = true := hi1
          refine wpc_seq <| wpc_region <| wpl_q (q_pure rfl) rfl <| wpl_nil <| ex_then <| wpc_seq ?_
          refine wpc_cond rfl (fun hc84 => ?_) (fun hc84 => ?_)
          ·
           simp only [decide_eq_true_eq] at hc84
           have hik : i < s.ks.length := by omega
           have hia : i < (scanR (s.dk ++ s.pd)).1.length := by omega
           refine wpc_skip <| ex_then <| wpc_seq <| wpc_block <| wpc_seq <| wpc_region <| wpl_q (q_pure rfl) rfl ?_
           refine wpl_q (q_idxW Tryd.underlying26 Tryd.ti40 rfl rfl zz3 zz1) rfl ?_
           refine wpl_q (q_ldWN Tryd.underlying40 rfl Tryd.ti40 rfl (fun w h => h.seen_old hs.k) (s.ks.getD i KE.z).c (kcs_part hik) rfl) rfl ?_
           refine wpl_t (t_alloc Tryd.ti40 _ rfl) rfl (fun b8 => ?_)
           refine wpl_q (q_pure rfl) rfl ?_
           refine wpl_t0 (t_stA Tryd.ti40 rfl rfl zz0 (ke_one _) zz0) (fun _ => ?_)
           refine wpl_nil <| ex_then <| wpc_seq <| wpc_region <| wpl_q (q_pure rfl) rfl ?_
           first | refine wpl_re 9 rfl (congrArg (Value.int .i64) hdu) ?_ | skip
           refine wpl_nil <| ex_then ?_
           refine wpc_cutc ({ x : Unit // True }) [(3, b45), (5, b55), (7, .int .i64 ((i : Nat) : Int)), (8, .pointer (some ⟨b8, 0, none⟩)), (81, kv), (82, .int .i64 ((s.ks.length : Nat) : Int)), (83, .int .i64 ((i : Nat) : Int))] (fun x Lc => (9, .int .i64 (durF (scanR s.dk).1 i)) :: Lc) (fun x => Mem w [] [.blk b8 40 (s.ks.getD i KE.z).c, kRow b55 (scanR (s.dk ++ s.pd)).1, kRow b45 (scanR s.dk).1] []) ?_ ?_
           ·
            refine wpc_seq <| wpc_region <| wpl_q (q_pure rfl) rfl <| wpl_q (q_pure rfl) rfl ?_
            refine wpl_q (q_lenW Tryd.underlying26 rfl zz3) rfl ?_
            refine wpl_q (q_pure rfl) rfl <| wpl_nil <| ex_then ?_
            refine wpc_cond rfl (fun hc91 => ?_) (fun hc91 => ?_)
            ·
             simp only [decide_eq_true_eq] at hc91
             have hid : i < (scanR s.dk).1.length := by omega
             have hdu : ((scanR s.dk).1.getD i KE.z).ak = (durF (scanR s.dk).1 i) := by rw [durF, if_pos hid]
             refine wpc_region <| wpl_q (q_pure rfl) rfl <| wpl_q (q_pure rfl) rfl ?_
             refine wpl_q (q_idxW Tryd.underlying26 Tryd.ti40 rfl rfl zz3 zz1) rfl ?_
             refine wpl_q (q_fieldPo 4 Tryd.underlying40 rfl Tryd.ti3 rfl rfl rfl) rfl ?_
             refine wpl_q (q_ldWF Tryd.underlying3 rfl rfl (fun w h => (show Seen w.cell? b45 (scanR s.dk).1.length 6 (kcs (scanR s.dk).1) from h.seenV)) (kcs_get hid rfl)) rfl ?_
             refine wpl_q (q_pure rfl) rfl ?_
             first | refine wpl_re 9 rfl (congrArg (Value.int .i64) hdu) ?_ | skip
             refine wpl_nil ?_
             refine ex_mid ⟨(), trivial⟩ ?_ ?_
             ·
              exact zz14
             ·
              exact fun w h => by first | exact h | exact h.sub SubC.h SubC.h | exact h.sub zz8 zz8
            ·
             simp only [decide_eq_false_iff_not] at hc91
             have hdu : (0 : Int) = (durF (scanR s.dk).1 i) := by rw [durF, if_neg zz16]
             refine wpc_re 9 rfl (congrArg (Value.int .i64) hdu) ?_
             refine wpc_skip ?_
             refine ex_mid ⟨(), trivial⟩ ?_ ?_
             ·
              exact zz14
             ·
              exact fun w h => by first | exact h | exact h.sub SubC.h SubC.h | exact h.sub zz8 zz8
           ·
            rintro ⟨_, _⟩; try dsimp only
            refine wpc_seq <| wpc_region <| wpl_q (q_pure rfl) rfl <| wpl_q (q_pure rfl) rfl ?_
            refine wpl_q (q_idxW Tryd.underlying26 Tryd.ti40 rfl rfl zz3 zz1) rfl ?_
            refine wpl_q (q_ldWN Tryd.underlying40 rfl Tryd.ti40 rfl (fun w h => h.seenV) ((scanR (s.dk ++ s.pd)).1.getD i KE.z).c (kcs_part hia) rfl) rfl ?_
            refine wpl_t (t_alloc Tryd.ti40 _ rfl) rfl (fun b10 => ?_)
            refine wpl_t0 (t_stA Tryd.ti40 rfl rfl zz0 (ke_one _) zz0) (fun _ => ?_)
            refine wpl_nil <| ex_then ?_
            refine wpc_cutc ({ x : Unit // True }) [(3, b45), (5, b55), (81, kv), (82, .int .i64 ((s.ks.length : Nat) : Int)), (83, .int .i64 ((i : Nat) : Int))] (fun x Lc => (143, .bool (!okK (s.ks.getD i KE.z) ((scanR (s.dk ++ s.pd)).1.getD i KE.z) (durF (scanR s.dk).1 i))) :: Lc) (fun x => Mem w [] [kRow b55 (scanR (s.dk ++ s.pd)).1, kRow b45 (scanR s.dk).1] []) ?_ ?_
            ·
             refine wpc_region <| wpl_q (q_field Tryd.underlying40 rfl Tryd.ti25 rfl rfl _ rfl) rfl ?_
             refine wpl_q (q_ld Tryd.underlying25 rfl rfl zz42) rfl ?_
             refine wpl_q (q_field Tryd.underlying40 rfl Tryd.ti25 rfl rfl _ rfl) rfl ?_
             refine wpl_q (q_ld Tryd.underlying25 rfl rfl zz42) rfl ?_
             refine wpl_q (q32_neq rfl rfl) rfl <| wpl_q (q_pure rfl) rfl ?_
             refine wpl_bool2 106 105 rfl rfl (fun hb106 => ?_) (fun hb106 => ?_)
             ·
              try simp only [decide_eq_true_eq, decide_eq_false_iff_not, Bool.and_eq_true, Bool.or_eq_true, beq_iff_eq, bne_iff_ne, ne_eq, Bool.not_eq_true', Bool.not_eq_false', Decidable.not_not] at hb106
              refine wpl_off rfl rfl rfl rfl <| wpl_off rfl rfl rfl rfl <| wpl_off rfl rfl rfl rfl <| wpl_off rfl rfl rfl rfl <| wpl_off rfl rfl rfl rfl <| wpl_q (q_pure rfl) rfl <| wpl_q (q_pure rfl) rfl <| wpl_off rfl rfl rfl rfl <| wpl_off rfl rfl rfl rfl <| wpl_off rfl rfl rfl rfl <| wpl_off rfl rfl rfl rfl <| wpl_off rfl rfl rfl rfl ?_
              refine wpl_q (q_pure rfl) rfl <| wpl_q (q_pure rfl) rfl <| wpl_off rfl rfl rfl rfl <| wpl_off rfl rfl rfl rfl <| wpl_off rfl rfl rfl rfl <| wpl_off rfl rfl rfl rfl <| wpl_off rfl rfl rfl rfl <| wpl_q (q_pure rfl) rfl <| wpl_q (q_pure rfl) rfl <| wpl_off rfl rfl rfl rfl <| wpl_off rfl rfl rfl rfl <| wpl_off rfl rfl rfl rfl ?_
              refine wpl_off rfl rfl rfl rfl <| wpl_q (q_pure rfl) rfl <| wpl_q (q_pure rfl) rfl <| wpl_off rfl rfl rfl rfl <| wpl_off rfl rfl rfl rfl <| wpl_off rfl rfl rfl rfl <| wpl_q (q_pure rfl) rfl <| wpl_q (q_pure rfl) rfl <| wpl_off rfl rfl rfl rfl <| wpl_off rfl rfl rfl rfl <| wpl_off rfl rfl rfl rfl <| wpl_off rfl rfl rfl rfl ?_
              refine wpl_q (q_pure rfl) rfl ?_
              refine wpl_re 143 rfl (congrArg Value.bool (show _ = !(okK (s.ks.getD i KE.z) ((scanR (s.dk ++ s.pd)).1.getD i KE.z) (durF (scanR s.dk).1 i)) from zz11)) ?_
              refine wpl_nil ?_
              refine ex_mid ⟨(), trivial⟩ ?_ ?_
              ·
               exact zz14
              ·
               exact fun w h => by first | exact h | exact h.sub SubC.h SubC.h | exact h.sub zz8 zz8
             ·
              try simp only [decide_eq_true_eq, decide_eq_false_iff_not, Bool.and_eq_true, Bool.or_eq_true, beq_iff_eq, bne_iff_ne, ne_eq, Bool.not_eq_true', Bool.not_eq_false', Decidable.not_not] at hb106
              refine wpl_on rfl rfl <| wpl_q (q_field Tryd.underlying40 rfl Tryd.ti3 rfl rfl _ rfl) rfl <| wpl_on rfl rfl ?_
              refine wpl_q (q_ld Tryd.underlying3 rfl rfl zz38) rfl ?_
              refine wpl_on rfl rfl <| wpl_q (q_field Tryd.underlying40 rfl Tryd.ti3 rfl rfl _ rfl) rfl <| wpl_on rfl rfl ?_
              refine wpl_q (q_ld Tryd.underlying3 rfl rfl zz38) rfl ?_
              refine wpl_on rfl rfl <| wpl_q (q_pure rfl) rfl <| wpl_q (q_pure rfl) rfl <| wpl_q (q_pure rfl) rfl ?_
              refine wpl_bool2 113 111 rfl rfl (fun hb113 => ?_) (fun hb113 => ?_)
              ·
               try simp only [decide_eq_true_eq, decide_eq_false_iff_not, Bool.and_eq_true, Bool.or_eq_true, beq_iff_eq, bne_iff_ne, ne_eq, Bool.not_eq_true', Bool.not_eq_false', Decidable.not_not] at hb113
               refine wpl_off rfl rfl rfl rfl <| wpl_off rfl rfl rfl rfl <| wpl_off rfl rfl rfl rfl <| wpl_off rfl rfl rfl rfl <| wpl_off rfl rfl rfl rfl <| wpl_q (q_pure rfl) rfl <| wpl_q (q_pure rfl) rfl <| wpl_off rfl rfl rfl rfl <| wpl_off rfl rfl rfl rfl <| wpl_off rfl rfl rfl rfl <| wpl_off rfl rfl rfl rfl <| wpl_off rfl rfl rfl rfl ?_
               refine wpl_q (q_pure rfl) rfl <| wpl_q (q_pure rfl) rfl <| wpl_off rfl rfl rfl rfl <| wpl_off rfl rfl rfl rfl <| wpl_off rfl rfl rfl rfl <| wpl_off rfl rfl rfl rfl <| wpl_q (q_pure rfl) rfl <| wpl_q (q_pure rfl) rfl <| wpl_off rfl rfl rfl rfl <| wpl_off rfl rfl rfl rfl <| wpl_off rfl rfl rfl rfl <| wpl_q (q_pure rfl) rfl ?_
               refine wpl_q (q_pure rfl) rfl <| wpl_off rfl rfl rfl rfl <| wpl_off rfl rfl rfl rfl <| wpl_off rfl rfl rfl rfl <| wpl_off rfl rfl rfl rfl <| wpl_q (q_pure rfl) rfl ?_
               refine wpl_re 143 rfl (congrArg Value.bool (show _ = !(okK (s.ks.getD i KE.z) ((scanR (s.dk ++ s.pd)).1.getD i KE.z) (durF (scanR s.dk).1 i)) from zz11)) ?_
               refine wpl_nil ?_
               refine ex_mid ⟨(), trivial⟩ ?_ ?_
               ·
                exact zz14
               ·
                exact fun w h => by first | exact h | exact h.sub SubC.h SubC.h | exact h.sub zz8 zz8
              ·
               try simp only [decide_eq_true_eq, decide_eq_false_iff_not, Bool.and_eq_true, Bool.or_eq_true, beq_iff_eq, bne_iff_ne, ne_eq, Bool.not_eq_true', Bool.not_eq_false', Decidable.not_not] at hb113
               refine wpl_on rfl rfl <| wpl_q (q_field Tryd.underlying40 rfl Tryd.ti3 rfl rfl _ rfl) rfl <| wpl_on rfl rfl ?_
               refine wpl_q (q_ld Tryd.underlying3 rfl rfl zz38) rfl ?_
               refine wpl_on rfl rfl <| wpl_q (q_field Tryd.underlying40 rfl Tryd.ti3 rfl rfl _ rfl) rfl <| wpl_on rfl rfl ?_
               refine wpl_q (q_ld Tryd.underlying3 rfl rfl zz38) rfl ?_
               refine wpl_on rfl rfl <| wpl_q (q_pure rfl) rfl <| wpl_q (q_pure rfl) rfl <| wpl_q (q_pure rfl) rfl ?_
               refine wpl_bool2 120 118 rfl rfl (fun hb120 => ?_) (fun hb120 => ?_)
               ·
                try simp only [decide_eq_true_eq, decide_eq_false_iff_not, Bool.and_eq_true, Bool.or_eq_true, beq_iff_eq, bne_iff_ne, ne_eq, Bool.not_eq_true', Bool.not_eq_false', Decidable.not_not] at hb120
                refine wpl_off rfl rfl rfl rfl <| wpl_off rfl rfl rfl rfl <| wpl_off rfl rfl rfl rfl <| wpl_off rfl rfl rfl rfl <| wpl_off rfl rfl rfl rfl <| wpl_q (q_pure rfl) rfl <| wpl_q (q_pure rfl) rfl <| wpl_off rfl rfl rfl rfl <| wpl_off rfl rfl rfl rfl <| wpl_off rfl rfl rfl rfl <| wpl_off rfl rfl rfl rfl <| wpl_q (q_pure rfl) rfl ?_
                refine wpl_q (q_pure rfl) rfl <| wpl_off rfl rfl rfl rfl <| wpl_off rfl rfl rfl rfl <| wpl_off rfl rfl rfl rfl <| wpl_q (q_pure rfl) rfl <| wpl_q (q_pure rfl) rfl <| wpl_off rfl rfl rfl rfl <| wpl_off rfl rfl rfl rfl <| wpl_off rfl rfl rfl rfl <| wpl_off rfl rfl rfl rfl <| wpl_q (q_pure rfl) rfl ?_
                refine wpl_re 143 rfl (congrArg Value.bool (show _ = !(okK (s.ks.getD i KE.z) ((scanR (s.dk ++ s.pd)).1.getD i KE.z) (durF (scanR s.dk).1 i)) from zz11)) ?_
                refine wpl_nil ?_
                refine ex_mid ⟨(), trivial⟩ ?_ ?_
                ·
                 exact zz14
                ·
                 exact fun w h => by first | exact h | exact h.sub SubC.h SubC.h | exact h.sub zz8 zz8
               ·
                try simp only [decide_eq_true_eq, decide_eq_false_iff_not, Bool.and_eq_true, Bool.or_eq_true, beq_iff_eq, bne_iff_ne, ne_eq, Bool.not_eq_true', Bool.not_eq_false', Decidable.not_not] at hb120
                refine wpl_on rfl rfl <| wpl_q (q_field Tryd.underlying40 rfl Tryd.ti4 rfl rfl _ rfl) rfl <| wpl_on rfl rfl ?_
                refine wpl_q (q_ld Tryd.underlying4 rfl rfl (by first | exact vbs_get zz5 | rfl)) rfl ?_
                refine wpl_on rfl rfl <| wpl_q (q_field Tryd.underlying40 rfl Tryd.ti4 rfl rfl _ rfl) rfl <| wpl_on rfl rfl ?_
                refine wpl_q (q_ld Tryd.underlying4 rfl rfl (by first | exact vbs_get zz5 | rfl)) rfl ?_
                refine wpl_on rfl rfl <| wpl_q (q_bne Tryd.underlying4 rfl rfl) rfl <| wpl_q (q_pure rfl) rfl <| wpl_q (q_pure rfl) rfl ?_
                refine wpl_bool2 127 125 rfl rfl (fun hb127 => ?_) (fun hb127 => ?_)
                ·
                 try simp only [decide_eq_true_eq, decide_eq_false_iff_not, Bool.and_eq_true, Bool.or_eq_true, beq_iff_eq, bne_iff_ne, ne_eq, Bool.not_eq_true', Bool.not_eq_false', Decidable.not_not] at hb127
                 refine wpl_off rfl rfl rfl rfl <| wpl_off rfl rfl rfl rfl <| wpl_off rfl rfl rfl rfl <| wpl_off rfl rfl rfl rfl <| wpl_q (q_pure rfl) rfl <| wpl_q (q_pure rfl) rfl <| wpl_off rfl rfl rfl rfl <| wpl_off rfl rfl rfl rfl <| wpl_off rfl rfl rfl rfl <| wpl_q (q_pure rfl) rfl <| wpl_q (q_pure rfl) rfl <| wpl_off rfl rfl rfl rfl ?_
                 refine wpl_off rfl rfl rfl rfl <| wpl_off rfl rfl rfl rfl <| wpl_off rfl rfl rfl rfl <| wpl_q (q_pure rfl) rfl ?_
                 refine wpl_re 143 rfl (congrArg Value.bool (show _ = !(okK (s.ks.getD i KE.z) ((scanR (s.dk ++ s.pd)).1.getD i KE.z) (durF (scanR s.dk).1 i)) from zz11)) ?_
                 refine wpl_nil ?_
                 refine ex_mid ⟨(), trivial⟩ ?_ ?_
                 ·
                  exact zz14
                 ·
                  exact fun w h => by first | exact h | exact h.sub SubC.h SubC.h | exact h.sub zz8 zz8
                ·
                 try simp only [decide_eq_true_eq, decide_eq_false_iff_not, Bool.and_eq_true, Bool.or_eq_true, beq_iff_eq, bne_iff_ne, ne_eq, Bool.not_eq_true', Bool.not_eq_false', Decidable.not_not] at hb127
                 refine wpl_on rfl rfl <| wpl_q (q_field Tryd.underlying40 rfl Tryd.ti3 rfl rfl _ rfl) rfl <| wpl_on rfl rfl ?_
                 refine wpl_q (q_ld Tryd.underlying3 rfl rfl zz38) rfl ?_
                 refine wpl_on rfl rfl <| wpl_q (q_pure rfl) rfl <| wpl_on rfl rfl <| wpl_q (q_pure rfl) rfl <| wpl_q (q_pure rfl) rfl <| wpl_q (q_pure rfl) rfl ?_
                 refine wpl_bool2 133 131 rfl rfl (fun hb133 => ?_) (fun hb133 => ?_)
                 ·
                  try simp only [decide_eq_true_eq, decide_eq_false_iff_not, Bool.and_eq_true, Bool.or_eq_true, beq_iff_eq, bne_iff_ne, ne_eq, Bool.not_eq_true', Bool.not_eq_false', Decidable.not_not] at hb133
                  refine wpl_off rfl rfl rfl rfl <| wpl_off rfl rfl rfl rfl <| wpl_off rfl rfl rfl rfl <| wpl_q (q_pure rfl) rfl <| wpl_q (q_pure rfl) rfl <| wpl_off rfl rfl rfl rfl <| wpl_off rfl rfl rfl rfl <| wpl_off rfl rfl rfl rfl <| wpl_off rfl rfl rfl rfl <| wpl_q (q_pure rfl) rfl ?_
                  refine wpl_re 143 rfl (congrArg Value.bool (show _ = !(okK (s.ks.getD i KE.z) ((scanR (s.dk ++ s.pd)).1.getD i KE.z) (durF (scanR s.dk).1 i)) from zz11)) ?_
                  refine wpl_nil ?_
                  refine ex_mid ⟨(), trivial⟩ ?_ ?_
                  ·
                   exact zz14
                  ·
                   exact fun w h => by first | exact h | exact h.sub SubC.h SubC.h | exact h.sub zz8 zz8
                 ·
                  try simp only [decide_eq_true_eq, decide_eq_false_iff_not, Bool.and_eq_true, Bool.or_eq_true, beq_iff_eq, bne_iff_ne, ne_eq, Bool.not_eq_true', Bool.not_eq_false', Decidable.not_not] at hb133
                  refine wpl_on rfl rfl <| wpl_q (q_field Tryd.underlying40 rfl Tryd.ti3 rfl rfl _ rfl) rfl <| wpl_on rfl rfl ?_
                  refine wpl_q (q_ld Tryd.underlying3 rfl rfl zz38) rfl ?_
                  refine wpl_on rfl rfl <| wpl_q (q_pure rfl) rfl <| wpl_q (q_pure rfl) rfl <| wpl_q (q_pure rfl) rfl ?_
                  refine wpl_bool2 138 136 rfl rfl (fun hb138 => ?_) (fun hb138 => ?_)
                  ·
                   try simp only [decide_eq_true_eq, decide_eq_false_iff_not, Bool.and_eq_true, Bool.or_eq_true, beq_iff_eq, bne_iff_ne, ne_eq, Bool.not_eq_true', Bool.not_eq_false', Decidable.not_not] at hb138
                   refine wpl_off rfl rfl rfl rfl <| wpl_off rfl rfl rfl rfl <| wpl_off rfl rfl rfl rfl <| wpl_off rfl rfl rfl rfl <| wpl_q (q_pure rfl) rfl ?_
                   refine wpl_re 143 rfl (congrArg Value.bool (show _ = !(okK (s.ks.getD i KE.z) ((scanR (s.dk ++ s.pd)).1.getD i KE.z) (durF (scanR s.dk).1 i)) from zz11)) ?_
                   refine wpl_nil ?_
                   refine ex_mid ⟨(), trivial⟩ ?_ ?_
                   ·
                    exact zz14
                   ·
                    exact fun w h => by first | exact h | exact h.sub SubC.h SubC.h | exact h.sub zz8 zz8
                  ·
                   try simp only [decide_eq_true_eq, decide_eq_false_iff_not, Bool.and_eq_true, Bool.or_eq_true, beq_iff_eq, bne_iff_ne, ne_eq, Bool.not_eq_true', Bool.not_eq_false', Decidable.not_not] at hb138
                   refine wpl_on rfl rfl <| wpl_q (q_field Tryd.underlying40 rfl Tryd.ti3 rfl rfl _ rfl) rfl <| wpl_on rfl rfl ?_
                   refine wpl_q (q_ld Tryd.underlying3 rfl rfl zz38) rfl ?_
                   refine wpl_on rfl rfl <| wpl_q (q_pure rfl) rfl <| wpl_on rfl rfl <| wpl_q (q_pure rfl) rfl <| wpl_q (q_pure rfl) rfl ?_
                   refine wpl_re 143 rfl (congrArg Value.bool (show _ = !(okK (s.ks.getD i KE.z) ((scanR (s.dk ++ s.pd)).1.getD i KE.z) (durF (scanR s.dk).1 i)) from zz11)) ?_
                   refine wpl_nil ?_
                   refine ex_mid ⟨(), trivial⟩ ?_ ?_
                   ·
                    exact zz14
                   ·
                    exact fun w h => by first | exact h | exact h.sub SubC.h SubC.h | exact h.sub zz8 zz8
            ·
             rintro ⟨_, _⟩; try dsimp only
             refine wpc_cond rfl (fun hc143 => ?_) (fun hc143 => ?_)
             ·
              simp only [Bool.not_eq_true'] at hc143
              refine wpc_seq <| wpc_region <| wpl_q (q_pure rfl) rfl <| wpl_nil <| ex_then <| wpc_ret ?_
              refine ex_block_ret ?_
              refine ex_then_ret ?_
              refine ex_then_ret ?_
              refine ex_block_ret ?_
              refine ex_then_ret ?_
              refine ret1 (.inl rfl) rfl rfl ?_
              exact fun w h => ⟨by rw [chk8 (fun hh => by have h4 := (ku hh hc31).2.2.2 i hik; rw [hc143] at h4; cases h4)], h.below⟩
             ·
              simp only [Bool.not_eq_false'] at hc143
              refine wpc_skip <| ex_block <| ex_then <| wpc_region ?_
              refine wpl_q (q_addN (b := 1) rfl rfl zz1) rfl ?_
              refine wpl_q (q_pure rfl) rfl <| wpl_nil ?_
              refine ex_again ⟨i + 1, ⟨zz16, fun j hj => by rcases Nat.lt_succ_iff_lt_or_eq.1 hj with h | rfl; exact hi1 j h; exact hc143⟩⟩ ?_ ?_ ?_
              ·
               exact zz14
              ·
               exact fun w h => by first | exact h | exact h.sub SubC.h SubC.h | exact h.sub zz8 zz8
              ·
               (show s.ks.length - (i + 1) < s.ks.length - i); omega
          ·
           simp only [decide_eq_false_iff_not] at hc84
           obtain rfl : i = s.ks.length := by omega
           refine wpc_exit ?_
           refine ex_then_exit ?_
           refine ex_then_exit ?_
           refine ex_block_hit ?_
           refine ex_then <| wpc_seq <| wpc_region <| wpl_q (q_pure rfl) rfl <| wpl_nil <| ex_then <| wpc_ret ?_
           refine ret1 (.inl rfl) rfl rfl ?_
           exact fun w h => ⟨by rw [chk0 (show ChkP s from ⟨zz16, zz16, zz16, (fun hh => by rw [hc31] at hh; cases hh), fun _ => ⟨hn1, hn2, hn3, hi1⟩⟩)], h.below⟩
end Go.Proofs.YtoaeklbenmlooaaDoor
namespace Go.Proofs.YtoaeklbenmlooaaDoor
open Go Go.PL Go.RowKit
abbrev ids (ks : List KE) : List UInt32 := ks.map KE.id
theorem ids_set {ks : List KE} {i : Nat} {x : KE} (h : x.id = (ks.getD i KE.z).id) : ids (ks.set i x) = ids ks := by
  apply List.ext_getElem (by simp [ids])
  intro n h1 h2
  simp only [ids, List.length_map, List.length_set] at h1 h2
  simp only [ids, List.getElem_map, List.getElem_set]
  split
  · rename_i hh
    subst hh
    rw [h, List.getD_eq_getElem?_getD, List.getElem?_eq_getElem h2]; rfl
  · rfl
theorem readF_ids {ks k' : List KE} {r : Rec} (h : readF ks r = some k') : ids k' = ids ks ∨ (ids k' = ids ks ++ [r.id] ∧ placeF ks r.id < 0) := by
  unfold readF at h
  by_cases h1 : r.k = 1
  · rw [if_pos h1] at h
    split at h
    · cases h
    · rename_i hc
      cases h
      refine .inr ⟨by simp [ids], ?_⟩
      apply Int.not_le.1
      exact fun hh => hc (.inl hh)
  · rw [if_neg h1] at h
    dsimp only at h
    split at h
    · cases h
    · split at h
      · split at h
        · cases h
        · cases h; exact .inl (ids_set rfl)
      · split at h
        · split at h
          · cases h
          · cases h; exact .inl (ids_set rfl)
        · cases h
theorem place_mem {ks : List KE} {id : UInt32} (h : placeF ks id < 0) : id ∉ ids ks := by
  rcases idxF_spec (isId id) KE.z ks with ⟨_, h2⟩ | ⟨j, _, h2, _⟩
  · intro hm
    obtain ⟨k, hk, rfl⟩ := List.mem_map.1 hm
    have := h2 k hk
    simp [isId] at this
  · rw [placeF, h2] at h; omega
theorem scanF_ids : ∀ (rs : List Rec) (ks : List KE), (ids ks).Nodup → (∃ t, ids (scanF ks rs).1 = ids ks ++ t) ∧ (ids (scanF ks rs).1).Nodup
  | [], ks, h => ⟨⟨[], by simp [scanF]⟩, h⟩
  | r :: rs, ks, h => by
    rw [scanF]
    cases hr : readF ks r with
    | none => exact ⟨⟨[], zz50⟩, h⟩
    | some k' =>
      dsimp only
      rcases readF_ids hr with h1 | ⟨h1, h2⟩
      · have := scanF_ids rs k' (by rw [h1]; exact h)
        rw [h1] at this; exact this
      · have hn : (ids k').Nodup := by
          rw [h1]
          exact List.nodup_append.2 ⟨h, zz50, fun a ha b hb e => by
            rw [List.mem_singleton] at hb
            subst hb e; exact place_mem h2 ha⟩
        obtain ⟨⟨t, ht⟩, h3⟩ := scanF_ids rs k' hn
        exact ⟨⟨[r.id] ++ t, by rw [ht, h1, List.append_assoc]⟩, h3⟩
theorem scanF_leL : ∀ (rs : List Rec) (ks : List KE), (scanF ks rs).2 ≤ 10 * rs.length
  | [], _ => Nat.le_refl _
  | r :: rs, ks => by
    rw [scanF]
    cases hr : readF ks r with
    | none => exact Nat.zero_le _
    | some k' => have := scanF_leL rs k'; simp only [List.length_cons]; omega
theorem scanF_app : ∀ (rs l : List Rec) (ks : List KE), (scanF ks rs).2 = 10 * rs.length → (scanF ks (rs ++ l)).1 = (scanF (scanF ks rs).1 l).1
  | [], _, _, _ => rfl
  | r :: rs, l, ks, h => by
    rw [scanF] at h
    rw [List.cons_append, scanF, scanF]
    cases hr : readF ks r with
    | none => rw [hr] at h; simp at h
    | some k' => rw [hr] at h; exact scanF_app rs l k' (by simp only [List.length_cons] at h; omega)
theorem recs_leL : ∀ (n : Nat) (bs : List UInt8), bs.length ≤ n → 10 * (recs bs).length ≤ bs.length
  | 0, bs, h => by rw [recs_short zz16]; simp
  | n + 1, bs, h => by
    by_cases h1 : 10 ≤ bs.length
    · cases h2 : okRec bs with
      | false => rw [recs_bad h2]; simp
      | true =>
        rw [recs_cons h1 h2, List.length_cons]
        have := recs_leL n (bs.drop 10) zz45
        rw [List.length_drop] at this; omega
    · rw [recs_short zz16]; simp
theorem getD_app {a b : List UInt8} {i : Nat} (h : i < a.length) : (a ++ b).getD i 0 = a.getD i 0 := by
  rw [List.getD_eq_getElem?_getD, List.getD_eq_getElem?_getD, List.getElem?_append_left h]
theorem recAt_app {a b : List UInt8} (h : 10 ≤ a.length) : recAt (a ++ b) = recAt a := by
  unfold recAt
  rw [getD_app zz16, getD_app zz16, getD_app zz16, getD_app zz16, getD_app zz16, getD_app zz16, getD_app zz16, getD_app zz16]
theorem recs_app : ∀ (n : Nat) (a b : List UInt8), a.length ≤ n → 10 * (recs a).length = a.length → recs (a ++ b) = recs a ++ recs b
  | 0, a, b, h, _ => by
    obtain rfl : a = [] := List.eq_nil_of_length_eq_zero zz16
    rfl
  | n + 1, a, b, h, he => by
    by_cases h1 : 10 ≤ a.length
    · cases h2 : okRec a with
      | false => rw [recs_bad h2] at he; simp at he; omega
      | true =>
        have h3 : okRec (a ++ b) = true := by
          unfold okRec at h2 ⊢
          rw [recAt_app h1, List.take_append_of_le_length h1]; exact h2
        rw [recs_cons h1 h2, List.length_cons] at he
        rw [recs_cons h1 h2, recs_cons (by rw [List.length_append]; omega) h3, recAt_app h1, List.drop_append_of_le_length h1, recs_app n (a.drop 10) b zz45 zz45]
        rfl
    · rw [recs_short zz16] at he
      obtain rfl : a = [] := List.eq_nil_of_length_eq_zero (by simp at he; omega)
      rfl
theorem scanR_app {dk : List UInt8} (pd : List UInt8) (h : (scanR dk).2 = dk.length) : (scanR (dk ++ pd)).1 = (scanF (scanR dk).1 (recs pd)).1 := by
  have h1 := scanF_leL (recs dk) []
  have h2 := recs_leL dk.length dk (Nat.le_refl _)
  have h3 : (scanR dk).2 = (scanF [] (recs dk)).2 := rfl
  have e : 10 * (recs dk).length = dk.length := by omega
  rw [scanR, recs_app dk.length dk pd (Nat.le_refl _) e, scanF_app _ _ _ zz16]; rfl
theorem scanR_nodup (bs : List UInt8) : (ids (scanR bs).1).Nodup := (scanF_ids (recs bs) [] (by simp [ids])).2
theorem id_get {ks : List KE} {i : Nat} (h : i < ks.length) : (ids ks)[i]? = some (ks.getD i KE.z).id := by
  rw [ids, List.getElem?_map, List.getD_eq_getElem?_getD, List.getElem?_eq_getElem h]; rfl
theorem place_nodup {ks : List KE} {i : Nat} (hn : (ids ks).Nodup) (h : i < ks.length) : placeF ks (ks.getD i KE.z).id = (i : Int) := by
  rcases idxF_spec (isId (ks.getD i KE.z).id) KE.z ks with ⟨_, h2⟩ | ⟨j, h1, h2, h3, h4⟩
  · exfalso
    have hm : ks.getD i KE.z ∈ ks := by rw [List.getD_eq_getElem?_getD, List.getElem?_eq_getElem h]; exact List.getElem_mem h
    have := h2 _ hm
    simp [isId] at this
  · rw [placeF, h2]
    have e : (ks.getD j KE.z).id = (ks.getD i KE.z).id := by simpa [isId] using h3
    have e1 := id_get h1
    have e2 := id_get h
    rw [e] at e1
    have hj : j < (ids ks).length := by rw [ids, List.length_map]; exact h1
    have hi : i < (ids ks).length := by rw [ids, List.length_map]; exact h
    rw [List.getElem?_eq_getElem hj] at e1
    rw [List.getElem?_eq_getElem hi] at e2
    have eq : (ids ks)[j] = (ids ks)[i] := by rw [Option.some.inj e1, Option.some.inj e2]
    have hpw := List.pairwise_iff_getElem.1 hn
    rcases Nat.lt_trichotomy j i with hl | hl | hl
    · exact absurd eq (hpw j i hj hi hl)
    · rw [hl]
    · exact absurd eq.symm (hpw i j hi hj hl)
end Go.Proofs.YtoaeklbenmlooaaDoor
namespace Go.Proofs.YtoaeklbenmlooaaDoor
open Go Go.PL Go.RowKit
section
variable {k a : KE} {d : Int}
theorem okb (h : okK k a d = true) : k.id = a.id ∧ k.ht = a.ht ∧ k.ak = a.ak ∧ k.dr = a.dr := by
  simp only [okK, Bool.and_eq_true, decide_eq_true_eq] at h
  exact ⟨h.1.1.1.1.1.1, h.1.1.1.1.1.2, h.1.1.1.1.2, h.1.1.1.2⟩
end
section
variable {k a : KE}
end
end Go.Proofs.YtoaeklbenmlooaaDoor
namespace Go.Proofs.YtoaeklbenmlooaaDoor
open Go Go.PL Go.RowKit
theorem list32 {xs : List UInt8} (h : xs.length = 32) : ∃ a0 a1 a2 a3 a4 a5 a6 a7 a8 a9 a10 a11 a12 a13 a14 a15 a16 a17 a18 a19 a20 a21 a22 a23 a24 a25 a26 a27 a28 a29 a30 a31, xs = [a0, a1, a2, a3, a4, a5, a6, a7, a8, a9, a10, a11, a12, a13, a14, a15, a16, a17, a18, a19, a20, a21, a22, a23, a24, a25, a26, a27, a28, a29, a30, a31] := by
  iterate 32 (cases xs with | nil => simp at h | cons a xs => ?_)
  cases xs with
  | nil => exact ⟨_, _, _, _, _, _, _, _, _, _, _, _, _, _, _, _, _, _, _, _, _, _, _, _, _, _, _, _, _, _, _, _, rfl⟩
  | cons a xs => simp at h
def St.z : St := ⟨List.replicate 32 0, 0, false, [], [], []⟩
abbrev nl : Value := .slice none 0 0
theorem built_st0 : Tryd.prog.built 35 [] = some (St.z.c nl nl nl).toArray := by kernel_rfl
theorem built_st3 (xs : List UInt8) (n : Int) (b : Bool) (h : xs.length = 32) : Tryd.prog.built 35 [(0, .agg (v8s xs).toArray), (1, .int .i64 n), (2, .bool b)] = some ((⟨xs, n, b, [], [], []⟩ : St).c nl nl nl).toArray := by
  obtain ⟨a0, a1, a2, a3, a4, a5, a6, a7, a8, a9, a10, a11, a12, a13, a14, a15, a16, a17, a18, a19, a20, a21, a22, a23, a24, a25, a26, a27, a28, a29, a30, a31, rfl⟩ := list32 h
  kernel_rfl
def upF (s : St) (is : Bool) : Int := if ChkP s then (if s.up = is then 0 else 32) else 8
theorem upF_8 {s : St} {is : Bool} (h : ¬ chkF s = 0) : upF s is = 8 := by
  unfold upF; rw [if_neg]; intro hh; exact h (chk0 hh)
theorem chk_ok {s : St} (h : chkF s = 0) : ChkP s := by
  unfold chkF at h; split at h
  · assumption
  · cases h
theorem upF_32 {s : St} {is : Bool} (h : chkF s = 0) (h2 : ¬ s.up = is) : upF s is = 32 := by unfold upF; rw [if_pos (chk_ok h), if_neg h2]
theorem upF_0 {s : St} {is : Bool} (h : chkF s = 0) (h2 : s.up = is) : upF s is = 0 := by unfold upF; rw [if_pos (chk_ok h), if_pos h2]
theorem upF_ok {s : St} {is : Bool} (h : upF s is = 0) : ChkP s ∧ s.up = is := by
  unfold upF at h
  split at h
  · split at h
    · exact ⟨zz54, zz54⟩
    · cases h
  · cases h
def thereF (s : St) (id : UInt32) : Int × Int := if upF s true = 0 then (if placeF s.ks id < 0 ∨ (s.ks.getD (placeF s.ks id).toNat KE.z).dr = true then (0, 6) else (placeF s.ks id, 0)) else (0, upF s true)
theorem chk_nodup {s : St} (h : ChkU s) : (ids s.ks).Nodup := by
  have e : ids s.ks = ids (scanR (s.dk ++ s.pd)).1 := by
    apply List.ext_getElem?
    intro i
    by_cases hi : i < s.ks.length
    · rw [id_get hi, id_get (by rw [h.2.2.1]; exact hi), (okb (h.2.2.2 i hi)).1]
    · rw [List.getElem?_eq_none (by rw [ids, List.length_map]; omega), List.getElem?_eq_none (by rw [ids, List.length_map, h.2.2.1]; omega)]
  rw [e]; exact scanR_nodup _
theorem th_place {ks : List KE} {id : UInt32} (hn : (ids ks).Nodup) : idxF (isTh id) ks = if placeF ks id < 0 ∨ (ks.getD (placeF ks id).toNat KE.z).dr = true then -1 else placeF ks id := by
  rcases idxF_spec (isTh id) KE.z ks with ⟨h1, h2⟩ | ⟨j, h1, h2, h3, h4⟩
  · rw [h1]
    by_cases hp : placeF ks id < 0
    · rw [if_pos (.inl hp)]
    · rcases idxF_spec (isId id) KE.z ks with ⟨e, _⟩ | ⟨k, g1, g2, g3, _⟩
      · exact absurd (show placeF ks id < 0 by rw [placeF, e]; decide) hp
      · rw [if_pos]
        right
        rw [show placeF ks id = (k : Int) from g2, Int.toNat_natCast]
        have hm : ks.getD k KE.z ∈ ks := by rw [List.getD_eq_getElem?_getD, List.getElem?_eq_getElem g1]; exact List.getElem_mem g1
        have h5 := h2 _ hm
        simp only [isId, decide_eq_true_eq] at g3
        cases hd : (ks.getD k KE.z).dr
        · simp only [isTh, g3, hd, decide_true, Bool.not_false, Bool.and_true] at h5; cases h5
        · rfl
  · rw [h2]
    simp only [isTh, Bool.and_eq_true, decide_eq_true_eq, Bool.not_eq_true'] at h3
    have e := place_nodup hn h1
    rw [h3.1] at e
    rw [if_neg, e]
    rw [e, Int.toNat_natCast]
    rintro (h | h)
    · omega
    · rw [h3.2] at h; cases h
theorem up_ (s : St) (dv pv kv : Value) (is : Bool) (w : World) (hs : StS w.cell? s dv pv kv)  :
    Calls Tryd.prog 40 [.agg (s.c dv pv kv).toArray, .bool is].toArray w (Pur w (.int .i64 (upF s is))) := by
  have sdv := hs.d.sv
  have spv := hs.p.sv
  have skv := hs.k.sv
  have l1hs := hs.ld
  have l2hs := hs.lp
  have l3hs := hs.lk
  refine enter (m := 14) (R := Mem w [] [] []) Tryd.func40 rfl rfl (Nat.le_of_ble_eq_true rfl) (Mem.start w) ?_
  refine wpc_seq <| wpc_region ?_
  refine wpl_t (t_box rfl (s.c dv pv kv) rfl) rfl (fun b2 => ?_)
  refine wpl_q (q_pure rfl) rfl <| wpl_nil <| ex_then <| wpc_seq <| wpc_block <| wpc_seq <| wpc_region <| wpl_q (q_ldN Tryd.underlying35 rfl Tryd.ti35 rfl (St.c_length hs.len)) rfl ?_
  refine wpl_t (t_pur Tryd.hb60 rfl fun w h => check _ _ _ _ w zz25) rfl (fun b7 => ?_)
  refine wpl_q (q_pure rfl) rfl <| wpl_q (q_pure rfl) rfl <| wpl_nil <| ex_then ?_
  refine wpc_cond rfl (fun hc5 => ?_) (fun hc5 => ?_)
  ·
   simp only [bne_iff_ne, ne_eq] at hc5
   refine wpc_seq <| wpc_region <| wpl_q (q_pure rfl) rfl <| wpl_nil <| ex_then <| wpc_ret ?_
   refine ex_block_ret ?_
   refine ex_then_ret ?_
   refine ret1 (.inl rfl) rfl rfl ?_
   exact fun w h => ⟨by rw [upF_8 hc5], h.below⟩
  ·
   simp only [bne_eq_false_iff_eq] at hc5
   refine wpc_seq <| wpc_region <| wpl_q (q_field Tryd.underlying35 rfl Tryd.ti4 rfl rfl _ rfl) rfl ?_
   refine wpl_q (q_ld Tryd.underlying4 rfl rfl zz13) rfl ?_
   refine wpl_q (q_pure rfl) rfl <| wpl_q (q_bne Tryd.underlying4 rfl rfl) rfl <| wpl_q (q_pure rfl) rfl <| wpl_nil <| ex_then ?_
   refine wpc_cond rfl (fun hc9 => ?_) (fun hc9 => ?_)
   ·
    have hne : ¬ s.up = is := by simpa using hc9
    refine wpc_seq <| wpc_region <| wpl_q (q_pure rfl) rfl <| wpl_nil <| ex_then <| wpc_ret ?_
    refine ex_block_ret ?_
    refine ex_then_ret ?_
    refine ret1 (.inl rfl) rfl rfl ?_
    exact fun w h => ⟨by rw [upF_32 hc5 hne], h.below⟩
   ·
    have heq : s.up = is := by simpa using hc9
    refine wpc_skip <| ex_block <| ex_then <| wpc_seq <| wpc_region <| wpl_q (q_pure rfl) rfl <| wpl_nil <| ex_then <| wpc_ret ?_
    refine ret1 (.inl rfl) rfl rfl ?_
    exact fun w h => ⟨by rw [upF_0 hc5 heq], h.below⟩
end Go.Proofs.YtoaeklbenmlooaaDoor
namespace Go.Proofs.YtoaeklbenmlooaaDoor
open Go Go.PL Go.RowKit
theorem th_0 {s : St} {id : UInt32} (h : ¬ upF s true = 0) : thereF s id = (0, upF s true) := if_neg h
theorem th_6 {s : St} {id : UInt32} (h : upF s true = 0) (h2 : placeF s.ks id < 0 ∨ (s.ks.getD (placeF s.ks id).toNat KE.z).dr = true) : thereF s id = (0, 6) := by unfold thereF; rw [if_pos h, if_pos h2]
theorem th_ok {s : St} {id : UInt32} (h : upF s true = 0) (h2 : ¬ (placeF s.ks id < 0 ∨ (s.ks.getD (placeF s.ks id).toNat KE.z).dr = true)) : thereF s id = (placeF s.ks id, 0) := by unfold thereF; rw [if_pos h, if_neg h2]
theorem th_idx {s : St} {id : UInt32} (h : upF s true = 0) : idxF (isTh id) s.ks = if placeF s.ks id < 0 ∨ (s.ks.getD (placeF s.ks id).toNat KE.z).dr = true then -1 else placeF s.ks id :=
  th_place (chk_nodup ((upF_ok h).1.2.2.2.2 (upF_ok h).2))
theorem cl_nil {a : Option Addr} {cap : Nat} {sz : Nat} {n : Nat} {cs : List Value} {r : Rd} (h : Seen r (.slice a n cap) n sz cs) (hn : a.isNone = true) : n = 0 := by
  obtain ⟨a', cap', e, h1, h2, h3⟩ := h.sv
  simp only [Value.slice.injEq] at e
  obtain ⟨rfl, _, rfl⟩ := e
  have := h3 (by simpa using hn)
  omega
theorem there_ (s : St) (dv pv kv : Value) (id : UInt32) (w : World) (hs : StS w.cell? s dv pv kv)  :
    Calls Tryd.prog 27 [.agg (s.c dv pv kv).toArray, .int .u32 id.toNat].toArray w (Pur w (.tuple #[.int .i64 (thereF s id).1, .int .i64 (thereF s id).2])) := by
  have sdv := hs.d.sv
  have spv := hs.p.sv
  have skv := hs.k.sv
  have l1hs := hs.ld
  have l2hs := hs.lp
  have l3hs := hs.lk
  refine enter (m := 20) (R := Mem w [] [] []) Tryd.func27 rfl rfl (Nat.le_of_ble_eq_true rfl) (Mem.start w) ?_
  refine wpc_seq <| wpc_region ?_
  refine wpl_t (t_box rfl (s.c dv pv kv) rfl) rfl (fun b2 => ?_)
  refine wpl_t (t_box rfl [.int .u32 (id.toNat : Int)] rfl) rfl (fun b3 => ?_)
  refine wpl_q (q_pure rfl) rfl <| wpl_q (q_pure rfl) rfl <| wpl_nil <| ex_then <| wpc_seq <| wpc_seq <| wpc_region <| wpl_q (q_ldN Tryd.underlying35 rfl Tryd.ti35 rfl (St.c_length hs.len)) rfl ?_
  refine wpl_t (t_pur Tryd.hb40 rfl fun w h => up_ _ _ _ _ _ w zz25) rfl (fun b9 => ?_)
  refine wpl_q (q_pure rfl) rfl <| wpl_nil <| ex_then <| wpc_seq <| wpc_region <| wpl_q (q_pure rfl) rfl <| wpl_q (q_pure rfl) rfl <| wpl_nil <| ex_then ?_
  refine wpc_cond rfl (fun hc11 => ?_) (fun hc11 => ?_)
  ·
   simp only [bne_iff_ne, ne_eq] at hc11
   refine wpc_seq <| wpc_region <| wpl_q (q_pure rfl) rfl <| wpl_q (q_pure rfl) rfl <| wpl_q (q_pure rfl) rfl <| wpl_nil <| ex_then <| wpc_ret ?_
   refine ex_then_ret ?_
   refine ret2 (.inl rfl) rfl rfl rfl ?_
   exact fun w h => ⟨by rw [th_0 hc11], h.below⟩
  ·
   simp only [bne_eq_false_iff_eq] at hc11
   have hix := th_idx (id := id) hc11
   refine wpc_skip <| ex_then <| wpc_seq <| wpc_region <| wpl_q (q_field Tryd.underlying35 rfl Tryd.ti26 rfl rfl _ rfl) rfl ?_
   refine wpl_q (q_ld Tryd.underlying26 rfl rfl zz13) rfl ?_
   refine wpl_q (q_fn (us := []) (vs := [.pointer (some ⟨b3, 0, none⟩)]) rfl rfl) rfl ?_
   refine wpl_t (t_pur Tryd.hb41 rfl fun w2 h => find_ kv s.ks 42 _ (isTh id) w2 (h.seen_old hs.k) Tryd.hb42 fun w3 h3 k => there1 k b3 id w3 (h3 _ _ (h.cell_blk zz7 rfl))) rfl (fun b16 => ?_)
   refine wpl_q (q_pure rfl) rfl <| wpl_nil <| ex_then <| wpc_seq <| wpc_seq <| wpc_region <| wpl_q (q_pure rfl) rfl <| wpl_q (q_pure rfl) rfl <| wpl_nil <| ex_then ?_
   refine wpc_cond rfl (fun hc18 => ?_) (fun hc18 => ?_)
   ·
    simp only [decide_eq_true_eq] at hc18
    have h6 : placeF s.ks id < 0 ∨ (s.ks.getD (placeF s.ks id).toNat KE.z).dr = true := by
      rw [hix] at hc18; split at hc18
      · assumption
      · exact .inl hc18
    refine wpc_seq <| wpc_region <| wpl_q (q_pure rfl) rfl <| wpl_q (q_pure rfl) rfl <| wpl_nil <| ex_then <| wpc_ret ?_
    refine ex_then_ret ?_
    refine ret2 (.inl rfl) rfl rfl rfl ?_
    exact fun w h => ⟨by rw [th_6 hc11 h6], h.below⟩
   ·
    simp only [decide_eq_false_iff_not] at hc18
    have h6 : ¬ (placeF s.ks id < 0 ∨ (s.ks.getD (placeF s.ks id).toNat KE.z).dr = true) := by
      intro hh; rw [hix, if_pos hh] at hc18; exact hc18 zz27
    refine wpc_skip <| ex_then <| wpc_seq <| wpc_region <| wpl_q (q_pure rfl) rfl <| wpl_q (q_pure rfl) rfl <| wpl_q (q_pure rfl) rfl <| wpl_nil <| ex_then <| wpc_ret ?_
    refine ret2 (.inl rfl) rfl rfl rfl ?_
    exact fun w h => ⟨by rw [th_ok hc11 h6, hix, if_neg h6], h.below⟩
theorem cloneB0 (a : Option Addr) (cap : Nat) (xs : List UInt8) (w : World) (hav : Seen w.cell? (.slice a xs.length cap) xs.length 1 (v8s xs)) (hl : xs.length ≤ 2000) :
    Calls Tryd.prog 43 [.slice a xs.length cap].toArray w (GivesP w (fun v => SV v xs.length) (fun v => v) (fun v => [.row v xs.length 5 1 (v8s xs)]) (fun _ => [])) := by
  have sav := hav.sv
  refine enter (m := 8) (R := Mem w [] [] []) Tryd.func43 rfl rfl (Nat.le_of_ble_eq_true rfl) (Mem.start w) ?_
  refine wpc_seq <| wpc_region <| wpl_q (q_pure rfl) rfl <| wpl_nil <| ex_then <| wpc_seq <| wpc_seq <| wpc_region <| wpl_q (q_pure rfl) rfl ?_
  refine wpl_q (q_slNil Tryd.underlying22 rfl rfl zz6) rfl ?_
  refine wpl_nil <| ex_then ?_
  refine wpc_cond rfl (fun hc4 => ?_) (fun hc4 => ?_)
  ·
   have h0 := cl_nil hav hc4
   have hx0 := List.eq_nil_of_length_eq_zero h0
   subst hx0
   refine wpc_seq <| wpc_region <| wpl_q (q_pure rfl) rfl <| wpl_nil <| ex_then <| wpc_ret ?_
   refine ex_then_ret ?_
   refine ret1 (.inl rfl) rfl rfl ?_
   exact fun w h => ⟨.slice none 0 0, SV.nil, rfl, h.below, (h.nilRow 5 1).made zz8 .nil⟩
  ·
   refine wpc_skip <| ex_then <| wpc_seq <| wpc_region ?_
   refine wpl_tp (t_bs0W Tryd.underlying22 Tryd.ti5) rfl (fun b5 p5 => ?_)
   refine wpl_q (q_pure rfl) rfl ?_
   refine wpl_tp (t_ap0 Tryd.underlying22 Tryd.ti5 rfl zz27 rfl rfl (fun w h => h.seen_old hav) (v8s_one _) zz1 zz1) rfl (fun b7 p7 => ?_)
   refine wpl_q (q_pure rfl) rfl <| wpl_nil <| ex_then <| wpc_ret ?_
   refine ret1 (.inl rfl) rfl rfl ?_
   exact fun w h => ⟨b7, p7, rfl, h.below, h.made SubC.h .nil⟩
theorem cloneK0 (a : Option Addr) (cap : Nat) (ks : List KE) (w : World) (hav : Seen w.cell? (.slice a ks.length cap) ks.length 6 (kcs ks)) (hl : ks.length ≤ 100) :
    Calls Tryd.prog 44 [.slice a ks.length cap].toArray w (GivesP w (fun v => SV v ks.length) (fun v => v) (fun v => [.row v ks.length 40 6 (kcs ks)]) (fun _ => [])) := by
  have sav := hav.sv
  refine enter (m := 8) (R := Mem w [] [] []) Tryd.func44 rfl rfl (Nat.le_of_ble_eq_true rfl) (Mem.start w) ?_
  refine wpc_seq <| wpc_region <| wpl_q (q_pure rfl) rfl <| wpl_nil <| ex_then <| wpc_seq <| wpc_seq <| wpc_region <| wpl_q (q_pure rfl) rfl ?_
  refine wpl_q (q_slNil Tryd.underlying26 rfl rfl zz6) rfl ?_
  refine wpl_nil <| ex_then ?_
  refine wpc_cond rfl (fun hc4 => ?_) (fun hc4 => ?_)
  ·
   have h0 := cl_nil hav hc4
   have hx0 := List.eq_nil_of_length_eq_zero h0
   subst hx0
   refine wpc_seq <| wpc_region <| wpl_q (q_pure rfl) rfl <| wpl_nil <| ex_then <| wpc_ret ?_
   refine ex_then_ret ?_
   refine ret1 (.inl rfl) rfl rfl ?_
   exact fun w h => ⟨.slice none 0 0, SV.nil, rfl, h.below, (h.nilRow 40 6).made zz8 .nil⟩
  ·
   refine wpc_skip <| ex_then <| wpc_seq <| wpc_region ?_
   refine wpl_tp (t_bs0W Tryd.underlying26 Tryd.ti40) rfl (fun b5 p5 => ?_)
   refine wpl_q (q_pure rfl) rfl ?_
   refine wpl_tp (t_ap0 Tryd.underlying26 Tryd.ti40 rfl zz27 rfl rfl (fun w h => h.seen_old hav) (kcs_one _) zz1 zz1) rfl (fun b7 p7 => ?_)
   refine wpl_q (q_pure rfl) rfl <| wpl_nil <| ex_then <| wpc_ret ?_
   refine ret1 (.inl rfl) rfl rfl ?_
   exact fun w h => ⟨b7, p7, rfl, h.below, h.made SubC.h .nil⟩
theorem cloneB (v : Value) (xs : List UInt8) (w : World) (h : Seen w.cell? v xs.length 1 (v8s xs)) (hl : xs.length ≤ 2000) : Calls Tryd.prog 43 [v].toArray w (GivesP w (fun v => SV v xs.length) (fun v => v) (fun v => [.row v xs.length 5 1 (v8s xs)]) (fun _ => [])) := by
  obtain ⟨a, cap, rfl, _⟩ := h.sv
  exact cloneB0 a cap xs w h hl
theorem cloneK (v : Value) (ks : List KE) (w : World) (h : Seen w.cell? v ks.length 6 (kcs ks)) (hl : ks.length ≤ 100) : Calls Tryd.prog 44 [v].toArray w (GivesP w (fun v => SV v ks.length) (fun v => v) (fun v => [kRow v ks]) (fun _ => [])) := by
  obtain ⟨a, cap, rfl, _⟩ := h.sv
  exact cloneK0 a cap ks w h hl
theorem rev3 {w0 w : World} {Ln : List Nat} {a b c : Ent} {X : List Ent} {S : List Fact} (h : Mem w0 Ln (a :: b :: c :: X) S w) : Mem w0 Ln (c :: b :: a :: X) S w := h.perm ((List.reverse_perm [c, b, a]).append_right X)
abbrev V3 := Value × Value × Value
def St.sv (s : St) (x : V3) : Prop := SV x.1 s.dk.length ∧ SV x.2.1 s.pd.length ∧ SV x.2.2 s.ks.length
abbrev stV (s : St) (x : V3) : Value := .agg (s.c x.1 x.2.1 x.2.2).toArray
abbrev dRow (v : Value) (xs : List UInt8) : Ent := .row v xs.length 5 1 (v8s xs)
theorem twin (s : St) (dv pv kv : Value) (w : World) (hs : StS w.cell? s dv pv kv)  :
    Calls Tryd.prog 28 [.agg (s.c dv pv kv).toArray].toArray w (GivesP w (fun x : V3 => s.sv x) (fun x => stV s x) (fun x => [dRow x.1 s.dk, dRow x.2.1 s.pd, kRow x.2.2 s.ks]) (fun _ => [])) := by
  have sdv := hs.d.sv
  have spv := hs.p.sv
  have skv := hs.k.sv
  have l1hs := hs.ld
  have l2hs := hs.lp
  have l3hs := hs.lk
  refine enter (m := 16) (R := Mem w [] [] []) Tryd.func28 rfl rfl (Nat.le_of_ble_eq_true rfl) (Mem.start w) ?_
  refine wpc_seq <| wpc_region ?_
  refine wpl_t (t_box rfl (s.c dv pv kv) rfl) rfl (fun b1 => ?_)
  refine wpl_t (t_alloc Tryd.ti35 _ rfl) rfl (fun b2 => ?_)
  refine wpl_nil <| ex_then <| wpc_seq ?_
  refine wpc_draw 10 zz6 (fun _ h => h.drew) ?_
  refine wpd_p 0 rfl zz6 trivial (q_field Tryd.underlying35 rfl Tryd.ti22 rfl rfl _ rfl) rfl sk0 ?_
  refine wpd_q 1 rfl zz6 trivial (q_ld Tryd.underlying22 rfl rfl zz13) rfl (fun _ h => h) ?_
  refine wpd_p 3 rfl zz6 trivial (q_field Tryd.underlying35 rfl Tryd.ti22 rfl rfl _ rfl) rfl sk0 ?_
  refine wpd_q 4 rfl zz6 trivial (q_ld Tryd.underlying22 rfl rfl zz13) rfl (fun _ h => h) ?_
  refine wpd_p 6 rfl zz6 trivial (q_field Tryd.underlying35 rfl Tryd.ti26 rfl rfl _ rfl) rfl sk0 ?_
  refine wpd_q 7 rfl zz6 trivial (q_ld Tryd.underlying26 rfl rfl zz13) rfl (fun _ h => h) ?_
  refine wpd_tp 2 rfl zz6 trivial (t_callP1 Tryd.hb43 rfl fun w h => cloneB _ _ w zz15 zz16) rfl (fun _ => (fun w h => .inr (h.sub SubC.h SubC.h))) (fun b5 p5 => ?_)
  refine wpd_p 9 rfl zz6 trivial (q_field Tryd.underlying35 rfl Tryd.ti22 rfl rfl _ rfl) rfl (fun w h => .inr (h.sub SubC.h SubC.h)) ?_
  refine wpd_tp 5 rfl zz6 trivial (t_callP1 Tryd.hb43 rfl fun w h => cloneB _ _ w zz15 zz16) rfl (fun _ => (fun w h => .inr (h.sub SubC.h SubC.h))) (fun b8 p8 => ?_)
  refine wpd_tp 8 rfl zz6 trivial (t_callP1 Tryd.hb44 rfl fun w h => cloneK _ _ w zz15 zz16) rfl (fun _ => (fun w h => .inr (h.sub SubC.h SubC.h))) (fun b11 p11 => ?_)
  refine wpd_t0 10 rfl zz6 trivial (t_st1 Tryd.ti22 rfl rfl (SV.one zz3) (by rw [St.c_length hs.len]; decide) _ zz40) (fun _ => skk rfl) (fun _ => ?_)
  refine wpd_p 11 rfl zz6 trivial (q_field Tryd.underlying35 rfl Tryd.ti22 rfl rfl _ rfl) rfl (skk rfl) ?_
  refine wpd_t0 12 rfl zz6 trivial (t_st1 Tryd.ti22 rfl rfl (SV.one zz3) (by rw [St.c_length hs.len]; decide) _ zz40) (fun _ => skk rfl) (fun _ => ?_)
  refine wpd_p 13 rfl zz6 trivial (q_field Tryd.underlying35 rfl Tryd.ti26 rfl rfl _ rfl) rfl (skk rfl) ?_
  refine wpd_t0 14 rfl zz6 trivial (t_st1 Tryd.ti26 rfl rfl (SV.one zz3) (by rw [St.c_length hs.len]; decide) _ zz40) (fun _ => skk rfl) (fun _ => ?_)
  refine wpd_done zz6 ?_
  refine ex_then <| wpc_seq <| wpc_region <| wpl_q (q_ldN Tryd.underlying35 rfl Tryd.ti35 rfl (St.c_length hs.len)) rfl ?_
  refine wpl_t0 (t_stA Tryd.ti35 rfl rfl (St.c_length hs.len) (St.c_one p5 p8 p11) rfl) (fun _ => ?_)
  refine wpl_nil <| ex_then <| wpc_ret ?_
  refine retv1 (.inl rfl) rfl (rv_agg Tryd.underlying35 rfl Tryd.ti35 rfl (fun w h => h.atB) (St.c_length hs.len)) ?_
  exact fun w h => ⟨(b5, b8, b11), ⟨p5, p8, p11⟩, rfl, h.below, (rev3 h).made SubC.h .nil⟩
end Go.Proofs.YtoaeklbenmlooaaDoor
namespace Go.Proofs.YtoaeklbenmlooaaDoor
open Go Go.PL Go.RowKit
section
variable {P : Program} {n : Cx} {L : Slots} {Q : Exit → Act → World → Prop} {w0 w : World} {Ln : List Nat} {M : List Ent} {S : List Fact}
theorem t_callF {k : FuncId} {args : Array Operand} {at_ : Array TypeId} {vs : List Value} {ι : Type} {p : ι → Prop} {V : ι → Value} {N : ι → List Ent} (M1 X : List Ent) (Z : ι → List Ent) (hM : Sub (M1 ++ X) M) (hZ : ∀ x, N x ++ X = Z x) (hb : HasBody P k) (hv : evs L args.toList = some vs)
    (hc : ∀ w, Mem w0 Ln M S w → Mem w (nums M1) M1 [] w → Calls P k vs.toArray w (GivesA w M1 p V N)) :
    TOpP P Q n (Mem w0 Ln M S) L (.call { callee := .value (.func k), args := args, argTypes := at_ }) ι p V (fun x => Mem w0 Ln (Z x) S) := by
  obtain rfl : (fun x => N x ++ X) = Z := funext hZ
  have h : TOp P Q n (Mem w0 Ln M S) L (.call { callee := .value (.func k), args := args, argTypes := at_ }) { x : ι // p x } (fun x => V x.1) (fun x => Mem w0 Ln (N x.1 ++ X) S) :=
    t_callG (cap := #[]) rfl hb hv fun w hm0 => by
      have hm := hm0.sub hM (Sub.refl _)
      simp only [Array.append_empty]
      refine (hc w hm0 (Mem.startL w (fun e he => hm.own e (List.mem_append_left _ he)) (List.pairwise_append.1 hm.apart).1)).mono ?_
      rintro en w' ⟨x, hp, rfl, h2⟩
      exact ⟨⟨x, hp⟩, rfl, ((hm.perm List.perm_append_comm).framedS h2).perm List.perm_append_comm⟩
  exact h.rep fun x w h => ⟨x.1, x.2, rfl, h⟩
theorem t_callFV {f : Operand} {k : FuncId} {args : Array Operand} {at_ : Array TypeId} {us vs : List Value} {ι : Type} {p : ι → Prop} {V : ι → Value} {E : ι → Ent}
    (hf : ev L f = some (.func (.func k) us.toArray #[])) (hb : HasBody P k) (hv : evs L args.toList = some vs) (hc : ∀ w, Mem w0 Ln M S w → Calls P k (us ++ vs).toArray w (GivesP w p V (fun x => [E x]) fun _ => [])) :
    TOpP P Q n (Mem w0 Ln M S) L (.call { callee := .value f, args := args, argTypes := at_ }) ι p V (fun x => Mem w0 Ln (E x :: M) S) := by
  intro d ty pos af g a w K hs hm hk
  have hargs : args.map a.eval = vs.toArray := by
    have e : (args.map a.eval).toList = vs := by rw [Array.toList_map]; exact evs_eval hs hv
    rw [← e]
  have hrun : (execOp a.eval ⟨d, .call { callee := .value f, args := args, argTypes := at_ }, ty, pos, af, g⟩).run P w = .ok (.enter k (us ++ vs).toArray) w := by
    simp only [execOp, resolve, hs.eval hf, hargs]
    simp [Deferred.ofValue, invoke, run_callFunc hb]
  unfold Oper.wp
  rw [hrun]
  refine (hc w hm).mono ?_
  rintro e w' ⟨x, hp, rfl, hbel, hnew⟩
  exact hk x w' hp (hm.call hbel hnew)
end
theorem St.c_lt {s : St} {dv pv kv : Value} (h : s.ms.length = 32) {k : Nat} (hk : k < 37) : k < (s.c dv pv kv).length := by rw [St.c_length h]; exact hk
def newF (m : List UInt8) (n : Int) : St × Int := if n < 1 ∨ 16 < n then (St.z, 2) else (⟨m, n, true, [], [], []⟩, 0)
def writeF (s : St) (bs : List UInt8) : St × Int := if 1000 < s.dk.length + s.pd.length + 10 then (St.z, 16) else ({ s with pd := s.pd ++ bs }, 0)
theorem dRow_app (v : Value) (xs ys : List UInt8) : dRow v (xs ++ ys) = .row v (xs.length + ys.length) 5 1 (v8s (xs ++ ys)) := by rw [dRow, List.length_append]
theorem zSV : St.z.sv (nl, nl, nl) := ⟨SV.nil, SV.nil, SV.nil⟩
theorem subNil {α : Type} : ∀ M : List α, Sub [] M
  | [] => .nil
  | _ :: t => .drop (subNil t)
theorem zRows {w0 w : World} {Ln : List Nat} {M : List Ent} {S : List Fact} (h : Mem w0 Ln M S w) : Mem w0 Ln [dRow nl St.z.dk, dRow nl St.z.pd, kRow nl St.z.ks] [] w := (((h.sub (subNil _) (subNil _)).nilRow 40 6).nilRow 5 1).nilRow 5 1
theorem new_ (m : List UInt8) (n : Int) (w : World) (hm : m.length = 32)  :
    Calls Tryd.prog 58 [.agg (v8s m).toArray, .int .i64 n].toArray w (Pur w (.tuple #[.agg ((newF m n).1.c nl nl nl).toArray, .int .i64 (newF m n).2])) := by
  refine enter (m := 16) (R := Mem w [] [] []) Tryd.func58 rfl rfl (Nat.le_of_ble_eq_true rfl) (Mem.start w) ?_
  refine wpc_seq <| wpc_region ?_
  refine wpl_t (t_box rfl (v8s m) rfl) rfl (fun b2 => ?_)
  refine wpl_t (t_alloc Tryd.ti35 _ rfl) rfl (fun b4 => ?_)
  refine wpl_q (q_pure rfl) rfl <| wpl_nil <| ex_then <| wpc_seq <| wpc_seq <| wpc_region <| wpl_q (q_pure rfl) rfl <| wpl_q (q_pure rfl) rfl <| wpl_q (q_pure rfl) rfl ?_
  refine wpl_bool2 8 7 rfl rfl (fun hb8 => ?_) (fun hb8 => ?_)
  ·
   try simp only [decide_eq_true_eq] at hb8
   refine wpl_off rfl rfl rfl rfl <| wpl_off rfl rfl rfl rfl <| wpl_q (q_pure rfl) rfl <| wpl_nil <| ex_then ?_
   refine wpc_cond_t rfl ?_
   refine wpc_seq <| wpc_region ?_
   refine wpl_q (q_build (cs := St.z.c nl nl nl) rfl built_st0) rfl ?_
   refine wpl_t0 (t_stA Tryd.ti35 rfl rfl (by first | exact St.c_length rfl | exact St.c_length hs.len) zz47 (by first | exact St.c_length hs.len | exact St.c_length rfl | rfl)) (fun _ => ?_)
   refine wpl_q (q_pure rfl) rfl <| wpl_nil <| ex_then <| wpc_ret ?_
   refine ex_then_ret ?_
   refine retv2 (.inl rfl) rfl (rv_agg Tryd.underlying35 rfl Tryd.ti35 rfl (fun w h => h.atB) (St.c_length (by first | rfl | exact hm))) (rv_tmp rfl) ?_
   exact fun w h => ⟨by rw [newF, if_pos (.inl hb8)], h.below⟩
  ·
   try simp only [decide_eq_false_iff_not] at hb8
   refine wpl_on rfl rfl <| wpl_q (q_pure rfl) rfl <| wpl_on rfl rfl <| wpl_q (q_pure rfl) rfl <| wpl_q (q_pure rfl) rfl <| wpl_nil <| ex_then ?_
   refine wpc_cond rfl (fun hc11 => ?_) (fun hc11 => ?_)
   ·
    simp only [decide_eq_true_eq] at hc11
    refine wpc_seq <| wpc_region ?_
    refine wpl_q (q_build (cs := St.z.c nl nl nl) rfl built_st0) rfl ?_
    refine wpl_t0 (t_stA Tryd.ti35 rfl rfl (by first | exact St.c_length rfl | exact St.c_length hs.len) zz47 (by first | exact St.c_length hs.len | exact St.c_length rfl | rfl)) (fun _ => ?_)
    refine wpl_q (q_pure rfl) rfl <| wpl_nil <| ex_then <| wpc_ret ?_
    refine ex_then_ret ?_
    refine retv2 (.inl rfl) rfl (rv_agg Tryd.underlying35 rfl Tryd.ti35 rfl (fun w h => h.atB) (St.c_length (by first | rfl | exact hm))) (rv_tmp rfl) ?_
    exact fun w h => ⟨by rw [newF, if_pos (.inr hc11)], h.below⟩
   ·
    simp only [decide_eq_false_iff_not] at hc11
    refine wpc_skip <| ex_then <| wpc_seq <| wpc_region ?_
    refine wpl_q (q_ldN Tryd.underlying24 rfl Tryd.ti24 rfl zz0) rfl ?_
    refine wpl_q (q_pure rfl) rfl ?_
    refine wpl_q (q_build (cs := (⟨m, n, true, [], [], []⟩ : St).c nl nl nl) rfl (built_st3 m n true hm)) rfl ?_
    refine wpl_t0 (t_stA Tryd.ti35 rfl rfl (St.c_length hm) zz47 rfl) (fun _ => ?_)
    refine wpl_q (q_pure rfl) rfl <| wpl_nil <| ex_then <| wpc_ret ?_
    refine retv2 (.inl rfl) rfl (rv_agg Tryd.underlying35 rfl Tryd.ti35 rfl (fun w h => h.atB) (St.c_length (by first | rfl | exact hm))) (rv_tmp rfl) ?_
    exact fun w h => ⟨by rw [newF, if_neg zz16], h.below⟩
theorem write_ (s : St) (dv pv kv : Value) (r : Rec) (w : World) (hb : Mem w (nums [dRow dv s.dk, dRow pv s.pd, kRow kv s.ks]) [dRow dv s.dk, dRow pv s.pd, kRow kv s.ks] [] w) (hlen : s.ms.length = 32) (hsv : s.sv (dv, pv, kv)) (hld : s.dk.length ≤ 1200) (hlp : s.pd.length ≤ 1200)  :
    Calls Tryd.prog 39 [.agg (s.c dv pv kv).toArray, .func (.func 35) #[.agg r.c.toArray] #[]].toArray w (GivesA w [dRow dv s.dk, dRow pv s.pd, kRow kv s.ks] (fun x : V3 => (writeF s (recB r)).1.sv x) (fun x => .tuple #[stV (writeF s (recB r)).1 x, .int .i64 (writeF s (recB r)).2]) (fun x => [dRow x.1 (writeF s (recB r)).1.dk, dRow x.2.1 (writeF s (recB r)).1.pd, kRow x.2.2 (writeF s (recB r)).1.ks])) := by
  have sdv : SV dv s.dk.length := hsv.1
  have spv : SV pv s.pd.length := hsv.2.1
  have skv : SV kv s.ks.length := hsv.2.2
  refine enter (m := 23) (R := Mem w (nums [dRow dv s.dk, dRow pv s.pd, kRow kv s.ks]) [dRow dv s.dk, dRow pv s.pd, kRow kv s.ks] []) Tryd.func39 rfl rfl (Nat.le_of_ble_eq_true rfl) hb ?_
  refine wpc_seq <| wpc_region ?_
  refine wpl_t (t_box rfl (s.c dv pv kv) rfl) rfl (fun b2 => ?_)
  refine wpl_t (t_alloc Tryd.ti35 _ rfl) rfl (fun b4 => ?_)
  refine wpl_q (q_pure rfl) rfl <| wpl_nil <| ex_then <| wpc_seq <| wpc_seq <| wpc_region <| wpl_q (q_field Tryd.underlying35 rfl Tryd.ti22 rfl rfl _ rfl) rfl ?_
  refine wpl_q (q_ld Tryd.underlying22 rfl rfl zz61) rfl ?_
  refine wpl_q (q_lenW Tryd.underlying22 rfl zz3) rfl ?_
  refine wpl_q (q_field Tryd.underlying35 rfl Tryd.ti22 rfl rfl _ rfl) rfl ?_
  refine wpl_q (q_ld Tryd.underlying22 rfl rfl zz61) rfl ?_
  refine wpl_q (q_lenW Tryd.underlying22 rfl zz3) rfl ?_
  refine wpl_q (q_addN rfl rfl zz1) rfl ?_
  refine wpl_q (q_addN (b := 10) rfl rfl zz1) rfl ?_
  refine wpl_q (q_pure rfl) rfl <| wpl_nil <| ex_then ?_
  refine wpc_cond rfl (fun hc14 => ?_) (fun hc14 => ?_)
  ·
   simp only [decide_eq_true_eq] at hc14
   refine wpc_seq <| wpc_region ?_
   refine wpl_q (q_build (cs := St.z.c nl nl nl) rfl built_st0) rfl ?_
   refine wpl_t0 (t_stA Tryd.ti35 rfl rfl (St.c_length (by first | exact hlen | rfl)) zz47 rfl) (fun _ => ?_)
   refine wpl_q (q_pure rfl) rfl <| wpl_nil <| ex_then <| wpc_ret ?_
   refine ex_then_ret ?_
   refine retv2 (.inl rfl) rfl (rv_agg Tryd.underlying35 rfl Tryd.ti35 rfl (fun w h => h.atB) (St.c_length (by first | exact hlen | rfl))) (rv_tmp rfl) ?_
   exact fun w h => ⟨(nl, nl, nl), by rw [writeF, if_pos zz16]; exact zSV, by rw [writeF, if_pos zz16], by rw [writeF, if_pos zz16]; exact zRows h⟩
  ·
   simp only [decide_eq_false_iff_not] at hc14
   refine wpc_skip <| ex_then <| wpc_seq ?_
   refine wpc_draw 4 zz6 (fun _ h => h.drew) ?_
   refine wpd_p 0 rfl zz6 trivial (q_field Tryd.underlying35 rfl Tryd.ti22 rfl rfl _ rfl) rfl sk0 ?_
   refine wpd_q 1 rfl zz6 trivial (q_ld Tryd.underlying22 rfl rfl zz61) rfl (fun _ h => h) ?_
   refine wpd_p 2 rfl zz6 trivial (q_pure rfl) rfl sk0 ?_
   refine wpd_tp 3 rfl zz6 trivial (t_callFV rfl Tryd.hb35 rfl fun w h => recBytes r w) rfl (fun _ => (fun w h => .inr (h.sub SubC.h SubC.h))) (fun b19 p19 => ?_)
   refine wpd_tp 4 rfl zz6 trivial (t_apW Tryd.underlying22 Tryd.ti5 rfl zz27 rfl rfl (fun w h => h.seenV) (v8s_one _) zz1 zz1 (v8s (s.pd ++ recB r)) (by rw [v8s_append])) rfl (fun _ => skk rfl) (fun b20 p20 => ?_)
   refine wpd_p 5 rfl zz6 trivial (q_field Tryd.underlying35 rfl Tryd.ti22 rfl rfl _ rfl) rfl (skk rfl) ?_
   refine wpd_t0 6 rfl zz6 trivial (t_st1 Tryd.ti22 rfl rfl (SV.one zz3) (St.c_lt hlen zz27) _ (by first | exact St.s_d hlen _ | exact St.s_p hlen _ | exact St.s_k hlen _)) (fun _ => skk rfl) (fun _ => ?_)
   refine wpd_done zz6 ?_
   refine ex_then <| wpc_seq <| wpc_region <| wpl_q (q_ldN Tryd.underlying35 rfl Tryd.ti35 rfl (St.c_length hlen)) rfl ?_
   refine wpl_t0 (t_stA Tryd.ti35 rfl rfl (St.c_length (by first | exact hlen | rfl)) zz47 rfl) (fun _ => ?_)
   refine wpl_q (q_pure rfl) rfl <| wpl_nil <| ex_then <| wpc_ret ?_
   refine retv2 (.inl rfl) rfl (rv_agg Tryd.underlying35 rfl Tryd.ti35 rfl (fun w h => h.atB) (St.c_length (by first | exact hlen | rfl))) (rv_tmp rfl) ?_
   exact fun w h => ⟨(dv, b20, kv), by rw [writeF, if_neg zz16]; exact ⟨sdv, by rw [List.length_append]; exact p20, skv⟩, by rw [writeF, if_neg zz16]; rfl, by rw [writeF, if_neg zz16]; dsimp only; rw [dRow_app, recB_length]; exact h.sub SubC.h .nil⟩
end Go.Proofs.YtoaeklbenmlooaaDoor
namespace Go.Proofs.YtoaeklbenmlooaaDoor
open Go Go.PL Go.RowKit
theorem kRow_snoc (v : Value) (ks : List KE) (k : KE) : kRow v (ks ++ [k]) = .row v (ks.length + 1) 40 6 (kcs (ks ++ [k])) := by rw [kRow, List.length_append]; rfl
theorem kRow_set (v : Value) (ks : List KE) (j : Nat) (k : KE) : kRow v (ks.set j k) = .row v ks.length 40 6 (kcs (ks.set j k)) := by rw [kRow, List.length_set]
theorem writeF_len {s : St} {bs : List UInt8} (h : s.ms.length = 32) : (writeF s bs).1.ms.length = 32 := by
  unfold writeF; split
  · rfl
  · exact h
def addK (s : St) (id : UInt32) (ht : Int) : St := { s with ks := s.ks ++ [⟨id, ht, 0, 0, 0, false⟩] }
def createF (s : St) (id : UInt32) (ht : Int) : St × Int :=
  if ¬ upF s true = 0 then (St.z, upF s true) else if ht < 0 ∨ 4 < ht then (St.z, 2) else if 0 ≤ placeF s.ks id then (St.z, 14) else if 8 ≤ s.ks.length then (St.z, 4)
  else writeF (addK s id ht) (recB ⟨1, of8 ht, 0, id⟩)
theorem createF_len {s : St} {id : UInt32} {ht : Int} (h : s.ms.length = 32) : (createF s id ht).1.ms.length = 32 := by
  unfold createF
  split
  · rfl
  · split
    · rfl
    · split
      · rfl
      · split
        · rfl
        · exact writeF_len h
theorem cr1 {s : St} {id : UInt32} {ht : Int} (h : ¬ upF s true = 0) : createF s id ht = (St.z, upF s true) := if_pos h
theorem cr2 {s : St} {id : UInt32} {ht : Int} (h : upF s true = 0) (h2 : ht < 0 ∨ 4 < ht) : createF s id ht = (St.z, 2) := by unfold createF; rw [if_neg (fun hh => hh h), if_pos h2]
theorem cr3 {s : St} {id : UInt32} {ht : Int} (h : upF s true = 0) (h2 : ¬ (ht < 0 ∨ 4 < ht)) (h3 : 0 ≤ placeF s.ks id) : createF s id ht = (St.z, 14) := by unfold createF; rw [if_neg (fun hh => hh h), if_neg h2, if_pos h3]
theorem cr4 {s : St} {id : UInt32} {ht : Int} (h : upF s true = 0) (h2 : ¬ (ht < 0 ∨ 4 < ht)) (h3 : ¬ 0 ≤ placeF s.ks id) (h4 : 8 ≤ s.ks.length) : createF s id ht = (St.z, 4) := by unfold createF; rw [if_neg (fun hh => hh h), if_neg h2, if_neg h3, if_pos h4]
theorem cr5 {s : St} {id : UInt32} {ht : Int} (h : upF s true = 0) (h2 : ¬ (ht < 0 ∨ 4 < ht)) (h3 : ¬ 0 ≤ placeF s.ks id) (h4 : ¬ 8 ≤ s.ks.length) : createF s id ht = writeF (addK s id ht) (recB ⟨1, of8 ht, 0, id⟩) := by unfold createF; rw [if_neg (fun hh => hh h), if_neg h2, if_neg h3, if_neg h4]
theorem key_ok {s : St} (h : upF s true = 0) {j : Nat} (hj : j < s.ks.length) : 0 ≤ (s.ks.getD j KE.z).ht ∧ (s.ks.getD j KE.z).ht ≤ 4 ∧ 0 ≤ (s.ks.getD j KE.z).ak ∧ (s.ks.getD j KE.z).ak ≤ 16 := by
  obtain ⟨h1, h2⟩ := upF_ok h
  have hu := h1.2.2.2.2 h2
  obtain ⟨_, e2, e3, _⟩ := okb (hu.2.2.2 j hj)
  rw [e2, e3]
  exact (scanR_ok _).get (by rw [hu.2.2.1]; exact hj)
theorem there_ok {s : St} {id : UInt32} (h : (thereF s id).2 = 0) : upF s true = 0 ∧ ∃ j, j < s.ks.length ∧ placeF s.ks id = ((j : Nat) : Int) ∧ thereF s id = (((j : Nat) : Int), 0) := by
  by_cases hu : upF s true = 0
  · refine ⟨hu, ?_⟩
    by_cases hc : placeF s.ks id < 0 ∨ (s.ks.getD (placeF s.ks id).toNat KE.z).dr = true
    · rw [th_6 hu hc] at h; cases h
    · rw [th_ok hu hc]
      rcases idxF_spec (isId id) KE.z s.ks with ⟨e, _⟩ | ⟨j, h1, h2, _⟩
      · exact absurd (.inl (show placeF s.ks id < 0 by rw [placeF, e]; decide)) hc
      · exact ⟨j, h1, h2, by rw [placeF, h2]⟩
  · rw [th_0 hu] at h; exact absurd h hu
abbrev kAt (s : St) (id : UInt32) : KE := s.ks.getD (placeF s.ks id).toNat KE.z
def putK (s : St) (id : UInt32) (k : KE) : St := { s with ks := s.ks.set (placeF s.ks id).toNat k }
def newA (s : St) (k : KE) : Nat := min (k.ak.toNat + s.bt.toNat) (2 ^ k.ht.toNat)
def reserveF (s : St) (id : UInt32) : St × Int :=
  if ¬ (thereF s id).2 = 0 then (St.z, (thereF s id).2) else if (kAt s id).ak = ((2 ^ (kAt s id).ht.toNat : Nat) : Int) then (St.z, 36)
  else writeF (putK s id { kAt s id with ak := (newA s (kAt s id) : Nat) }) (recB ⟨2, of8 ((kAt s id).ht.toNat : Nat), of16 (newA s (kAt s id) : Nat), id⟩)
def dropF (s : St) (id : UInt32) : St × Int :=
  if ¬ (thereF s id).2 = 0 then (St.z, (thereF s id).2)
  else writeF (putK s id { kAt s id with dr := true }) (recB ⟨3, of8 ((kAt s id).ht.toNat : Nat), of16 ((kAt s id).ak.toNat : Nat), id⟩)
theorem create (s : St) (dv pv kv : Value) (id : UInt32) (ht : Int) (w : World) (hs : StS w.cell? s dv pv kv)  :
    Calls Tryd.prog 74 [.agg (s.c dv pv kv).toArray, .int .u32 id.toNat, .int .i64 ht].toArray w (GivesP w (fun x : V3 => (createF s id ht).1.sv x) (fun x => .tuple #[stV (createF s id ht).1 x, .int .i64 (createF s id ht).2]) (fun x => [dRow x.1 (createF s id ht).1.dk, dRow x.2.1 (createF s id ht).1.pd, kRow x.2.2 (createF s id ht).1.ks]) (fun _ => [])) := by
  have sdv := hs.d.sv
  have spv := hs.p.sv
  have skv := hs.k.sv
  have l1hs := hs.ld
  have l2hs := hs.lp
  have l3hs := hs.lk
  refine enter (m := 56) (R := Mem w [] [] []) Tryd.func74 rfl rfl (Nat.le_of_ble_eq_true rfl) (Mem.start w) ?_
  refine wpc_seq <| wpc_region ?_
  refine wpl_t (t_box rfl (s.c dv pv kv) rfl) rfl (fun b3 => ?_)
  refine wpl_t (t_alloc Tryd.ti35 (St.z.c nl nl nl) rfl) rfl (fun b6 => ?_)
  refine wpl_q (q_pure rfl) rfl <| wpl_nil <| ex_then <| wpc_seq <| wpc_region <| wpl_q (q_ldN Tryd.underlying35 rfl Tryd.ti35 rfl (St.c_length hs.len)) rfl ?_
  refine wpl_t (t_pur Tryd.hb40 rfl fun w h => up_ _ _ _ _ _ w zz25) rfl (fun b10 => ?_)
  refine wpl_q (q_pure rfl) rfl <| wpl_nil <| ex_then <| wpc_seq <| wpc_block <| wpc_seq <| wpc_region <| wpl_q (q_pure rfl) rfl <| wpl_q (q_pure rfl) rfl <| wpl_q (q_pure rfl) rfl <| wpl_nil <| ex_then ?_
  refine wpc_cond rfl (fun hc11 => ?_) (fun hc11 => ?_)
  ·
   simp only [bne_iff_ne, ne_eq] at hc11
   refine wpc_seq <| wpc_region ?_
   refine wpl_q (q_build (cs := St.z.c nl nl nl) rfl built_st0) rfl ?_
   refine wpl_q (q_pure rfl) rfl ?_
   refine wpl_t0 (t_stA Tryd.ti35 rfl rfl (St.c_length zz37) zz35 zz23) (fun _ => ?_)
   refine wpl_q (q_pure rfl) rfl <| wpl_nil <| ex_then <| wpc_ret ?_
   refine ex_block_ret ?_
   refine ex_then_ret ?_
   refine retv2 (.inl rfl) rfl (rv_agg Tryd.underlying35 rfl Tryd.ti35 rfl (fun w h => h.atB) (St.c_length zz44)) (rv_tmp rfl) ?_
   exact fun w h => ⟨(nl, nl, nl), by rw [cr1 hc11]; exact zSV, by rw [cr1 hc11]; first | done | rfl, h.below, by rw [cr1 hc11]; exact (zRows h).made SubC.h .nil⟩
  ·
   simp only [bne_eq_false_iff_eq] at hc11
   refine wpc_seq <| wpc_region <| wpl_q (q_pure rfl) rfl <| wpl_q (q_pure rfl) rfl <| wpl_q (q_pure rfl) rfl ?_
   refine wpl_bool2 19 18 rfl rfl (fun hb19 => ?_) (fun hb19 => ?_)
   ·
    try simp only [decide_eq_true_eq] at hb19
    refine wpl_off rfl rfl rfl rfl <| wpl_off rfl rfl rfl rfl <| wpl_q (q_pure rfl) rfl <| wpl_q (q_pure rfl) rfl <| wpl_nil <| ex_then ?_
    refine wpc_cond_t rfl ?_
    refine wpc_seq <| wpc_region ?_
    refine wpl_q (q_build (cs := St.z.c nl nl nl) rfl built_st0) rfl ?_
    refine wpl_t0 (t_stA Tryd.ti35 rfl rfl (St.c_length zz37) zz35 zz23) (fun _ => ?_)
    refine wpl_q (q_pure rfl) rfl <| wpl_nil <| ex_then <| wpc_ret ?_
    refine ex_block_ret ?_
    refine ex_then_ret ?_
    refine retv2 (.inl rfl) rfl (rv_agg Tryd.underlying35 rfl Tryd.ti35 rfl (fun w h => h.atB) (St.c_length zz44)) (rv_tmp rfl) ?_
    exact fun w h => ⟨(nl, nl, nl), by rw [cr2 hc11 (.inl hb19)]; exact zSV, by rw [cr2 hc11 (.inl hb19)]; first | done | rfl, h.below, by rw [cr2 hc11 (.inl hb19)]; exact (zRows h).made SubC.h .nil⟩
   ·
    try simp only [decide_eq_false_iff_not] at hb19
    refine wpl_on rfl rfl <| wpl_q (q_pure rfl) rfl <| wpl_on rfl rfl <| wpl_q (q_pure rfl) rfl <| wpl_q (q_pure rfl) rfl <| wpl_q (q_pure rfl) rfl <| wpl_nil <| ex_then ?_
    refine wpc_cond rfl (fun hc16 => ?_) (fun hc16 => ?_)
    ·
     try simp only [decide_eq_true_eq] at hc16
     refine wpc_seq <| wpc_region ?_
     refine wpl_q (q_build (cs := St.z.c nl nl nl) rfl built_st0) rfl ?_
     refine wpl_t0 (t_stA Tryd.ti35 rfl rfl (St.c_length zz37) zz35 zz23) (fun _ => ?_)
     refine wpl_q (q_pure rfl) rfl <| wpl_nil <| ex_then <| wpc_ret ?_
     refine ex_block_ret ?_
     refine ex_then_ret ?_
     refine retv2 (.inl rfl) rfl (rv_agg Tryd.underlying35 rfl Tryd.ti35 rfl (fun w h => h.atB) (St.c_length zz44)) (rv_tmp rfl) ?_
     exact fun w h => ⟨(nl, nl, nl), by rw [cr2 hc11 (.inr hc16)]; exact zSV, by rw [cr2 hc11 (.inr hc16)]; first | done | rfl, h.below, by rw [cr2 hc11 (.inr hc16)]; exact (zRows h).made SubC.h .nil⟩
    ·
     simp only [decide_eq_false_iff_not] at hc16
     refine wpc_seq <| wpc_region <| wpl_q (q_field Tryd.underlying35 rfl Tryd.ti26 rfl rfl _ rfl) rfl ?_
     refine wpl_q (q_ld Tryd.underlying26 rfl rfl zz13) rfl ?_
     refine wpl_q (q_pure rfl) rfl ?_
     refine wpl_t (t_pur Tryd.hb30 rfl fun w h => place _ _ _ w zz15) rfl (fun b28 => ?_)
     refine wpl_q (q_pure rfl) rfl <| wpl_q (q_pure rfl) rfl <| wpl_nil <| ex_then ?_
     refine wpc_cond rfl (fun hc24 => ?_) (fun hc24 => ?_)
     ·
      simp only [decide_eq_true_eq, ge_iff_le] at hc24
      refine wpc_seq <| wpc_region ?_
      refine wpl_q (q_build (cs := St.z.c nl nl nl) rfl built_st0) rfl ?_
      refine wpl_t0 (t_stA Tryd.ti35 rfl rfl (St.c_length zz37) zz35 zz23) (fun _ => ?_)
      refine wpl_q (q_pure rfl) rfl <| wpl_nil <| ex_then <| wpc_ret ?_
      refine ex_block_ret ?_
      refine ex_then_ret ?_
      refine retv2 (.inl rfl) rfl (rv_agg Tryd.underlying35 rfl Tryd.ti35 rfl (fun w h => h.atB) (St.c_length zz44)) (rv_tmp rfl) ?_
      exact fun w h => ⟨(nl, nl, nl), by rw [cr3 hc11 zz16 hc24]; exact zSV, by rw [cr3 hc11 zz16 hc24]; first | done | rfl, h.below, by rw [cr3 hc11 zz16 hc24]; exact (zRows h).made SubC.h .nil⟩
     ·
      simp only [decide_eq_false_iff_not, ge_iff_le] at hc24
      refine wpc_seq <| wpc_region <| wpl_q (q_field Tryd.underlying35 rfl Tryd.ti26 rfl rfl _ rfl) rfl ?_
      refine wpl_q (q_ld Tryd.underlying26 rfl rfl zz13) rfl ?_
      refine wpl_q (q_lenW Tryd.underlying26 rfl zz3) rfl ?_
      refine wpl_q (q_pure rfl) rfl <| wpl_q (q_pure rfl) rfl <| wpl_nil <| ex_then ?_
      refine wpc_cond rfl (fun hc31 => ?_) (fun hc31 => ?_)
      ·
       simp only [decide_eq_true_eq, ge_iff_le] at hc31
       refine wpc_seq <| wpc_region ?_
       refine wpl_q (q_build (cs := St.z.c nl nl nl) rfl built_st0) rfl ?_
       refine wpl_t0 (t_stA Tryd.ti35 rfl rfl (St.c_length zz37) zz35 zz23) (fun _ => ?_)
       refine wpl_q (q_pure rfl) rfl <| wpl_nil <| ex_then <| wpc_ret ?_
       refine ex_block_ret ?_
       refine ex_then_ret ?_
       refine retv2 (.inl rfl) rfl (rv_agg Tryd.underlying35 rfl Tryd.ti35 rfl (fun w h => h.atB) (St.c_length zz44)) (rv_tmp rfl) ?_
       exact fun w h => ⟨(nl, nl, nl), by rw [cr4 hc11 zz16 hc24 zz16]; exact zSV, by rw [cr4 hc11 zz16 hc24 zz16]; first | done | rfl, h.below, by rw [cr4 hc11 zz16 hc24 zz16]; exact (zRows h).made SubC.h .nil⟩
      ·
       simp only [decide_eq_false_iff_not, ge_iff_le] at hc31
       have hcr := cr5 hc11 (show ¬ (ht < 0 ∨ 4 < ht) from zz16) hc24 zz16
       have hht0 : 0 ≤ ht := by omega
       have hht4 : ht ≤ 4 := by omega
       obtain ⟨n, rfl⟩ := Int.eq_ofNat_of_zero_le hht0
       refine wpc_skip <| ex_block <| ex_then <| wpc_seq <| wpc_region <| wpl_q (q_ldN Tryd.underlying35 rfl Tryd.ti35 rfl (St.c_length hs.len)) rfl ?_
       refine wpl_tp (t_callP3 Tryd.hb28 rfl fun w h => twin s dv pv kv w zz25) rfl (fun b38 p38 => ?_)
       refine wpl_t0 (t_stA Tryd.ti35 rfl rfl (St.c_length zz37) (by first | exact St.c_one SV.nil SV.nil SV.nil | exact St.c_one p38.1 p38.2.1 p38.2.2) zz23) (fun _ => ?_)
       refine wpl_nil <| ex_then <| wpc_seq <| wpc_region <| wpl_q (q_field Tryd.underlying35 rfl Tryd.ti26 rfl rfl _ rfl) rfl ?_
       refine wpl_q (q_ld Tryd.underlying26 rfl rfl zz13) rfl ?_
       refine wpl_q (q_pure rfl) rfl <| wpl_q (q_pure rfl) rfl ?_
       refine wpl_q (q_build (cs := (KE.mk id ((n : Nat) : Int) 0 0 0 false).c) rfl (built_key id ((n : Nat) : Int))) rfl ?_
       refine wpl_tp (t_bsG [.agg (KE.mk id ((n : Nat) : Int) 0 0 0 false).c.toArray] (KE.mk id ((n : Nat) : Int) 0 0 0 false).c Tryd.underlying26 Tryd.ti40 rfl zz27 rfl zz27 zz27 rfl (by intro v hv; rw [List.mem_singleton] at hv; subst hv; rfl) (List.append_nil _)) rfl (fun b44 p44 => ?_)
       refine wpl_tp (t_apW Tryd.underlying26 Tryd.ti40 rfl zz27 rfl rfl (fun w h => zz9) (ke_one _) zz1 zz1 (kcs (s.ks ++ [(KE.mk id ((n : Nat) : Int) 0 0 0 false)])) (kcs_snoc _ _)) rfl (fun b45 p45 => ?_)
       refine wpl_q (q_field Tryd.underlying35 rfl Tryd.ti26 rfl rfl _ rfl) rfl ?_
       refine wpl_t0 (t_st1 Tryd.ti26 rfl rfl (SV.one zz3) (St.c_lt hs.len zz27) _ zz40) (fun _ => ?_)
       refine wpl_nil <| ex_then <| wpc_seq <| wpc_region <| wpl_q (q_ldN Tryd.underlying35 rfl Tryd.ti35 rfl (St.c_length hs.len)) rfl <| wpl_q (q_pure rfl) rfl <| wpl_q (q8_conv Tryd.underlying3 Tryd.underlying5 rfl) rfl <| wpl_q (q_pure rfl) rfl ?_
       refine wpl_q (q_build (cs := (Rec.mk 1 (of8 ((n : Nat) : Int)) 0 id).c) rfl (built_rec (Rec.mk 1 (of8 ((n : Nat) : Int)) 0 id))) rfl ?_
       refine wpl_q (q_fn (us := [.agg (Rec.mk 1 (of8 ((n : Nat) : Int)) 0 id).c.toArray]) (vs := []) rfl rfl) rfl ?_
       refine wpl_tp (t_callF [dRow b38.1 s.dk, dRow b38.2.1 s.pd, kRow b45 (s.ks ++ [(KE.mk id ((n : Nat) : Int) 0 0 0 false)])] [.blk b6 35 (St.z.c nl nl nl), .blk b3 35 (s.c b38.1 b38.2.1 b45)] (fun x => [dRow x.1 (writeF (addK s id ((n : Nat) : Int)) (recB (Rec.mk 1 (of8 ((n : Nat) : Int)) 0 id))).1.dk, dRow x.2.1 (writeF (addK s id ((n : Nat) : Int)) (recB (Rec.mk 1 (of8 ((n : Nat) : Int)) 0 id))).1.pd, kRow x.2.2 (writeF (addK s id ((n : Nat) : Int)) (recB (Rec.mk 1 (of8 ((n : Nat) : Int)) 0 id))).1.ks, .blk b6 35 (St.z.c nl nl nl), .blk b3 35 (s.c b38.1 b38.2.1 b45)]) (by rw [kRow_snoc]; exact zz8) (fun _ => rfl) Tryd.hb39 rfl fun w h h2 => write_ (addK s id ((n : Nat) : Int)) b38.1 b38.2.1 b45 (Rec.mk 1 (of8 ((n : Nat) : Int)) 0 id) w h2 hs.len ⟨p38.1, p38.2.1, by show SV b45 (s.ks ++ [(KE.mk id ((n : Nat) : Int) 0 0 0 false)]).length; rw [List.length_append]; exact p45⟩ hs.ld hs.lp) rfl (fun b53 p53 => ?_)
       refine wpl_q (q_pure rfl) rfl <| wpl_q (q_pure rfl) rfl ?_
       refine wpl_t0 (t_stA Tryd.ti35 rfl rfl (St.c_length (writeF_len hs.len)) (by first | exact St.c_one SV.nil SV.nil SV.nil | exact St.c_one p53.1 p53.2.1 p53.2.2) zz23) (fun _ => ?_)
       refine wpl_q (q_pure rfl) rfl <| wpl_nil <| ex_then <| wpc_ret ?_
       refine retv2 (.inl rfl) rfl (rv_agg Tryd.underlying35 rfl Tryd.ti35 rfl (fun w h => h.atB) (St.c_length zz44)) (rv_tmp rfl) ?_
       exact fun w h => ⟨b53, by rw [hcr]; exact p53, by rw [hcr]; rfl, h.below, by rw [hcr]; exact h.made SubC.h .nil⟩
end Go.Proofs.YtoaeklbenmlooaaDoor
namespace Go.Proofs.YtoaeklbenmlooaaDoor
open Go Go.PL Go.RowKit
section
variable {P : Program} {n : Cx} {L : Slots} {Q : Exit → Act → World → Prop} {w0 w : World} {Ln : List Nat} {M : List Ent} {S : List Fact}
end
theorem keys_le {s : St} (h : upF s true = 0) : s.ks.length ≤ 8 := by
  obtain ⟨h1, h2⟩ := upF_ok h
  have hu := h1.2.2.2.2 h2
  rw [← hu.2.2.1]
  exact (scanR_ok _).1
end Go.Proofs.YtoaeklbenmlooaaDoor
namespace Go.Proofs.YtoaeklbenmlooaaDoor
open Go Go.PL Go.RowKit
section
variable {P : Program} {n : Cx} {R : World → Prop} {L : Slots}
theorem q_minN {x y : Operand} {at_ : Array TypeId} {a b : Nat} (hx : ev L x = some (.int .i64 ((a : Nat) : Int))) (hy : ev L y = some (.int .i64 ((b : Nat) : Int))) :
    QOp P n R L (.call { callee := .builtin .min, args := #[x, y], argTypes := at_ }) (.int .i64 ((min a b : Nat) : Int)) := by
  intro d ty pos af g ac w hs _
  have e : (if ((b : Nat) : Int) < ((a : Nat) : Int) then ((b : Nat) : Int) else ((a : Nat) : Int)) = ((min a b : Nat) : Int) := by split <;> omega
  simp only [execOp, resolve, invoke, builtin, List.map_toArray, List.map_cons, List.map_nil, hs.eval hx, hs.eval hy]
  simp [run_min_int2]
  split <;> omega
end
theorem putK_j {s : St} {id : UInt32} {j : Nat} (h : placeF s.ks id = ((j : Nat) : Int)) (k : KE) : putK s id k = { s with ks := s.ks.set j k } := by unfold putK; rw [h, Int.toNat_natCast]
theorem kAt_j {s : St} {id : UInt32} {j : Nat} (h : placeF s.ks id = ((j : Nat) : Int)) : kAt s id = s.ks.getD j KE.z := by rw [kAt, h, Int.toNat_natCast]
def setK (s : St) (j : Nat) (k : KE) : St := { s with ks := s.ks.set j k }
theorem rs1 {s : St} {id : UInt32} (h : ¬ (thereF s id).2 = 0) : reserveF s id = (St.z, (thereF s id).2) := if_pos h
theorem rs2 {s : St} {id : UInt32} {j : Nat} (h : (thereF s id).2 = 0) (hj : placeF s.ks id = ((j : Nat) : Int)) (h2 : (s.ks.getD j KE.z).ak = ((1 * 2 ^ (s.ks.getD j KE.z).ht.toNat : Nat) : Int)) : reserveF s id = (St.z, 36) := by
  unfold reserveF; rw [if_neg (fun hh => hh h), kAt_j hj, if_pos (by rw [h2, Nat.one_mul])]
theorem rs3 {s : St} {id : UInt32} {j : Nat} (h : (thereF s id).2 = 0) (hj : placeF s.ks id = ((j : Nat) : Int)) (h2 : ¬ (s.ks.getD j KE.z).ak = ((1 * 2 ^ (s.ks.getD j KE.z).ht.toNat : Nat) : Int)) :
    reserveF s id = writeF (setK s j { s.ks.getD j KE.z with ak := (((min ((s.ks.getD j KE.z).ak.toNat + s.bt.toNat) (1 * 2 ^ (s.ks.getD j KE.z).ht.toNat)) : Nat) : Int) }) (recB ⟨2, of8 ((s.ks.getD j KE.z).ht.toNat : Nat), of16 ((min ((s.ks.getD j KE.z).ak.toNat + s.bt.toNat) (1 * 2 ^ (s.ks.getD j KE.z).ht.toNat) : Nat) : Int), id⟩) := by
  unfold reserveF; rw [if_neg (fun hh => hh h), kAt_j hj, if_neg (by rw [Nat.one_mul] at h2; exact h2), putK_j hj, Nat.one_mul]; rfl
theorem dr1 {s : St} {id : UInt32} (h : ¬ (thereF s id).2 = 0) : dropF s id = (St.z, (thereF s id).2) := if_pos h
theorem dr3 {s : St} {id : UInt32} {j : Nat} (h : (thereF s id).2 = 0) (hj : placeF s.ks id = ((j : Nat) : Int)) :
    dropF s id = writeF (setK s j { s.ks.getD j KE.z with dr := true }) (recB ⟨3, of8 ((s.ks.getD j KE.z).ht.toNat : Nat), of16 ((s.ks.getD j KE.z).ak.toNat : Nat), id⟩) := by
  unfold dropF; rw [if_neg (fun hh => hh h), kAt_j hj, putK_j hj]; rfl
theorem set_get {ks : List KE} {j i : Nat} {k : KE} {v : Value} (h : j < ks.length) (hv : k.c[i]? = some v) : (kcs (ks.set j k))[j * 6 + i]? = some v := kcs_get (by rw [List.length_set]; exact h) (by rw [getD_set_self _ _ h]; exact hv)
theorem drop_ (s : St) (dv pv kv : Value) (id : UInt32) (w : World) (hs : StS w.cell? s dv pv kv)  :
    Calls Tryd.prog 75 [.agg (s.c dv pv kv).toArray, .int .u32 id.toNat].toArray w (GivesP w (fun x : V3 => (dropF s id).1.sv x) (fun x => .tuple #[stV (dropF s id).1 x, .int .i64 (dropF s id).2]) (fun x => [dRow x.1 (dropF s id).1.dk, dRow x.2.1 (dropF s id).1.pd, kRow x.2.2 (dropF s id).1.ks]) (fun _ => [])) := by
  have sdv := hs.d.sv
  have spv := hs.p.sv
  have skv := hs.k.sv
  have l1hs := hs.ld
  have l2hs := hs.lp
  have l3hs := hs.lk
  refine enter (m := 45) (R := Mem w [] [] []) Tryd.func75 rfl rfl (Nat.le_of_ble_eq_true rfl) (Mem.start w) ?_
  refine wpc_seq <| wpc_region ?_
  refine wpl_t (t_box rfl (s.c dv pv kv) rfl) rfl (fun b2 => ?_)
  refine wpl_t (t_alloc Tryd.ti35 (St.z.c nl nl nl) rfl) rfl (fun b4 => ?_)
  refine wpl_q (q_pure rfl) rfl <| wpl_nil <| ex_then <| wpc_seq <| wpc_region <| wpl_q (q_ldN Tryd.underlying35 rfl Tryd.ti35 rfl (St.c_length hs.len)) rfl <| wpl_q (q_pure rfl) rfl ?_
  refine wpl_t (t_pur Tryd.hb27 rfl fun w h => there_ _ _ _ _ _ w zz25) rfl (fun b12 => ?_)
  refine wpl_q (q_pure rfl) rfl <| wpl_q (q_pure rfl) rfl <| wpl_q (q_pure rfl) rfl <| wpl_q (q_pure rfl) rfl <| wpl_q (q_pure rfl) rfl <| wpl_nil <| ex_then <| wpc_seq <| wpc_seq <| wpc_region <| wpl_q (q_pure rfl) rfl <| wpl_q (q_pure rfl) rfl ?_
  refine wpl_nil <| ex_then ?_
  refine wpc_cond rfl (fun hc16 => ?_) (fun hc16 => ?_)
  ·
   simp only [bne_iff_ne, ne_eq] at hc16
   refine wpc_seq <| wpc_region ?_
   refine wpl_q (q_build (cs := St.z.c nl nl nl) rfl built_st0) rfl ?_
   refine wpl_q (q_pure rfl) rfl ?_
   refine wpl_t0 (t_stA Tryd.ti35 rfl rfl (St.c_length zz37) zz35 zz23) (fun _ => ?_)
   refine wpl_q (q_pure rfl) rfl <| wpl_nil <| ex_then <| wpc_ret ?_
   refine ex_then_ret ?_
   refine retv2 (.inl rfl) rfl (rv_agg Tryd.underlying35 rfl Tryd.ti35 rfl (fun w h => h.atB) (St.c_length zz44)) (rv_tmp rfl) ?_
   exact fun w h => ⟨(nl, nl, nl), by rw [dr1 hc16]; exact zSV, by rw [dr1 hc16]; first | done | rfl, h.below, by rw [dr1 hc16]; exact (zRows h).made SubC.h .nil⟩
  ·
   simp only [bne_eq_false_iff_eq] at hc16
   obtain ⟨hup, j, hjl, hej, hth⟩ := there_ok hc16
   obtain ⟨k0, k1, k2, k3⟩ := key_ok hup hjl
   have hk8 := keys_le hup
   have hA : (s.ks.getD j KE.z).ak = (((s.ks.getD j KE.z).ak.toNat : Nat) : Int) := (Int.toNat_of_nonneg k2).symm
   have hH : (s.ks.getD j KE.z).ht = (((s.ks.getD j KE.z).ht.toNat : Nat) : Int) := (Int.toNat_of_nonneg k0).symm
   have hb1 := (upF_ok hup).1.1
   have hb2 := (upF_ok hup).1.2.1
   have hB : s.bt = ((s.bt.toNat : Nat) : Int) := (Int.toNat_of_nonneg zz16).symm
   have hl4 : (s.ks.getD j KE.z).ht.toNat ≤ 4 := by omega
   have hpw := pow_le hl4
   have hkl := kcs_length s.ks
   refine wpc_re 6 rfl (congrArg (Value.int .i64) (show (thereF s id).1 = ((j : Nat) : Int) by rw [hth])) ?_
   have hcr := dr3 hc16 hej
   refine wpc_skip <| ex_then <| wpc_seq <| wpc_region <| wpl_q (q_ldN Tryd.underlying35 rfl Tryd.ti35 rfl (St.c_length hs.len)) rfl ?_
   refine wpl_tp (t_callP3 Tryd.hb28 rfl fun w h => twin s dv pv kv w zz25) rfl (fun b20 p20 => ?_)
   have q3 : SV b20.2.2 s.ks.length := p20.2.2
   refine wpl_t0 (t_stA Tryd.ti35 rfl rfl (St.c_length zz37) zz53 zz23) (fun _ => ?_)
   refine wpl_nil <| ex_then <| wpc_seq <| wpc_region <| wpl_q (q_field Tryd.underlying35 rfl Tryd.ti26 rfl rfl _ rfl) rfl ?_
   refine wpl_q (q_ld Tryd.underlying26 rfl rfl zz13) rfl ?_
   refine wpl_q (q_pure rfl) rfl ?_
   refine wpl_q (q_idxW Tryd.underlying26 Tryd.ti40 rfl rfl zz3 zz1) rfl ?_
   refine wpl_q (q_pure rfl) rfl <| wpl_nil <| ex_then <| wpc_seq <| wpc_region <| wpl_q (q_pure rfl) rfl <| wpl_q (q_pure rfl) rfl <| wpl_q (q_fieldPo 5 Tryd.underlying40 rfl Tryd.ti4 rfl rfl rfl) rfl ?_
   refine wpl_t0 (t_stWF Tryd.ti4 rfl rfl rfl zz16 (kcs (s.ks.set j { (s.ks.getD j KE.z) with dr := true })) (kcs_set _ hjl rfl zz27)) (fun _ => ?_)
   refine wpl_nil <| ex_then <| wpc_seq ?_
   refine wpc_draw 14 zz6 (fun _ h => h.drew) ?_
   refine wpd_q 0 rfl zz6 trivial (q_ldN Tryd.underlying35 rfl Tryd.ti35 rfl (St.c_length hs.len)) rfl (fun _ h => h) ?_
   refine wpd_p 1 rfl zz6 trivial (q_pure rfl) rfl sk0 ?_
   refine wpd_p 2 rfl zz6 trivial (q_pure rfl) rfl sk0 ?_
   refine wpd_p 3 rfl zz6 trivial (q_fieldPo 1 Tryd.underlying40 rfl Tryd.ti3 rfl rfl rfl) rfl sk0 ?_
   refine wpd_qB 4 [5, 12, 13, 14] rfl zz6 trivial (q_ldWF Tryd.underlying3 rfl rfl (fun w h => (show Seen w.cell? b20.2.2 s.ks.length 6 (kcs (s.ks.set j { (s.ks.getD j KE.z) with dr := true })) from h.seenV)) (set_get (v := .int .i64 (s.ks.getD j KE.z).ht) hjl rfl)) rfl (fun _ h => h) ?_
   refine wpd_re 32 rfl (congrArg (Value.int .i64) hH) ?_
   refine wpd_p 5 rfl zz6 trivial (q8_conv Tryd.underlying3 Tryd.underlying5 rfl) rfl sk0 ?_
   refine wpd_p 6 rfl zz6 trivial (q_pure rfl) rfl sk0 ?_
   refine wpd_p 7 rfl zz6 trivial (q_pure rfl) rfl sk0 ?_
   refine wpd_p 8 rfl zz6 trivial (q_fieldPo 4 Tryd.underlying40 rfl Tryd.ti3 rfl rfl rfl) rfl sk0 ?_
   refine wpd_qB 9 [10, 12, 13, 14] rfl zz6 trivial (q_ldWF Tryd.underlying3 rfl rfl (fun w h => (show Seen w.cell? b20.2.2 s.ks.length 6 (kcs (s.ks.set j { (s.ks.getD j KE.z) with dr := true })) from h.seenV)) (set_get (v := .int .i64 (s.ks.getD j KE.z).ak) hjl rfl)) rfl (fun _ h => h) ?_
   refine wpd_re 37 rfl (congrArg (Value.int .i64) hA) ?_
   refine wpd_p 10 rfl zz6 trivial (q16_conv Tryd.underlying3 Tryd.underlying59 rfl) rfl sk0 ?_
   refine wpd_p 11 rfl zz6 trivial (q_pure rfl) rfl sk0 ?_
   refine wpd_p 12 rfl zz6 trivial (q_build (cs := (Rec.mk 3 (of8 (((s.ks.getD j KE.z).ht.toNat : Nat) : Int)) (of16 (((s.ks.getD j KE.z).ak.toNat : Nat) : Int)) id).c) rfl (built_rec (Rec.mk 3 (of8 (((s.ks.getD j KE.z).ht.toNat : Nat) : Int)) (of16 (((s.ks.getD j KE.z).ak.toNat : Nat) : Int)) id))) rfl sk0 ?_
   refine wpd_p 13 rfl zz6 trivial (q_fn (us := [.agg (Rec.mk 3 (of8 (((s.ks.getD j KE.z).ht.toNat : Nat) : Int)) (of16 (((s.ks.getD j KE.z).ak.toNat : Nat) : Int)) id).c.toArray]) (vs := []) rfl rfl) rfl sk0 ?_
   refine wpd_tp 14 rfl zz6 trivial (t_callF [dRow b20.1 s.dk, dRow b20.2.1 s.pd, kRow b20.2.2 (s.ks.set j { (s.ks.getD j KE.z) with dr := true })] [.blk b4 35 (St.z.c nl nl nl), .blk b2 35 (s.c b20.1 b20.2.1 b20.2.2)] (fun x => [dRow x.1 (writeF (setK s j { (s.ks.getD j KE.z) with dr := true }) (recB (Rec.mk 3 (of8 (((s.ks.getD j KE.z).ht.toNat : Nat) : Int)) (of16 (((s.ks.getD j KE.z).ak.toNat : Nat) : Int)) id))).1.dk, dRow x.2.1 (writeF (setK s j { (s.ks.getD j KE.z) with dr := true }) (recB (Rec.mk 3 (of8 (((s.ks.getD j KE.z).ht.toNat : Nat) : Int)) (of16 (((s.ks.getD j KE.z).ak.toNat : Nat) : Int)) id))).1.pd, kRow x.2.2 (writeF (setK s j { (s.ks.getD j KE.z) with dr := true }) (recB (Rec.mk 3 (of8 (((s.ks.getD j KE.z).ht.toNat : Nat) : Int)) (of16 (((s.ks.getD j KE.z).ak.toNat : Nat) : Int)) id))).1.ks, .blk b4 35 (St.z.c nl nl nl), .blk b2 35 (s.c b20.1 b20.2.1 b20.2.2)]) (by rw [kRow_set]; exact zz8) (fun _ => rfl) Tryd.hb39 rfl fun w h h2 => write_ (setK s j { (s.ks.getD j KE.z) with dr := true }) b20.1 b20.2.1 b20.2.2 (Rec.mk 3 (of8 (((s.ks.getD j KE.z).ht.toNat : Nat) : Int)) (of16 (((s.ks.getD j KE.z).ak.toNat : Nat) : Int)) id) w h2 hs.len ⟨p20.1, p20.2.1, by show SV b20.2.2 (s.ks.set j { (s.ks.getD j KE.z) with dr := true }).length; rw [List.length_set]; exact p20.2.2⟩ hs.ld hs.lp) rfl (fun _ => skk rfl) (fun b42 p42 => ?_)
   refine wpd_p 15 rfl zz6 trivial (q_pure rfl) rfl (skk rfl) ?_
   refine wpd_p 16 rfl zz6 trivial (q_pure rfl) rfl (skk rfl) ?_
   refine wpd_t0 17 rfl zz6 trivial (t_stA Tryd.ti35 rfl rfl (St.c_length (writeF_len hs.len)) (by first | exact St.c_one SV.nil SV.nil SV.nil | exact St.c_one p42.1 p42.2.1 p42.2.2) zz23) (fun _ => skk rfl) (fun _ => ?_)
   refine wpd_p 18 rfl zz6 trivial (q_pure rfl) rfl (skk rfl) ?_
   refine wpd_done zz6 ?_
   refine ex_then <| wpc_ret ?_
   refine retv2 (.inl rfl) rfl (rv_agg Tryd.underlying35 rfl Tryd.ti35 rfl (fun w h => h.atB) (St.c_length zz44)) (rv_tmp rfl) ?_
   exact fun w h => ⟨b42, by rw [hcr]; exact p42, by rw [hcr]; rfl, h.below, by rw [hcr]; exact h.made SubC.h .nil⟩
theorem reserve (s : St) (dv pv kv : Value) (id : UInt32) (w : World) (hs : StS w.cell? s dv pv kv)  :
    Calls Tryd.prog 26 [.agg (s.c dv pv kv).toArray, .int .u32 id.toNat].toArray w (GivesP w (fun x : V3 => (reserveF s id).1.sv x) (fun x => .tuple #[stV (reserveF s id).1 x, .int .i64 (reserveF s id).2]) (fun x => [dRow x.1 (reserveF s id).1.dk, dRow x.2.1 (reserveF s id).1.pd, kRow x.2.2 (reserveF s id).1.ks]) (fun _ => [])) := by
  have sdv := hs.d.sv
  have spv := hs.p.sv
  have skv := hs.k.sv
  have l1hs := hs.ld
  have l2hs := hs.lp
  have l3hs := hs.lk
  refine enter (m := 69) (R := Mem w [] [] []) Tryd.func26 rfl rfl (Nat.le_of_ble_eq_true rfl) (Mem.start w) ?_
  refine wpc_seq <| wpc_region ?_
  refine wpl_t (t_box rfl (s.c dv pv kv) rfl) rfl (fun b2 => ?_)
  refine wpl_t (t_alloc Tryd.ti35 (St.z.c nl nl nl) rfl) rfl (fun b4 => ?_)
  refine wpl_q (q_pure rfl) rfl <| wpl_nil <| ex_then <| wpc_seq <| wpc_region <| wpl_q (q_ldN Tryd.underlying35 rfl Tryd.ti35 rfl (St.c_length hs.len)) rfl <| wpl_q (q_pure rfl) rfl ?_
  refine wpl_t (t_pur Tryd.hb27 rfl fun w h => there_ _ _ _ _ _ w zz25) rfl (fun b12 => ?_)
  refine wpl_q (q_pure rfl) rfl <| wpl_q (q_pure rfl) rfl <| wpl_q (q_pure rfl) rfl <| wpl_q (q_pure rfl) rfl <| wpl_q (q_pure rfl) rfl <| wpl_nil <| ex_then <| wpc_seq <| wpc_seq <| wpc_region <| wpl_q (q_pure rfl) rfl <| wpl_q (q_pure rfl) rfl ?_
  refine wpl_nil <| ex_then ?_
  refine wpc_cond rfl (fun hc16 => ?_) (fun hc16 => ?_)
  ·
   simp only [bne_iff_ne, ne_eq] at hc16
   refine wpc_seq <| wpc_region ?_
   refine wpl_q (q_build (cs := St.z.c nl nl nl) rfl built_st0) rfl ?_
   refine wpl_q (q_pure rfl) rfl ?_
   refine wpl_t0 (t_stA Tryd.ti35 rfl rfl (St.c_length zz37) zz35 zz23) (fun _ => ?_)
   refine wpl_q (q_pure rfl) rfl <| wpl_nil <| ex_then <| wpc_ret ?_
   refine ex_then_ret ?_
   refine retv2 (.inl rfl) rfl (rv_agg Tryd.underlying35 rfl Tryd.ti35 rfl (fun w h => h.atB) (St.c_length zz44)) (rv_tmp rfl) ?_
   exact fun w h => ⟨(nl, nl, nl), by rw [rs1 hc16]; exact zSV, by rw [rs1 hc16]; first | done | rfl, h.below, by rw [rs1 hc16]; exact (zRows h).made SubC.h .nil⟩
  ·
   simp only [bne_eq_false_iff_eq] at hc16
   obtain ⟨hup, j, hjl, hej, hth⟩ := there_ok hc16
   obtain ⟨k0, k1, k2, k3⟩ := key_ok hup hjl
   have hk8 := keys_le hup
   have hA : (s.ks.getD j KE.z).ak = (((s.ks.getD j KE.z).ak.toNat : Nat) : Int) := (Int.toNat_of_nonneg k2).symm
   have hH : (s.ks.getD j KE.z).ht = (((s.ks.getD j KE.z).ht.toNat : Nat) : Int) := (Int.toNat_of_nonneg k0).symm
   have hb1 := (upF_ok hup).1.1
   have hb2 := (upF_ok hup).1.2.1
   have hB : s.bt = ((s.bt.toNat : Nat) : Int) := (Int.toNat_of_nonneg zz16).symm
   have hl4 : (s.ks.getD j KE.z).ht.toNat ≤ 4 := by omega
   have hpw := pow_le hl4
   have hkl := kcs_length s.ks
   refine wpc_re 6 rfl (congrArg (Value.int .i64) (show (thereF s id).1 = ((j : Nat) : Int) by rw [hth])) ?_
   refine wpc_skip <| ex_then <| wpc_seq <| wpc_region <| wpl_q (q_ldN Tryd.underlying35 rfl Tryd.ti35 rfl (St.c_length hs.len)) rfl ?_
   refine wpl_tp (t_callP3 Tryd.hb28 rfl fun w h => twin s dv pv kv w zz25) rfl (fun b20 p20 => ?_)
   have q3 : SV b20.2.2 s.ks.length := p20.2.2
   refine wpl_t0 (t_stA Tryd.ti35 rfl rfl (St.c_length zz37) zz53 zz23) (fun _ => ?_)
   refine wpl_nil <| ex_then <| wpc_seq <| wpc_region <| wpl_q (q_field Tryd.underlying35 rfl Tryd.ti26 rfl rfl _ rfl) rfl ?_
   refine wpl_q (q_ld Tryd.underlying26 rfl rfl zz13) rfl ?_
   refine wpl_q (q_pure rfl) rfl ?_
   refine wpl_q (q_idxW Tryd.underlying26 Tryd.ti40 rfl rfl zz3 zz1) rfl ?_
   refine wpl_q (q_pure rfl) rfl <| wpl_nil <| ex_then <| wpc_seq <| wpc_seq ?_
   refine wpc_draw 10 zz6 (fun _ h => h.drew) ?_
   refine wpd_p 0 rfl zz6 trivial (q_pure rfl) rfl sk0 ?_
   refine wpd_p 1 rfl zz6 trivial (q_pure rfl) rfl sk0 ?_
   refine wpd_p 2 rfl zz6 trivial (q_fieldPo 4 Tryd.underlying40 rfl Tryd.ti3 rfl rfl rfl) rfl sk0 ?_
   refine wpd_q 3 rfl zz6 trivial (q_ldWF Tryd.underlying3 rfl rfl (fun w h => (show Seen w.cell? b20.2.2 s.ks.length 6 (kcs s.ks) from h.seenV)) (kcs_get hjl rfl)) rfl (fun _ h => h) ?_
   refine wpd_p 4 rfl zz6 trivial (q_pure rfl) rfl sk0 ?_
   refine wpd_p 5 rfl zz6 trivial (q_pure rfl) rfl sk0 ?_
   refine wpd_p 6 rfl zz6 trivial (q_fieldPo 1 Tryd.underlying40 rfl Tryd.ti3 rfl rfl rfl) rfl sk0 ?_
   refine wpd_q 7 rfl zz6 trivial (q_ldWF Tryd.underlying3 rfl rfl (fun w h => (show Seen w.cell? b20.2.2 s.ks.length 6 (kcs s.ks) from h.seenV)) (kcs_get hjl rfl)) rfl (fun _ h => h) ?_
   refine wpd_re 32 rfl (congrArg (Value.int .i64) hH) ?_
   refine wpd_p 8 rfl zz6 trivial (q_shlN (a := 1) rfl rfl zz32 zz16) rfl sk0 ?_
   refine wpd_p 9 rfl zz6 trivial (q_pure rfl) rfl sk0 ?_
   refine wpd_done zz6 ?_
   refine ex_then ?_
   refine wpc_cond rfl (fun hc34 => ?_) (fun hc34 => ?_)
   ·
    simp only [beq_iff_eq] at hc34
    refine wpc_seq <| wpc_region ?_
    refine wpl_q (q_build (cs := St.z.c nl nl nl) rfl built_st0) rfl ?_
    refine wpl_t0 (t_stA Tryd.ti35 rfl rfl (St.c_length zz37) zz35 zz23) (fun _ => ?_)
    refine wpl_q (q_pure rfl) rfl <| wpl_nil <| ex_then <| wpc_ret ?_
    refine ex_then_ret ?_
    refine retv2 (.inl rfl) rfl (rv_agg Tryd.underlying35 rfl Tryd.ti35 rfl (fun w h => h.atB) (St.c_length zz44)) (rv_tmp rfl) ?_
    exact fun w h => ⟨(nl, nl, nl), by rw [rs2 hc16 hej hc34]; exact zSV, by rw [rs2 hc16 hej hc34]; first | done | rfl, h.below, by rw [rs2 hc16 hej hc34]; exact (zRows h).made SubC.h .nil⟩
   ·
    simp only [beq_eq_false_iff_ne, ne_eq] at hc34
    have hcr := rs3 hc16 hej hc34
    have hna : (min ((s.ks.getD j KE.z).ak.toNat + s.bt.toNat) (1 * 2 ^ (s.ks.getD j KE.z).ht.toNat)) ≤ 16 := by omega
    refine wpc_skip <| ex_then <| wpc_seq ?_
    refine wpc_draw 16 zz6 (fun _ h => h.drew) ?_
    refine wpd_p 0 rfl zz6 trivial (q_pure rfl) rfl sk0 ?_
    refine wpd_p 1 rfl zz6 trivial (q_pure rfl) rfl sk0 ?_
    refine wpd_p 2 rfl zz6 trivial (q_pure rfl) rfl sk0 ?_
    refine wpd_p 3 rfl zz6 trivial (q_fieldPo 4 Tryd.underlying40 rfl Tryd.ti3 rfl rfl rfl) rfl sk0 ?_
    refine wpd_q 4 rfl zz6 trivial (q_ldWF Tryd.underlying3 rfl rfl (fun w h => (show Seen w.cell? b20.2.2 s.ks.length 6 (kcs s.ks) from h.seenV)) (kcs_get hjl rfl)) rfl (fun _ h => h) ?_
    refine wpd_re 40 rfl (congrArg (Value.int .i64) hA) ?_
    refine wpd_p 5 rfl zz6 trivial (q_field Tryd.underlying35 rfl Tryd.ti3 rfl rfl _ rfl) rfl sk0 ?_
    refine wpd_q 6 rfl zz6 trivial (q_ld Tryd.underlying3 rfl rfl zz13) rfl (fun _ h => h) ?_
    refine wpd_re 42 rfl (congrArg (Value.int .i64) hB) ?_
    refine wpd_p 7 rfl zz6 trivial (q_addN rfl rfl zz1) rfl sk0 ?_
    refine wpd_p 8 rfl zz6 trivial (q_pure rfl) rfl sk0 ?_
    refine wpd_p 9 rfl zz6 trivial (q_pure rfl) rfl sk0 ?_
    refine wpd_p 10 rfl zz6 trivial (q_fieldPo 1 Tryd.underlying40 rfl Tryd.ti3 rfl rfl rfl) rfl sk0 ?_
    refine wpd_q 11 rfl zz6 trivial (q_ldWF Tryd.underlying3 rfl rfl (fun w h => (show Seen w.cell? b20.2.2 s.ks.length 6 (kcs s.ks) from h.seenV)) (kcs_get hjl rfl)) rfl (fun _ h => h) ?_
    refine wpd_re 47 rfl (congrArg (Value.int .i64) hH) ?_
    refine wpd_p 12 rfl zz6 trivial (q_shlN (a := 1) rfl rfl zz32 zz16) rfl sk0 ?_
    refine wpd_p 13 rfl zz6 trivial (q_minN rfl rfl) rfl sk0 ?_
    refine wpd_p 14 rfl zz6 trivial (q_pure rfl) rfl sk0 ?_
    refine wpd_p 15 rfl zz6 trivial (q_fieldPo 4 Tryd.underlying40 rfl Tryd.ti3 rfl rfl rfl) rfl sk0 ?_
    refine wpd_t0 16 rfl zz6 trivial (t_stWF Tryd.ti3 rfl rfl rfl zz16 (kcs (s.ks.set j { (s.ks.getD j KE.z) with ak := (((min ((s.ks.getD j KE.z).ak.toNat + s.bt.toNat) (1 * 2 ^ (s.ks.getD j KE.z).ht.toNat)) : Nat) : Int) })) (kcs_set _ hjl rfl zz27)) (fun _ => skk rfl) (fun _ => ?_)
    refine wpd_done zz6 ?_
    refine ex_then <| wpc_seq ?_
    refine wpc_draw 14 zz6 (fun _ h => h.drew) ?_
    refine wpd_q 0 rfl zz6 trivial (q_ldN Tryd.underlying35 rfl Tryd.ti35 rfl (St.c_length hs.len)) rfl (fun _ h => h) ?_
    refine wpd_p 1 rfl zz6 trivial (q_pure rfl) rfl sk0 ?_
    refine wpd_p 2 rfl zz6 trivial (q_pure rfl) rfl sk0 ?_
    refine wpd_p 3 rfl zz6 trivial (q_fieldPo 1 Tryd.underlying40 rfl Tryd.ti3 rfl rfl rfl) rfl sk0 ?_
    refine wpd_qB 4 [5, 12, 13, 14] rfl zz6 trivial (q_ldWF Tryd.underlying3 rfl rfl (fun w h => (show Seen w.cell? b20.2.2 s.ks.length 6 (kcs (s.ks.set j { (s.ks.getD j KE.z) with ak := (((min ((s.ks.getD j KE.z).ak.toNat + s.bt.toNat) (1 * 2 ^ (s.ks.getD j KE.z).ht.toNat)) : Nat) : Int) })) from h.seenV)) (set_get (v := .int .i64 (s.ks.getD j KE.z).ht) hjl rfl)) rfl (fun _ h => h) ?_
    refine wpd_re 56 rfl (congrArg (Value.int .i64) hH) ?_
    refine wpd_p 5 rfl zz6 trivial (q8_conv Tryd.underlying3 Tryd.underlying5 rfl) rfl sk0 ?_
    refine wpd_p 6 rfl zz6 trivial (q_pure rfl) rfl sk0 ?_
    refine wpd_p 7 rfl zz6 trivial (q_pure rfl) rfl sk0 ?_
    refine wpd_p 8 rfl zz6 trivial (q_fieldPo 4 Tryd.underlying40 rfl Tryd.ti3 rfl rfl rfl) rfl sk0 ?_
    refine wpd_qB 9 [10, 12, 13, 14] rfl zz6 trivial (q_ldWF Tryd.underlying3 rfl rfl (fun w h => (show Seen w.cell? b20.2.2 s.ks.length 6 (kcs (s.ks.set j { (s.ks.getD j KE.z) with ak := (((min ((s.ks.getD j KE.z).ak.toNat + s.bt.toNat) (1 * 2 ^ (s.ks.getD j KE.z).ht.toNat)) : Nat) : Int) })) from h.seenV)) (set_get (v := .int .i64 (((min ((s.ks.getD j KE.z).ak.toNat + s.bt.toNat) (1 * 2 ^ (s.ks.getD j KE.z).ht.toNat)) : Nat) : Int)) hjl rfl)) rfl (fun _ h => h) ?_
    refine wpd_p 10 rfl zz6 trivial (q16_conv Tryd.underlying3 Tryd.underlying59 rfl) rfl sk0 ?_
    refine wpd_p 11 rfl zz6 trivial (q_pure rfl) rfl sk0 ?_
    refine wpd_p 12 rfl zz6 trivial (q_build (cs := (Rec.mk 2 (of8 (((s.ks.getD j KE.z).ht.toNat : Nat) : Int)) (of16 (((min ((s.ks.getD j KE.z).ak.toNat + s.bt.toNat) (1 * 2 ^ (s.ks.getD j KE.z).ht.toNat)) : Nat) : Int)) id).c) rfl (built_rec (Rec.mk 2 (of8 (((s.ks.getD j KE.z).ht.toNat : Nat) : Int)) (of16 (((min ((s.ks.getD j KE.z).ak.toNat + s.bt.toNat) (1 * 2 ^ (s.ks.getD j KE.z).ht.toNat)) : Nat) : Int)) id))) rfl sk0 ?_
    refine wpd_p 13 rfl zz6 trivial (q_fn (us := [.agg (Rec.mk 2 (of8 (((s.ks.getD j KE.z).ht.toNat : Nat) : Int)) (of16 (((min ((s.ks.getD j KE.z).ak.toNat + s.bt.toNat) (1 * 2 ^ (s.ks.getD j KE.z).ht.toNat)) : Nat) : Int)) id).c.toArray]) (vs := []) rfl rfl) rfl sk0 ?_
    refine wpd_tp 14 rfl zz6 trivial (t_callF [dRow b20.1 s.dk, dRow b20.2.1 s.pd, kRow b20.2.2 (s.ks.set j { (s.ks.getD j KE.z) with ak := (((min ((s.ks.getD j KE.z).ak.toNat + s.bt.toNat) (1 * 2 ^ (s.ks.getD j KE.z).ht.toNat)) : Nat) : Int) })] [.blk b4 35 (St.z.c nl nl nl), .blk b2 35 (s.c b20.1 b20.2.1 b20.2.2)] (fun x => [dRow x.1 (writeF (setK s j { (s.ks.getD j KE.z) with ak := (((min ((s.ks.getD j KE.z).ak.toNat + s.bt.toNat) (1 * 2 ^ (s.ks.getD j KE.z).ht.toNat)) : Nat) : Int) }) (recB (Rec.mk 2 (of8 (((s.ks.getD j KE.z).ht.toNat : Nat) : Int)) (of16 (((min ((s.ks.getD j KE.z).ak.toNat + s.bt.toNat) (1 * 2 ^ (s.ks.getD j KE.z).ht.toNat)) : Nat) : Int)) id))).1.dk, dRow x.2.1 (writeF (setK s j { (s.ks.getD j KE.z) with ak := (((min ((s.ks.getD j KE.z).ak.toNat + s.bt.toNat) (1 * 2 ^ (s.ks.getD j KE.z).ht.toNat)) : Nat) : Int) }) (recB (Rec.mk 2 (of8 (((s.ks.getD j KE.z).ht.toNat : Nat) : Int)) (of16 (((min ((s.ks.getD j KE.z).ak.toNat + s.bt.toNat) (1 * 2 ^ (s.ks.getD j KE.z).ht.toNat)) : Nat) : Int)) id))).1.pd, kRow x.2.2 (writeF (setK s j { (s.ks.getD j KE.z) with ak := (((min ((s.ks.getD j KE.z).ak.toNat + s.bt.toNat) (1 * 2 ^ (s.ks.getD j KE.z).ht.toNat)) : Nat) : Int) }) (recB (Rec.mk 2 (of8 (((s.ks.getD j KE.z).ht.toNat : Nat) : Int)) (of16 (((min ((s.ks.getD j KE.z).ak.toNat + s.bt.toNat) (1 * 2 ^ (s.ks.getD j KE.z).ht.toNat)) : Nat) : Int)) id))).1.ks, .blk b4 35 (St.z.c nl nl nl), .blk b2 35 (s.c b20.1 b20.2.1 b20.2.2)]) (by rw [kRow_set]; exact zz8) (fun _ => rfl) Tryd.hb39 rfl fun w h h2 => write_ (setK s j { (s.ks.getD j KE.z) with ak := (((min ((s.ks.getD j KE.z).ak.toNat + s.bt.toNat) (1 * 2 ^ (s.ks.getD j KE.z).ht.toNat)) : Nat) : Int) }) b20.1 b20.2.1 b20.2.2 (Rec.mk 2 (of8 (((s.ks.getD j KE.z).ht.toNat : Nat) : Int)) (of16 (((min ((s.ks.getD j KE.z).ak.toNat + s.bt.toNat) (1 * 2 ^ (s.ks.getD j KE.z).ht.toNat)) : Nat) : Int)) id) w h2 hs.len ⟨p20.1, p20.2.1, by show SV b20.2.2 (s.ks.set j { (s.ks.getD j KE.z) with ak := (((min ((s.ks.getD j KE.z).ak.toNat + s.bt.toNat) (1 * 2 ^ (s.ks.getD j KE.z).ht.toNat)) : Nat) : Int) }).length; rw [List.length_set]; exact p20.2.2⟩ hs.ld hs.lp) rfl (fun _ => skk rfl) (fun b66 p66 => ?_)
    refine wpd_p 15 rfl zz6 trivial (q_pure rfl) rfl (skk rfl) ?_
    refine wpd_p 16 rfl zz6 trivial (q_pure rfl) rfl (skk rfl) ?_
    refine wpd_t0 17 rfl zz6 trivial (t_stA Tryd.ti35 rfl rfl (St.c_length (writeF_len hs.len)) (by first | exact St.c_one SV.nil SV.nil SV.nil | exact St.c_one p66.1 p66.2.1 p66.2.2) zz23) (fun _ => skk rfl) (fun _ => ?_)
    refine wpd_p 18 rfl zz6 trivial (q_pure rfl) rfl (skk rfl) ?_
    refine wpd_done zz6 ?_
    refine ex_then <| wpc_ret ?_
    refine retv2 (.inl rfl) rfl (rv_agg Tryd.underlying35 rfl Tryd.ti35 rfl (fun w h => h.atB) (St.c_length zz44)) (rv_tmp rfl) ?_
    exact fun w h => ⟨b66, by rw [hcr]; exact p66, by rw [hcr]; rfl, h.below, by rw [hcr]; exact h.made SubC.h .nil⟩
end Go.Proofs.YtoaeklbenmlooaaDoor
namespace Go.Proofs.YtoaeklbenmlooaaDoor
open Go Go.PL Go.RowKit
theorem eq8_24 : Eq8 Tryd.prog 24 32 := eqc_array Tryd.underlying24 Tryd.ti24 Tryd.ti5 rfl (eqc_int Tryd.underlying5 Tryd.ti5)
def greatF (s : St) : Bool := decide (1100 < s.dk.length) || decide (1100 < s.pd.length) || decide (20 < s.ks.length)
theorem great_f {s : St} (h : greatF s = false) : s.dk.length ≤ 1100 ∧ s.pd.length ≤ 1100 ∧ s.ks.length ≤ 20 := by
  simp only [greatF, Bool.or_eq_false_iff, decide_eq_false_iff_not] at h
  omega
theorem kRow_len (v : Value) {ks : List KE} {n : Nat} (h : ks.length = n) : kRow v ks = .row v n 40 6 (kcs ks) := by subst h; rfl
theorem refGreat (s : St) (dv pv kv : Value) (w : World) (hln : s.ms.length = 32) (sdv : SV dv s.dk.length) (spv : SV pv s.pd.length) (skv : SV kv s.ks.length)  :
    Calls Tryd.prog 11 [.agg (s.c dv pv kv).toArray].toArray w (Pur w (.bool (greatF s))) := by
  refine enter (m := 19) (R := Mem w [] [] []) Tryd.func11 rfl rfl (Nat.le_of_ble_eq_true rfl) (Mem.start w) ?_
  refine wpc_seq <| wpc_region ?_
  refine wpl_t (t_box rfl (s.c dv pv kv) rfl) rfl (fun b1 => ?_)
  refine wpl_q (q_pure rfl) rfl ?_
  first | skip
  refine wpl_nil <| ex_then <| wpc_seq <| wpc_region <| wpl_q (q_field Tryd.underlying35 rfl Tryd.ti22 rfl rfl _ rfl) rfl ?_
  refine wpl_q (q_ld Tryd.underlying22 rfl rfl zz21) rfl ?_
  refine wpl_q (q_lenW Tryd.underlying22 rfl zz3) rfl ?_
  refine wpl_q (q_pure rfl) rfl <| wpl_q (q_pure rfl) rfl ?_
  refine wpl_bool2 7 6 rfl rfl (fun hb7 => ?_) (fun hb7 => ?_)
  ·
   try simp only [decide_eq_true_eq] at hb7
   refine wpl_off rfl rfl rfl rfl <| wpl_off rfl rfl rfl rfl <| wpl_off rfl rfl rfl rfl <| wpl_off rfl rfl rfl rfl <| wpl_q (q_pure rfl) rfl <| wpl_q (q_pure rfl) rfl <| wpl_off rfl rfl rfl rfl <| wpl_off rfl rfl rfl rfl <| wpl_off rfl rfl rfl rfl <| wpl_off rfl rfl rfl rfl <| wpl_q (q_pure rfl) rfl <| wpl_q (q_pure rfl) rfl ?_
   first | skip
   refine wpl_nil <| ex_then <| wpc_ret ?_
   refine ret1 (.inl rfl) rfl rfl ?_
   exact fun w h => ⟨by rw [show greatF s = true by simp only [greatF, Bool.or_eq_true, decide_eq_true_eq]; omega], h.below⟩
  ·
   try simp only [decide_eq_false_iff_not] at hb7
   refine wpl_on rfl rfl <| wpl_q (q_field Tryd.underlying35 rfl Tryd.ti22 rfl rfl _ rfl) rfl <| wpl_on rfl rfl ?_
   refine wpl_q (q_ld Tryd.underlying22 rfl rfl zz21) rfl ?_
   refine wpl_on rfl rfl ?_
   refine wpl_q (q_lenW Tryd.underlying22 rfl zz3) rfl ?_
   refine wpl_on rfl rfl <| wpl_q (q_pure rfl) rfl <| wpl_q (q_pure rfl) rfl <| wpl_q (q_pure rfl) rfl ?_
   refine wpl_bool2 13 11 rfl rfl (fun hb13 => ?_) (fun hb13 => ?_)
   ·
    try simp only [decide_eq_true_eq] at hb13
    refine wpl_off rfl rfl rfl rfl <| wpl_off rfl rfl rfl rfl <| wpl_off rfl rfl rfl rfl <| wpl_off rfl rfl rfl rfl <| wpl_q (q_pure rfl) rfl <| wpl_q (q_pure rfl) rfl ?_
    first | skip
    refine wpl_nil <| ex_then <| wpc_ret ?_
    refine ret1 (.inl rfl) rfl rfl ?_
    exact fun w h => ⟨by rw [show greatF s = true by simp only [greatF, Bool.or_eq_true, decide_eq_true_eq]; omega], h.below⟩
   ·
    try simp only [decide_eq_false_iff_not] at hb13
    refine wpl_on rfl rfl <| wpl_q (q_field Tryd.underlying35 rfl Tryd.ti26 rfl rfl _ rfl) rfl <| wpl_on rfl rfl ?_
    refine wpl_q (q_ld Tryd.underlying26 rfl rfl zz21) rfl ?_
    refine wpl_on rfl rfl ?_
    refine wpl_q (q_lenW Tryd.underlying26 rfl zz3) rfl ?_
    refine wpl_on rfl rfl <| wpl_q (q_pure rfl) rfl <| wpl_q (q_pure rfl) rfl <| wpl_q (q_pure rfl) rfl ?_
    first | skip
    refine wpl_nil <| ex_then <| wpc_ret ?_
    refine ret1 (.inl rfl) rfl rfl ?_
    exact fun w h => ⟨by rw [show greatF s = decide (((s.ks.length : Nat) : Int) > 20) by rw [Bool.eq_iff_iff]; simp only [greatF, Bool.or_eq_true, decide_eq_true_eq]; omega], h.below⟩
theorem refSame_ (s : St) (dv pv kv dv2 pv2 kv2 : Value) (w : World) (hln : s.ms.length = 32) (hd : Seen w.cell? dv s.dk.length 1 (v8s s.dk)) (hp : Seen w.cell? pv s.pd.length 1 (v8s s.pd)) (hk : Seen w.cell? kv s.ks.length 6 (kcs s.ks)) (hd2 : Seen w.cell? dv2 s.dk.length 1 (v8s s.dk)) (hp2 : Seen w.cell? pv2 s.pd.length 1 (v8s s.pd)) (hk2 : Seen w.cell? kv2 s.ks.length 6 (kcs s.ks))  :
    Calls Tryd.prog 15 [.agg (s.c dv pv kv).toArray, .agg (s.c dv2 pv2 kv2).toArray].toArray w (Pur w (.bool true)) := by
  have sdv := hd.sv
  have spv := hp.sv
  have skv := hk.sv
  have sdv2 := hd2.sv
  have spv2 := hp2.sv
  have skv2 := hk2.sv
  refine enter (m := 45) (R := Mem w [] [] []) Tryd.func15 rfl rfl (Nat.le_of_ble_eq_true rfl) (Mem.start w) ?_
  refine wpc_seq <| wpc_region ?_
  refine wpl_t (t_box rfl (s.c dv pv kv) rfl) rfl (fun b2 => ?_)
  refine wpl_t (t_box rfl (s.c dv2 pv2 kv2) rfl) rfl (fun b3 => ?_)
  refine wpl_q (q_pure rfl) rfl <| wpl_nil <| ex_then <| wpc_seq <| wpc_region <| wpl_q (q_field Tryd.underlying35 rfl Tryd.ti24 rfl rfl _ rfl) rfl ?_
  refine wpl_q (q_ldP Tryd.underlying24 rfl Tryd.ti24 rfl (v8s s.ms) (St.c_m hln) (by rw [v8s_length]; exact hln)) rfl ?_
  refine wpl_q (q_field Tryd.underlying35 rfl Tryd.ti24 rfl rfl _ rfl) rfl ?_
  refine wpl_q (q_ldP Tryd.underlying24 rfl Tryd.ti24 rfl (v8s s.ms) (St.c_m hln) (by rw [v8s_length]; exact hln)) rfl ?_
  refine wpl_q (q_eq8 eq8_24 zz6 rfl rfl hln hln) rfl ?_
  refine wpl_q (q_tru (q_pure rfl) zz50) rfl ?_
  refine wpl_on rfl rfl <| wpl_q (q_field Tryd.underlying35 rfl Tryd.ti3 rfl rfl _ rfl) rfl <| wpl_on rfl rfl ?_
  refine wpl_q (q_ld Tryd.underlying3 rfl rfl zz21) rfl ?_
  refine wpl_on rfl rfl <| wpl_q (q_field Tryd.underlying35 rfl Tryd.ti3 rfl rfl _ rfl) rfl <| wpl_on rfl rfl ?_
  refine wpl_q (q_ld Tryd.underlying3 rfl rfl zz21) rfl ?_
  refine wpl_on rfl rfl <| wpl_q (q_pure rfl) rfl <| wpl_q (q_pure rfl) rfl ?_
  refine wpl_q (q_tru (q_pure rfl) zz50) rfl ?_
  refine wpl_on rfl rfl <| wpl_q (q_field Tryd.underlying35 rfl Tryd.ti4 rfl rfl _ rfl) rfl <| wpl_on rfl rfl ?_
  refine wpl_q (q_ld Tryd.underlying4 rfl rfl zz21) rfl ?_
  refine wpl_on rfl rfl <| wpl_q (q_field Tryd.underlying35 rfl Tryd.ti4 rfl rfl _ rfl) rfl <| wpl_on rfl rfl ?_
  refine wpl_q (q_ld Tryd.underlying4 rfl rfl zz21) rfl ?_
  refine wpl_on rfl rfl <| wpl_q (q_beq Tryd.underlying4 rfl rfl) rfl <| wpl_q (q_pure rfl) rfl ?_
  refine wpl_q (q_tru (q_pure rfl) zz50) rfl ?_
  refine wpl_on rfl rfl <| wpl_q (q_field Tryd.underlying35 rfl Tryd.ti22 rfl rfl _ rfl) rfl <| wpl_on rfl rfl ?_
  refine wpl_q (q_ld Tryd.underlying22 rfl rfl zz21) rfl ?_
  refine wpl_on rfl rfl <| wpl_q (q_field Tryd.underlying35 rfl Tryd.ti22 rfl rfl _ rfl) rfl <| wpl_on rfl rfl ?_
  refine wpl_q (q_ld Tryd.underlying22 rfl rfl zz21) rfl ?_
  refine wpl_on rfl rfl ?_
  refine wpl_t (t_pur Tryd.hb20 rfl fun w h => refSameB dv s.dk dv2 s.dk w (h.seen_old hd) (h.seen_old hd2)) rfl (fun b29 => ?_)
  refine wpl_q (q_pure rfl) rfl ?_
  refine wpl_q (q_tru (q_pure rfl) zz50) rfl ?_
  refine wpl_on rfl rfl <| wpl_q (q_field Tryd.underlying35 rfl Tryd.ti22 rfl rfl _ rfl) rfl <| wpl_on rfl rfl ?_
  refine wpl_q (q_ld Tryd.underlying22 rfl rfl zz21) rfl ?_
  refine wpl_on rfl rfl <| wpl_q (q_field Tryd.underlying35 rfl Tryd.ti22 rfl rfl _ rfl) rfl <| wpl_on rfl rfl ?_
  refine wpl_q (q_ld Tryd.underlying22 rfl rfl zz21) rfl ?_
  refine wpl_on rfl rfl ?_
  refine wpl_t (t_pur Tryd.hb20 rfl fun w h => refSameB pv s.pd pv2 s.pd w (h.seen_old hp) (h.seen_old hp2)) rfl (fun b36 => ?_)
  refine wpl_q (q_pure rfl) rfl ?_
  refine wpl_q (q_tru (q_pure rfl) zz50) rfl ?_
  refine wpl_on rfl rfl <| wpl_q (q_field Tryd.underlying35 rfl Tryd.ti26 rfl rfl _ rfl) rfl <| wpl_on rfl rfl ?_
  refine wpl_q (q_ld Tryd.underlying26 rfl rfl zz21) rfl ?_
  refine wpl_on rfl rfl <| wpl_q (q_field Tryd.underlying35 rfl Tryd.ti26 rfl rfl _ rfl) rfl <| wpl_on rfl rfl ?_
  refine wpl_q (q_ld Tryd.underlying26 rfl rfl zz21) rfl ?_
  refine wpl_on rfl rfl ?_
  refine wpl_t (t_pur Tryd.hb7 rfl fun w h => sameKeys kv s.ks kv2 s.ks w (h.seen_old hk) (h.seen_old hk2)) rfl (fun b43 => ?_)
  refine wpl_q (q_pure rfl) rfl <| wpl_q (q_pure rfl) rfl <| wpl_nil <| ex_then <| wpc_ret ?_
  refine ret1 (.inl rfl) rfl rfl ?_
  exact fun w h => ⟨zz50, h.below⟩
end Go.Proofs.YtoaeklbenmlooaaDoor
namespace Go.Proofs.YtoaeklbenmlooaaDoor
open Go Go.PL Go.RowKit
theorem newF_len {m : List UInt8} {n : Int} (h : m.length = 32) : (newF m n).1.ms.length = 32 := by
  unfold newF; split
  · rfl
  · exact h
theorem newF_nil (m : List UInt8) (n : Int) : (newF m n).1.dk = [] ∧ (newF m n).1.pd = [] ∧ (newF m n).1.ks = [] := by
  unfold newF; split <;> exact ⟨rfl, rfl, rfl⟩
theorem reserveF_len {s : St} {id : UInt32} (h : s.ms.length = 32) : (reserveF s id).1.ms.length = 32 := by
  unfold reserveF; split
  · rfl
  · split
    · rfl
    · exact writeF_len h
theorem dropF_len {s : St} {id : UInt32} (h : s.ms.length = 32) : (dropF s id).1.ms.length = 32 := by
  unfold dropF; split
  · rfl
  · exact writeF_len h
end Go.Proofs.YtoaeklbenmlooaaDoor
namespace Go.Proofs.YtoaeklbenmlooaaDoor
open Go Go.PL Go.RowKit
section
variable {H : Type} {enc : TypeId × Value → H} {w : World} {base : Nat} {sp : Nat → Bool} {held : Bool}
theorem opensKE : Opens enc Tryd.prog w base sp held 40 (fun (k : KE) c _ => c = k.c) := by
  intro n c y h
  obtain ⟨⟨id, ht, nx, du, ak, dr, _⟩, x0, y0, d0, e0, h0, x1, y1, d1, e1, h1, x2, y2, d2, e2, h2, x3, y3, d3, e3, h3, x4, y4, d4, e4, h4, x5, y5, d5, e5, h5, h6⟩ :=
    opens_struct Tryd.underlying40 (fin := 6) zz6 (OpensFs.cons (s := 1) rfl zz6 (opens_u32 Tryd.underlying25) (OpensFs.cons (s := 1) rfl zz6 (opens_i64 Tryd.underlying3) (OpensFs.cons (s := 1) rfl zz6 (opens_i64 Tryd.underlying3) (OpensFs.cons (s := 1) rfl zz6 (opens_i64 Tryd.underlying3) (OpensFs.cons (s := 1) rfl zz6 (opens_i64 Tryd.underlying3) (OpensFs.cons (s := 1) rfl zz6 (opens_bool Tryd.underlying4) (OpensFs.nil _))))))) n c y h
  dsimp only at h0 h1 h2 h3 h4 h5 h6
  refine ⟨⟨id, ht, nx, du, ak, dr⟩, ?_⟩
  rw [e0, e1, e2, e3, e4, e5, h0, h1.1, h2.1, h3.1, h4.1, h5, h6]; rfl
theorem opensKEs : Opens enc Tryd.prog w base sp held 26 (fun (p : Value × List KE) c _ => c = [p.1] ∧ Seen w.cell? p.1 p.2.length 6 (kcs p.2)) := by
  intro n cs y h
  obtain ⟨⟨v, qs⟩, h1, h2, h3, _⟩ := opens_slice Tryd.underlying26 (sz := 6) zz6 opensKE n cs y h
  refine ⟨(v, qs.map (·.1)), h1, ?_⟩
  have e : (qs.map (·.2.1)).flatten = kcs (qs.map (·.1)) := by
    rw [kcs, List.map_map]
    congr 1
    exact List.map_congr_left fun q hq => (h3 q hq).1
  dsimp only at h2 ⊢
  rw [List.length_map, ← e]; exact h2
theorem opensSt : Opens enc Tryd.prog w base sp held 35 (fun (a : St × V3) c _ => c = a.1.c a.2.1 a.2.2.1 a.2.2.2 ∧ a.1.ms.length = 32 ∧ Seen w.cell? a.2.1 a.1.dk.length 1 (v8s a.1.dk) ∧ Seen w.cell? a.2.2.1 a.1.pd.length 1 (v8s a.1.pd) ∧ Seen w.cell? a.2.2.2 a.1.ks.length 6 (kcs a.1.ks)) := by
  intro n c y h
  obtain ⟨⟨ms, bt, up, ⟨dv, dk⟩, ⟨pv, pd⟩, ⟨kv, ks⟩, _⟩, x0, y0, d0, e0, h0, x1, y1, d1, e1, h1, x2, y2, d2, e2, h2, x3, y3, d3, e3, h3, x4, y4, d4, e4, h4, x5, y5, d5, e5, h5, h6⟩ :=
    opens_struct Tryd.underlying35 (fin := 37) zz6 (OpensFs.cons (s := 32) rfl zz6 (opens_arr Tryd.underlying24 zz6 zz6 (opens_u8 Tryd.underlying5)) (OpensFs.cons (s := 1) rfl zz6 (opens_i64 Tryd.underlying3) (OpensFs.cons (s := 1) rfl zz6 (opens_bool Tryd.underlying4) (OpensFs.cons (s := 1) rfl zz6 (opens_u8s Tryd.underlying22 Tryd.underlying5 zz6) (OpensFs.cons (s := 1) rfl zz6 (opens_u8s Tryd.underlying22 Tryd.underlying5 zz6) (OpensFs.cons (s := 1) rfl zz6 opensKEs (OpensFs.nil _))))))) n c y h
  dsimp only at h0 h1 h2 h3 h4 h5 h6
  refine ⟨(⟨ms, bt, up, dk, pd, ks⟩, dv, pv, kv), ?_, h0.2, h3.2.1, h4.2.1, h5.2⟩
  rw [e0, e1, e2, e3, e4, e5, h0.1, h1.1, h2, h3.1, h4.1, h5.1, h6]; rfl
end
end Go.Proofs.YtoaeklbenmlooaaDoor
namespace Go.Proofs.YtoaeklbenmlooaaDoor
open Go Go.PL Go.RowKit
def durK (k : KE) : KE := { k with du := k.ak }
def durT (ks : List KE) (i : Nat) : List KE := (ks.take i).map durK ++ ks.drop i
theorem durT_len (ks : List KE) (i : Nat) : (durT ks i).length = ks.length := by
  rw [durT, List.length_append, List.length_map, List.length_take, List.length_drop]; omega
theorem durT_0 (ks : List KE) : durT ks 0 = ks := rfl
theorem durT_get {ks : List KE} {i : Nat} (h : i < ks.length) : (durT ks i).getD i KE.z = ks.getD i KE.z := by
  rw [durT, List.getD_eq_getElem?_getD, List.getD_eq_getElem?_getD, List.getElem?_append_right (by rw [List.length_map, List.length_take]; omega), List.length_map, List.length_take, List.getElem?_drop]
  congr 2; omega
theorem durT_succ {ks : List KE} {i : Nat} (h : i < ks.length) : (durT ks i).set i (durK (ks.getD i KE.z)) = durT ks (i + 1) := by
  have e : ks.drop i = ks.getD i KE.z :: ks.drop (i + 1) := by
    rw [List.drop_eq_getElem_cons h]; congr 1; rw [List.getD_eq_getElem?_getD, List.getElem?_eq_getElem h]; rfl
  have e2 : ks.take (i + 1) = ks.take i ++ [ks.getD i KE.z] := by
    rw [List.take_add_one, List.getD_eq_getElem?_getD, List.getElem?_eq_getElem h]; rfl
  unfold durT
  rw [List.set_append_right _ _ (by rw [List.length_map, List.length_take]; omega), List.length_map, List.length_take, show i - min i ks.length = 0 from zz16, e, List.set_cons_zero, e2, List.map_append, List.append_assoc]
  rfl
theorem durT_set {ks : List KE} {i : Nat} (h : i < ks.length) : (kcs (durT ks i)).set (i * 6 + 3) (.int .i64 (ks.getD i KE.z).ak) = kcs (durT ks (i + 1)) := by
  rw [← durT_succ h]
  exact kcs_set _ (by rw [durT_len]; exact h) (by rw [durT_get h]; rfl) zz27
def syncF (s : St) : St × Int := if ¬ upF s true = 0 then (St.z, upF s true) else ({ s with dk := s.dk ++ s.pd, pd := [], ks := durT s.ks s.ks.length }, 0)
theorem sy1 {s : St} (h : ¬ upF s true = 0) : syncF s = (St.z, upF s true) := if_pos h
theorem sy2 {s : St} (h : upF s true = 0) : syncF s = ({ s with dk := s.dk ++ s.pd, pd := [], ks := durT s.ks s.ks.length }, 0) := if_neg (fun hh => hh h)
theorem nilMid {w0 w : World} {Ln : List Nat} {a b : Ent} (h : Mem w0 Ln [a, b] [] w) : Mem w0 Ln [a, dRow nl [], b] [] w := (h.nilRow 5 1).perm (List.Perm.swap a (dRow nl []) [b])
theorem nilTwo {w0 w : World} {Ln : List Nat} {a : Ent} (h : Mem w0 Ln [a] [] w) : Mem w0 Ln [a, dRow nl [], kRow nl []] [] w := ((h.nilRow 40 6).nilRow 5 1).perm (List.perm_append_comm (l₁ := [dRow nl [], kRow nl []]) (l₂ := [a]))
theorem sync_rows {w0 w : World} {s : St} {v kv : Value} {m : Nat} (hm : m = (s.dk ++ s.pd).length) (h : Mem w0 [] [.row v m 5 1 (v8s (s.dk ++ s.pd)), .row kv s.ks.length 40 6 (kcs (durT s.ks s.ks.length))] [] w) : New w0.heap.size [dRow v (s.dk ++ s.pd), dRow nl [], kRow kv (durT s.ks s.ks.length)] [] w := by
  subst hm
  rw [kRow_len kv (durT_len _ _)]
  exact (nilMid h).made (Sub.refl _) .nil
def crashF (s : St) (k : Int) : St × Int := if ¬ upF s true = 0 then (St.z, upF s true) else if k < 0 ∨ (s.pd.length : Int) < k then (St.z, 2) else ({ s with up := false, dk := s.dk ++ s.pd.take k.toNat, pd := [], ks := [] }, 0)
theorem ch1 {s : St} {k : Int} (h : ¬ upF s true = 0) : crashF s k = (St.z, upF s true) := if_pos h
theorem ch2 {s : St} {k : Int} (h : upF s true = 0) (h2 : k < 0 ∨ (s.pd.length : Int) < k) : crashF s k = (St.z, 2) := by unfold crashF; rw [if_neg (fun hh => hh h), if_pos h2]
theorem ch3 {s : St} {m : Nat} (h : upF s true = 0) (h2 : m ≤ s.pd.length) : crashF s ((m : Nat) : Int) = ({ s with up := false, dk := s.dk ++ s.pd.take m, pd := [], ks := [] }, 0) := by
  unfold crashF; rw [if_neg (fun hh => hh h), if_neg zz16, Int.toNat_natCast]
theorem tk_le (xs : List UInt8) (m : Nat) : (xs.take m).length ≤ xs.length := by rw [List.length_take]; omega
theorem sync (s : St) (dv pv kv : Value) (w : World) (hs : StS w.cell? s dv pv kv)  :
    Calls Tryd.prog 76 [.agg (s.c dv pv kv).toArray].toArray w (GivesP w (fun x : V3 => (syncF s).1.sv x) (fun x => .tuple #[stV (syncF s).1 x, .int .i64 (syncF s).2]) (fun x => [dRow x.1 (syncF s).1.dk, dRow x.2.1 (syncF s).1.pd, kRow x.2.2 (syncF s).1.ks]) (fun _ => [])) := by
  have sdv := hs.d.sv
  have spv := hs.p.sv
  have skv := hs.k.sv
  have l1hs := hs.ld
  have l2hs := hs.lp
  have l3hs := hs.lk
  refine enter (m := 40) (R := Mem w [] [] []) Tryd.func76 rfl rfl (Nat.le_of_ble_eq_true rfl) (Mem.start w) ?_
  refine wpc_seq <| wpc_region ?_
  refine wpl_t (t_box rfl (s.c dv pv kv) rfl) rfl (fun b1 => ?_)
  refine wpl_t (t_alloc Tryd.ti35 (St.z.c nl nl nl) rfl) rfl (fun b2 => ?_)
  refine wpl_q (q_pure rfl) rfl <| wpl_nil <| ex_then <| wpc_seq <| wpc_seq <| wpc_region <| wpl_q (q_ldN Tryd.underlying35 rfl Tryd.ti35 rfl (St.c_length hs.len)) rfl ?_
  refine wpl_t (t_pur Tryd.hb40 rfl fun w h => up_ _ _ _ _ _ w zz25) rfl (fun b7 => ?_)
  refine wpl_q (q_pure rfl) rfl <| wpl_nil <| ex_then <| wpc_seq <| wpc_region <| wpl_q (q_pure rfl) rfl <| wpl_q (q_pure rfl) rfl <| wpl_nil <| ex_then ?_
  refine wpc_cond rfl (fun hc9 => ?_) (fun hc9 => ?_)
  ·
   simp only [bne_iff_ne, ne_eq] at hc9
   refine wpc_seq <| wpc_region ?_
   refine wpl_q (q_build (cs := St.z.c nl nl nl) rfl built_st0) rfl ?_
   refine wpl_q (q_pure rfl) rfl ?_
   refine wpl_t0 (t_stA Tryd.ti35 rfl rfl (St.c_length zz37) zz35 zz23) (fun _ => ?_)
   refine wpl_q (q_pure rfl) rfl <| wpl_nil <| ex_then <| wpc_ret ?_
   refine ex_then_ret ?_
   refine retv2 (.inl rfl) rfl (rv_agg Tryd.underlying35 rfl Tryd.ti35 rfl (fun w h => h.atB) (St.c_length zz48)) (rv_tmp rfl) ?_
   exact fun w h => ⟨(nl, nl, nl), by rw [sy1 hc9]; exact zSV, by rw [sy1 hc9]; first | done | rfl, h.below, by rw [sy1 hc9]; exact (zRows h).made SubC.h .nil⟩
  ·
   simp only [bne_eq_false_iff_eq] at hc9
   have hsy := sy2 hc9
   refine wpc_skip <| ex_then <| wpc_seq <| wpc_region <| wpl_q (q_ldN Tryd.underlying35 rfl Tryd.ti35 rfl (St.c_length hs.len)) rfl ?_
   refine wpl_tp (t_callP3 Tryd.hb28 rfl fun w h => twin s dv pv kv w zz25) rfl (fun b13 p13 => ?_)
   have q3 : SV b13.2.2 s.ks.length := p13.2.2
   have q1 : SV b13.1 s.dk.length := p13.1
   have q2 : SV b13.2.1 s.pd.length := p13.2.1
   refine wpl_t0 (t_stA Tryd.ti35 rfl rfl (St.c_length zz37) (by first | exact St.c_one SV.nil SV.nil SV.nil | exact St.c_one p13.1 p13.2.1 p13.2.2) zz23) (fun _ => ?_)
   refine wpl_nil <| ex_then <| wpc_seq <| wpc_region <| wpl_q (q_field Tryd.underlying35 rfl Tryd.ti22 rfl rfl _ rfl) rfl ?_
   refine wpl_q (q_ld Tryd.underlying22 rfl rfl zz13) rfl ?_
   refine wpl_q (q_field Tryd.underlying35 rfl Tryd.ti22 rfl rfl _ rfl) rfl ?_
   refine wpl_q (q_ld Tryd.underlying22 rfl rfl zz13) rfl ?_
   refine wpl_tp (t_apW Tryd.underlying22 Tryd.ti5 rfl zz27 rfl rfl (fun w h => (show Seen w.cell? b13.2.1 s.pd.length 1 (v8s s.pd) from h.seenV)) (v8s_one _) zz1 zz1 (v8s (s.dk ++ s.pd)) (by rw [v8s_append])) rfl (fun b18 p18 => ?_)
   refine wpl_q (q_field Tryd.underlying35 rfl Tryd.ti22 rfl rfl _ rfl) rfl ?_
   refine wpl_t0 (t_st1 Tryd.ti22 rfl rfl (SV.one zz3) (St.c_lt hs.len zz27) _ zz40) (fun _ => ?_)
   refine wpl_q (q_field Tryd.underlying35 rfl Tryd.ti22 rfl rfl _ rfl) rfl ?_
   refine wpl_t0 (t_st1 Tryd.ti22 rfl rfl (SV.one zz3) (St.c_lt hs.len zz27) _ zz40) (fun _ => ?_)
   refine wpl_nil <| ex_then <| wpc_seq <| wpc_seq <| wpc_region <| wpl_q (q_field Tryd.underlying35 rfl Tryd.ti26 rfl rfl _ rfl) rfl ?_
   refine wpl_q (q_ld Tryd.underlying26 rfl rfl zz13) rfl ?_
   refine wpl_q (q_lenW Tryd.underlying26 rfl zz3) rfl ?_
   refine wpl_q (q_pure rfl) rfl <| wpl_nil <| ex_then <| wpc_block ?_
   refine wpc_loopc (ι := { x : Nat // (x ≤ s.ks.length) }) [(1, _), (2, _), (23, _)] (fun x Lc => (24, .int .i64 ((x.1 : Nat) : Int)) :: Lc) (fun x => Mem w [] [.row b18 (s.dk.length + s.pd.length) 5 1 (v8s (s.dk ++ s.pd)), .row b13.2.2 s.ks.length 40 6 (kcs (durT s.ks x.1)), .blk b2 35 (St.z.c nl nl nl), .blk b1 35 (s.c b18 nl b13.2.2)] []) (fun x => s.ks.length - x.1) ⟨0, (Nat.zero_le _)⟩ zz14 ?_ ?_
   ·
    exact fun w h => by dsimp only; rw [durT_0]; exact h.sub SubC.h SubC.h
   ·
    rintro ⟨i, hi0⟩; try dsimp only
    have hi0 : i ≤ s.ks.length := hi0
    refine wpc_seq <| wpc_region <| wpl_q (q_pure rfl) rfl <| wpl_nil <| ex_then <| wpc_seq ?_
    refine wpc_cond rfl (fun hc25 => ?_) (fun hc25 => ?_)
    ·
     simp only [decide_eq_true_eq] at hc25
     have hik : i < s.ks.length := by omega
     have hid : i < (durT s.ks i).length := by rw [durT_len]; exact hik
     have hkl := kcs_length (durT s.ks i)
     have hdl := durT_len s.ks i
     refine wpc_skip <| ex_then <| wpc_seq <| wpc_block <| wpc_seq <| wpc_region <| wpl_q (q_pure rfl) rfl <| wpl_q (q_pure rfl) rfl <| wpl_nil <| ex_then ?_
     refine wpc_draw 11 zz6 (fun _ h => h.drew) ?_
     refine wpd_p 0 rfl zz6 trivial (q_field Tryd.underlying35 rfl Tryd.ti26 rfl rfl _ rfl) rfl sk0 ?_
     refine wpd_q 1 rfl zz6 trivial (q_ld Tryd.underlying26 rfl rfl zz13) rfl (fun _ h => h) ?_
     refine wpd_p 2 rfl zz6 trivial (q_pure rfl) rfl sk0 ?_
     refine wpd_p 3 rfl zz6 trivial (q_field Tryd.underlying35 rfl Tryd.ti26 rfl rfl _ rfl) rfl sk0 ?_
     refine wpd_q 4 rfl zz6 trivial (q_ld Tryd.underlying26 rfl rfl zz13) rfl (fun _ h => h) ?_
     refine wpd_p 5 rfl zz6 trivial (q_pure rfl) rfl sk0 ?_
     refine wpd_p 6 rfl zz6 trivial (q_idxW Tryd.underlying26 Tryd.ti40 rfl rfl zz3 zz1) rfl sk0 ?_
     refine wpd_p 7 rfl zz6 trivial (q_fieldPo 4 Tryd.underlying40 rfl Tryd.ti3 rfl rfl rfl) rfl sk0 ?_
     refine wpd_q 8 rfl zz6 trivial (q_ldWF Tryd.underlying3 rfl rfl (fun w h => (show Seen w.cell? b13.2.2 s.ks.length 6 (kcs (durT s.ks i)) from h.seenV)) (kcs_get (v := .int .i64 (s.ks.getD i KE.z).ak) hid (by rw [durT_get hik]; rfl))) rfl (fun _ h => h) ?_
     refine wpd_p 9 rfl zz6 trivial (q_idxW Tryd.underlying26 Tryd.ti40 rfl rfl zz3 zz1) rfl sk0 ?_
     refine wpd_p 10 rfl zz6 trivial (q_fieldPo 3 Tryd.underlying40 rfl Tryd.ti3 rfl rfl rfl) rfl sk0 ?_
     refine wpd_t0 11 rfl zz6 trivial (t_stWF Tryd.ti3 rfl rfl rfl zz16 (kcs (durT s.ks (i + 1))) (durT_set hik)) (fun _ => skk rfl) (fun _ => ?_)
     refine wpd_done zz6 ?_
     refine ex_block <| ex_then <| wpc_region ?_
     refine wpl_q (q_addN (b := 1) rfl rfl zz1) rfl ?_
     refine wpl_q (q_pure rfl) rfl <| wpl_nil ?_
     refine ex_again ⟨i + 1, zz16⟩ ?_ ?_ ?_
     ·
      exact zz14
     ·
      exact fun w h => by first | exact h | exact h.sub SubC.h SubC.h | exact h.sub zz8 zz8
     ·
      (show s.ks.length - (i + 1) < s.ks.length - i); omega
    ·
     simp only [decide_eq_false_iff_not] at hc25
     obtain rfl : i = s.ks.length := by omega
     refine wpc_exit ?_
     refine ex_then_exit ?_
     refine ex_then_exit ?_
     refine ex_block_hit ?_
     refine ex_then <| wpc_seq <| wpc_region <| wpl_q (q_ldN Tryd.underlying35 rfl Tryd.ti35 rfl (St.c_length hs.len)) rfl ?_
     refine wpl_t0 (t_stA Tryd.ti35 rfl rfl (St.c_length zz37) (by first | exact St.c_one SV.nil SV.nil SV.nil | exact St.c_one p18 SV.nil q3) zz23) (fun _ => ?_)
     refine wpl_q (q_pure rfl) rfl <| wpl_nil <| ex_then <| wpc_ret ?_
     refine retv2 (.inl rfl) rfl (rv_agg Tryd.underlying35 rfl Tryd.ti35 rfl (fun w h => h.atB) (St.c_length zz48)) (rv_tmp rfl) ?_
     exact fun w h => ⟨(b18, nl, b13.2.2), by rw [hsy]; exact ⟨by show SV b18 (s.dk ++ s.pd).length; first | exact p18 | (rw [List.length_append]; exact p18), SV.nil, by show SV b13.2.2 (durT s.ks s.ks.length).length; rw [durT_len]; exact q3⟩, by rw [hsy]; rfl, h.below, by rw [hsy]; exact sync_rows (m := s.dk.length + s.pd.length) (by first | rfl | rw [List.length_append]) (h.sub SubC.h .nil)⟩
theorem crash (s : St) (dv pv kv : Value) (k : Int) (w : World) (hs : StS w.cell? s dv pv kv)  :
    Calls Tryd.prog 77 [.agg (s.c dv pv kv).toArray, .int .i64 k].toArray w (GivesP w (fun x : V3 => (crashF s k).1.sv x) (fun x => .tuple #[stV (crashF s k).1 x, .int .i64 (crashF s k).2]) (fun x => [dRow x.1 (crashF s k).1.dk, dRow x.2.1 (crashF s k).1.pd, kRow x.2.2 (crashF s k).1.ks]) (fun _ => [])) := by
  have sdv := hs.d.sv
  have spv := hs.p.sv
  have skv := hs.k.sv
  have l1hs := hs.ld
  have l2hs := hs.lp
  have l3hs := hs.lk
  refine enter (m := 38) (R := Mem w [] [] []) Tryd.func77 rfl rfl (Nat.le_of_ble_eq_true rfl) (Mem.start w) ?_
  refine wpc_seq <| wpc_region ?_
  refine wpl_t (t_box rfl (s.c dv pv kv) rfl) rfl (fun b2 => ?_)
  refine wpl_t (t_alloc Tryd.ti35 (St.z.c nl nl nl) rfl) rfl (fun b4 => ?_)
  refine wpl_q (q_pure rfl) rfl <| wpl_nil <| ex_then <| wpc_seq <| wpc_region <| wpl_q (q_ldN Tryd.underlying35 rfl Tryd.ti35 rfl (St.c_length hs.len)) rfl ?_
  refine wpl_t (t_pur Tryd.hb40 rfl fun w h => up_ _ _ _ _ _ w zz25) rfl (fun b8 => ?_)
  refine wpl_q (q_pure rfl) rfl <| wpl_nil <| ex_then <| wpc_seq <| wpc_block <| wpc_seq <| wpc_region <| wpl_q (q_pure rfl) rfl <| wpl_q (q_pure rfl) rfl <| wpl_q (q_pure rfl) rfl <| wpl_nil <| ex_then ?_
  refine wpc_cond rfl (fun hc9 => ?_) (fun hc9 => ?_)
  ·
   simp only [bne_iff_ne, ne_eq] at hc9
   refine wpc_seq <| wpc_region ?_
   refine wpl_q (q_build (cs := St.z.c nl nl nl) rfl built_st0) rfl ?_
   refine wpl_q (q_pure rfl) rfl ?_
   refine wpl_t0 (t_stA Tryd.ti35 rfl rfl (St.c_length zz37) zz35 zz23) (fun _ => ?_)
   refine wpl_q (q_pure rfl) rfl <| wpl_nil <| ex_then <| wpc_ret ?_
   refine ex_block_ret ?_
   refine ex_then_ret ?_
   refine retv2 (.inl rfl) rfl (rv_agg Tryd.underlying35 rfl Tryd.ti35 rfl (fun w h => h.atB) (St.c_length zz48)) (rv_tmp rfl) ?_
   exact fun w h => ⟨(nl, nl, nl), by rw [ch1 hc9]; exact zSV, by rw [ch1 hc9]; first | done | rfl, h.below, by rw [ch1 hc9]; exact (zRows h).made SubC.h .nil⟩
  ·
   simp only [bne_eq_false_iff_eq] at hc9
   refine wpc_seq <| wpc_region <| wpl_q (q_pure rfl) rfl <| wpl_q (q_pure rfl) rfl <| wpl_q (q_pure rfl) rfl ?_
   refine wpl_bool2 17 16 rfl rfl (fun hb17 => ?_) (fun hb17 => ?_)
   ·
    try simp only [decide_eq_true_eq] at hb17
    refine wpl_off rfl rfl rfl rfl <| wpl_off rfl rfl rfl rfl <| wpl_off rfl rfl rfl rfl <| wpl_off rfl rfl rfl rfl <| wpl_off rfl rfl rfl rfl <| wpl_q (q_pure rfl) rfl <| wpl_q (q_pure rfl) rfl <| wpl_nil <| ex_then ?_
    refine wpc_cond_t rfl ?_
    refine wpc_seq <| wpc_region ?_
    refine wpl_q (q_build (cs := St.z.c nl nl nl) rfl built_st0) rfl ?_
    refine wpl_t0 (t_stA Tryd.ti35 rfl rfl (St.c_length zz37) zz35 zz23) (fun _ => ?_)
    refine wpl_q (q_pure rfl) rfl <| wpl_nil <| ex_then <| wpc_ret ?_
    refine ex_block_ret ?_
    refine ex_then_ret ?_
    refine retv2 (.inl rfl) rfl (rv_agg Tryd.underlying35 rfl Tryd.ti35 rfl (fun w h => h.atB) (St.c_length zz48)) (rv_tmp rfl) ?_
    exact fun w h => ⟨(nl, nl, nl), by rw [ch2 hc9 (.inl hb17)]; exact zSV, by rw [ch2 hc9 (.inl hb17)]; first | done | rfl, h.below, by rw [ch2 hc9 (.inl hb17)]; exact (zRows h).made SubC.h .nil⟩
   ·
    try simp only [decide_eq_false_iff_not] at hb17
    refine wpl_on rfl rfl <| wpl_q (q_pure rfl) rfl <| wpl_on rfl rfl <| wpl_q (q_field Tryd.underlying35 rfl Tryd.ti22 rfl rfl _ rfl) rfl <| wpl_on rfl rfl ?_
    refine wpl_q (q_ld Tryd.underlying22 rfl rfl zz13) rfl ?_
    refine wpl_on rfl rfl ?_
    refine wpl_q (q_lenW Tryd.underlying22 rfl zz3) rfl ?_
    refine wpl_on rfl rfl <| wpl_q (q_pure rfl) rfl <| wpl_q (q_pure rfl) rfl <| wpl_q (q_pure rfl) rfl <| wpl_nil <| ex_then ?_
    refine wpc_cond rfl (fun hc14 => ?_) (fun hc14 => ?_)
    ·
     try simp only [decide_eq_true_eq, gt_iff_lt] at hc14
     refine wpc_seq <| wpc_region ?_
     refine wpl_q (q_build (cs := St.z.c nl nl nl) rfl built_st0) rfl ?_
     refine wpl_t0 (t_stA Tryd.ti35 rfl rfl (St.c_length zz37) zz35 zz23) (fun _ => ?_)
     refine wpl_q (q_pure rfl) rfl <| wpl_nil <| ex_then <| wpc_ret ?_
     refine ex_block_ret ?_
     refine ex_then_ret ?_
     refine retv2 (.inl rfl) rfl (rv_agg Tryd.underlying35 rfl Tryd.ti35 rfl (fun w h => h.atB) (St.c_length zz48)) (rv_tmp rfl) ?_
     exact fun w h => ⟨(nl, nl, nl), by rw [ch2 hc9 (.inr hc14)]; exact zSV, by rw [ch2 hc9 (.inr hc14)]; first | done | rfl, h.below, by rw [ch2 hc9 (.inr hc14)]; exact (zRows h).made SubC.h .nil⟩
    ·
     simp only [decide_eq_false_iff_not, gt_iff_lt] at hc14
     have hk0 : 0 ≤ k := by omega
     obtain ⟨m, rfl⟩ := Int.eq_ofNat_of_zero_le hk0
     have hmp : m ≤ s.pd.length := by omega
     have hch := ch3 hc9 hmp
     have htl := tk_le s.pd m
     refine wpc_skip <| ex_block <| ex_then <| wpc_seq ?_
     refine wpc_draw 9 zz6 (fun _ h => h.drew) ?_
     refine wpd_p 0 rfl zz6 trivial (q_field Tryd.underlying35 rfl Tryd.ti22 rfl rfl _ rfl) rfl sk0 ?_
     refine wpd_q 1 rfl zz6 trivial (q_ld Tryd.underlying22 rfl rfl zz13) rfl (fun _ h => h) ?_
     refine wpd_p 2 rfl zz6 trivial (q_field Tryd.underlying35 rfl Tryd.ti22 rfl rfl _ rfl) rfl sk0 ?_
     refine wpd_q 3 rfl zz6 trivial (q_ld Tryd.underlying22 rfl rfl zz13) rfl (fun _ h => h) ?_
     refine wpd_p 4 rfl zz6 trivial (q_pure rfl) rfl sk0 ?_
     refine wpd_p 5 rfl zz6 trivial (q_slWh Tryd.underlying22 Tryd.ti5 rfl rfl zz3 zz16) rfl sk0 ?_
     refine wpd_tp 6 rfl zz6 trivial (t_bsV [dv, slv pv 0 m 1] Tryd.underlying111 Tryd.ti22 rfl rfl zz27 zz27 rfl zz17) rfl (fun _ => (fun w h => .inr (h.sub SubC.h SubC.h))) (fun b31 p31 => ?_)
     refine wpd_tp 7 rfl zz6 trivial (t_callP1 Tryd.hb79 rfl fun w h => concat2 _ dv (slv pv 0 m 1) s.dk (s.pd.take m) w (partsK2 h.seenV (h.seen_old hs.d) (show Seen w.cell? (slv pv 0 m 1) (s.pd.take m).length 1 (v8s (s.pd.take m)) from Seen.re8 (Seen.slv8 (h.seen_old hs.p) 0 m zz16 zz16))) (by rw [List.length_append]; omega)) rfl (fun _ => (fun w h => .inr (h.sub SubC.h SubC.h))) (fun b32 p32 => ?_)
     refine wpd_p 8 rfl zz6 trivial (q_field Tryd.underlying35 rfl Tryd.ti22 rfl rfl _ rfl) rfl (fun w h => .inr (h.sub SubC.h SubC.h)) ?_
     refine wpd_t0 9 rfl zz6 trivial (t_st1 Tryd.ti22 rfl rfl (SV.one zz3) (St.c_lt hs.len zz27) _ zz40) (fun _ => skk rfl) (fun _ => ?_)
     refine wpd_done zz6 ?_
     refine ex_then <| wpc_seq <| wpc_region <| wpl_q (q_field Tryd.underlying35 rfl Tryd.ti4 rfl rfl _ rfl) rfl ?_
     refine wpl_t0 (t_st1 Tryd.ti4 rfl rfl rfl (St.c_lt (s := s) hs.len zz27) _ (St.s_u hs.len false)) (fun _ => ?_)
     refine wpl_q (q_field Tryd.underlying35 rfl Tryd.ti22 rfl rfl _ rfl) rfl ?_
     refine wpl_t0 (t_st1 Tryd.ti22 rfl rfl (SV.one zz3) (St.c_lt (s := ({ s with up := false } : St)) hs.len zz27) _ (St.s_p (s := ({ s with up := false } : St)) hs.len nl)) (fun _ => ?_)
     refine wpl_q (q_field Tryd.underlying35 rfl Tryd.ti26 rfl rfl _ rfl) rfl ?_
     refine wpl_t0 (t_st1 Tryd.ti26 rfl rfl (SV.one zz3) (St.c_lt (s := ({ s with up := false } : St)) hs.len zz27) _ (St.s_k (s := ({ s with up := false } : St)) hs.len nl)) (fun _ => ?_)
     refine wpl_nil <| ex_then <| wpc_seq <| wpc_region ?_
     refine wpl_q (q_ldN Tryd.underlying35 rfl Tryd.ti35 rfl (St.c_length (s := { s with up := false }) hs.len)) rfl ?_
     refine wpl_t0 (t_stA Tryd.ti35 rfl rfl (St.c_length zz37) (by first | exact St.c_one SV.nil SV.nil SV.nil | exact St.c_one p32 SV.nil SV.nil) zz23) (fun _ => ?_)
     refine wpl_q (q_pure rfl) rfl <| wpl_nil <| ex_then <| wpc_ret ?_
     refine retv2 (.inl rfl) rfl (rv_agg Tryd.underlying35 rfl Tryd.ti35 rfl (fun w h => h.atB) (St.c_length zz48)) (rv_tmp rfl) ?_
     exact fun w h => ⟨(b32, nl, nl), by rw [hch]; exact ⟨p32, SV.nil, SV.nil⟩, by rw [hch]; rfl, h.below, by rw [hch]; exact (nilTwo (h.sub SubC.h .nil)).made (Sub.refl _) .nil⟩
end Go.Proofs.YtoaeklbenmlooaaDoor
namespace Go.Proofs.YtoaeklbenmlooaaDoor
open Go Go.PL Go.RowKit
def openF (s : St) : St × Int := if ¬ upF s false = 0 then (St.z, upF s false) else ({ s with up := true, dk := s.dk.take (scanR s.dk).2, ks := (scanR s.dk).1 }, 0)
def openP (s : St) (pv : Value) : Value := if ¬ upF s false = 0 then nl else pv
theorem op1 {s : St} (h : ¬ upF s false = 0) : openF s = (St.z, upF s false) := if_pos h
theorem op1p {s : St} {pv : Value} (h : ¬ upF s false = 0) : openP s pv = nl := if_pos h
theorem op2 {s : St} (h : upF s false = 0) : openF s = ({ s with up := true, dk := s.dk.take (scanR s.dk).2, ks := (scanR s.dk).1 }, 0) := if_neg (fun hh => hh h)
theorem op2p {s : St} {pv : Value} (h : upF s false = 0) : openP s pv = pv := if_neg (fun hh => hh h)
theorem scanR_leN (bs : List UInt8) : (scanR bs).2 ≤ bs.length := by
  have h1 := scanF_leL (recs bs) []
  have h2 := recs_leL bs.length bs (Nat.le_refl _)
  have h3 : (scanR bs).2 = (scanF [] (recs bs)).2 := rfl
  omega
theorem zRows2 {w0 w : World} {Ln : List Nat} {M : List Ent} {S : List Fact} (h : Mem w0 Ln M S w) : Mem w0 Ln [dRow nl St.z.dk, kRow nl St.z.ks] [] w := ((h.sub (subNil _) (subNil _)).nilRow 40 6).nilRow 5 1
theorem nx_ok {s : St} (h : upF s true = 0) {j : Nat} (hj : j < s.ks.length) : 0 ≤ (s.ks.getD j KE.z).nx ∧ (s.ks.getD j KE.z).nx ≤ 16 := by
  obtain ⟨h1, h2⟩ := upF_ok h
  have hu := h1.2.2.2.2 h2
  have h3 := hu.2.2.2 j hj
  simp only [okK, Bool.and_eq_true, decide_eq_true_eq] at h3
  have h4 : durF (scanR s.dk).1 j ≤ 16 := by
    unfold durF
    split
    · rename_i hd; exact ((scanR_ok s.dk).get hd).2.2.2
    · decide
  exact ⟨h3.1.2, zz16⟩
def takeF (s : St) (id : UInt32) : Int × St × Int :=
  if ¬ (thereF s id).2 = 0 then (0, St.z, (thereF s id).2) else if (kAt s id).nx = ((2 ^ (kAt s id).ht.toNat : Nat) : Int) then (0, St.z, 36) else if (kAt s id).nx = (kAt s id).du then (0, St.z, 32)
  else ((kAt s id).nx, putK s id { kAt s id with nx := (((kAt s id).nx.toNat + 1 : Nat) : Int) }, 0)
theorem tk1 {s : St} {id : UInt32} (h : ¬ (thereF s id).2 = 0) : takeF s id = (0, St.z, (thereF s id).2) := if_pos h
theorem tk2 {s : St} {id : UInt32} {j : Nat} (h : (thereF s id).2 = 0) (hj : placeF s.ks id = ((j : Nat) : Int)) (h2 : (s.ks.getD j KE.z).nx = ((2 ^ (s.ks.getD j KE.z).ht.toNat : Nat) : Int)) : takeF s id = (0, St.z, 36) := by
  unfold takeF; rw [if_neg (fun hh => hh h), kAt_j hj, if_pos h2]
theorem tk3 {s : St} {id : UInt32} {j : Nat} (h : (thereF s id).2 = 0) (hj : placeF s.ks id = ((j : Nat) : Int)) (h2 : ¬ (s.ks.getD j KE.z).nx = ((2 ^ (s.ks.getD j KE.z).ht.toNat : Nat) : Int)) (h3 : (s.ks.getD j KE.z).nx = (s.ks.getD j KE.z).du) : takeF s id = (0, St.z, 32) := by
  unfold takeF; rw [if_neg (fun hh => hh h), kAt_j hj, if_neg h2, if_pos h3]
theorem tk4 {s : St} {id : UInt32} {j : Nat} (h : (thereF s id).2 = 0) (hj : placeF s.ks id = ((j : Nat) : Int)) (h2 : ¬ (s.ks.getD j KE.z).nx = ((2 ^ (s.ks.getD j KE.z).ht.toNat : Nat) : Int)) (h3 : ¬ (s.ks.getD j KE.z).nx = (s.ks.getD j KE.z).du) :
    takeF s id = ((s.ks.getD j KE.z).nx, setK s j { s.ks.getD j KE.z with nx := (((s.ks.getD j KE.z).nx.toNat + 1 : Nat) : Int) }, 0) := by
  unfold takeF; rw [if_neg (fun hh => hh h), kAt_j hj, if_neg h2, if_neg h3, putK_j hj]; rfl
theorem kRow_setR {w0 w : World} {Ln : List Nat} {a b : Ent} {v : Value} {ks : List KE} {j : Nat} {k : KE} (h : Mem w0 Ln [a, b, .row v ks.length 40 6 (kcs (ks.set j k))] [] w) : Mem w0 Ln [a, b, kRow v (ks.set j k)] [] w := by rw [kRow_set]; exact h
theorem open_ (s : St) (dv pv kv : Value) (w : World) (hs : StS w.cell? s dv pv kv)  :
    Calls Tryd.prog 78 [.agg (s.c dv pv kv).toArray].toArray w (GivesP w (fun x : Value × Value => SV x.1 (openF s).1.dk.length ∧ SV x.2 (openF s).1.ks.length) (fun x => .tuple #[.agg ((openF s).1.c x.1 (openP s pv) x.2).toArray, .int .i64 (openF s).2]) (fun x => [dRow x.1 (openF s).1.dk, kRow x.2 (openF s).1.ks]) (fun _ => [])) := by
  have sdv := hs.d.sv
  have spv := hs.p.sv
  have skv := hs.k.sv
  have l1hs := hs.ld
  have l2hs := hs.lp
  have l3hs := hs.lk
  refine enter (m := 29) (R := Mem w [] [] []) Tryd.func78 rfl rfl (Nat.le_of_ble_eq_true rfl) (Mem.start w) ?_
  refine wpc_seq <| wpc_region ?_
  refine wpl_t (t_box rfl (s.c dv pv kv) rfl) rfl (fun b1 => ?_)
  refine wpl_t (t_alloc Tryd.ti35 (St.z.c nl nl nl) rfl) rfl (fun b2 => ?_)
  refine wpl_q (q_pure rfl) rfl <| wpl_nil <| ex_then <| wpc_seq <| wpc_seq <| wpc_region <| wpl_q (q_ldN Tryd.underlying35 rfl Tryd.ti35 rfl (St.c_length hs.len)) rfl ?_
  refine wpl_t (t_pur Tryd.hb40 rfl fun w h => up_ _ _ _ _ _ w zz25) rfl (fun b8 => ?_)
  refine wpl_q (q_pure rfl) rfl <| wpl_nil <| ex_then <| wpc_seq <| wpc_region <| wpl_q (q_pure rfl) rfl <| wpl_q (q_pure rfl) rfl <| wpl_nil <| ex_then ?_
  refine wpc_cond rfl (fun hc10 => ?_) (fun hc10 => ?_)
  ·
   simp only [bne_iff_ne, ne_eq] at hc10
   refine wpc_seq <| wpc_region ?_
   refine wpl_q (q_build (cs := St.z.c nl nl nl) rfl built_st0) rfl ?_
   refine wpl_q (q_pure rfl) rfl ?_
   refine wpl_t0 (t_stA Tryd.ti35 rfl rfl (St.c_length zz37) zz35 zz23) (fun _ => ?_)
   refine wpl_q (q_pure rfl) rfl <| wpl_nil <| ex_then <| wpc_ret ?_
   refine ex_then_ret ?_
   refine retv2 (.inl rfl) rfl (rv_agg Tryd.underlying35 rfl Tryd.ti35 rfl (fun w h => h.atB) (St.c_length zz48)) (rv_tmp rfl) ?_
   exact fun w h => ⟨(nl, nl), by rw [op1 hc10]; exact ⟨SV.nil, SV.nil⟩, by rw [op1 hc10, op1p hc10]; first | done | rfl, h.below, by rw [op1 hc10]; exact (zRows2 h).made (Sub.refl _) .nil⟩
  ·
   simp only [bne_eq_false_iff_eq] at hc10
   have ho := op2 hc10
   have hop := op2p (pv := pv) hc10
   have hnl := scanR_leN s.dk
   have htl := tk_le s.dk (scanR s.dk).2
   refine wpc_skip <| ex_then <| wpc_seq <| wpc_region <| wpl_q (q_field Tryd.underlying35 rfl Tryd.ti22 rfl rfl _ rfl) rfl ?_
   refine wpl_q (q_ld Tryd.underlying22 rfl rfl zz13) rfl ?_
   refine wpl_tp (t_callP1 Tryd.hb5 rfl fun w h => scan _ _ w zz15) rfl (fun b16 p16 => ?_)
   refine wpl_q (q_pure rfl) rfl <| wpl_q (q_pure rfl) rfl <| wpl_q (q_pure rfl) rfl <| wpl_q (q_pure rfl) rfl <| wpl_q (q_pure rfl) rfl <| wpl_nil <| ex_then <| wpc_seq <| wpc_region <| wpl_q (q_field Tryd.underlying35 rfl Tryd.ti22 rfl rfl _ rfl) rfl ?_
   refine wpl_q (q_ld Tryd.underlying22 rfl rfl zz13) rfl ?_
   refine wpl_q (q_pure rfl) rfl ?_
   refine wpl_q (q_slWh Tryd.underlying22 Tryd.ti5 rfl rfl zz3 zz16) rfl ?_
   refine wpl_tp (t_callP1 Tryd.hb43 rfl fun w h => cloneB (slv dv 0 (scanR s.dk).2 1) (s.dk.take (scanR s.dk).2) w (show Seen w.cell? (slv dv 0 (scanR s.dk).2 1) (s.dk.take (scanR s.dk).2).length 1 (v8s (s.dk.take (scanR s.dk).2)) from Seen.re8 (Seen.slv8 (h.seen_old hs.d) 0 (scanR s.dk).2 zz16 hnl)) zz16) rfl (fun b23 p23 => ?_)
   refine wpl_q (q_pure rfl) rfl <| wpl_q (q_field Tryd.underlying35 rfl Tryd.ti4 rfl rfl _ rfl) rfl ?_
   refine wpl_t0 (t_st1 Tryd.ti4 rfl rfl rfl (St.c_lt (s := s) hs.len zz27) _ (St.s_u hs.len true)) (fun _ => ?_)
   refine wpl_q (q_field Tryd.underlying35 rfl Tryd.ti22 rfl rfl _ rfl) rfl ?_
   refine wpl_t0 (t_st1 Tryd.ti22 rfl rfl (SV.one zz3) (St.c_lt (s := ({ s with up := true } : St)) hs.len zz27) _ (St.s_d (s := ({ s with up := true } : St)) hs.len b23)) (fun _ => ?_)
   refine wpl_q (q_field Tryd.underlying35 rfl Tryd.ti26 rfl rfl _ rfl) rfl ?_
   refine wpl_t0 (t_st1 Tryd.ti26 rfl rfl (SV.one zz3) (St.c_lt (s := ({ s with up := true } : St)) hs.len zz27) _ (St.s_k (s := ({ s with up := true } : St)) hs.len b16)) (fun _ => ?_)
   refine wpl_nil <| ex_then <| wpc_seq <| wpc_region ?_
   refine wpl_q (q_ldN Tryd.underlying35 rfl Tryd.ti35 rfl (St.c_length (s := ({ s with up := true } : St)) hs.len)) rfl ?_
   refine wpl_t0 (t_stA Tryd.ti35 rfl rfl (St.c_length zz37) (by first | exact St.c_one SV.nil SV.nil SV.nil | exact St.c_one p23 spv p16) zz23) (fun _ => ?_)
   refine wpl_q (q_pure rfl) rfl <| wpl_nil <| ex_then <| wpc_ret ?_
   refine retv2 (.inl rfl) rfl (rv_agg Tryd.underlying35 rfl Tryd.ti35 rfl (fun w h => h.atB) (St.c_length zz48)) (rv_tmp rfl) ?_
   exact fun w h => ⟨(b23, b16), by rw [ho]; exact ⟨p23, p16⟩, by rw [ho, hop]; rfl, h.below, by rw [ho]; exact (show Mem _ _ [dRow b23 (s.dk.take (scanR s.dk).2), kRow b16 (scanR s.dk).1] [] _ from h.sub SubC.h .nil).made (Sub.refl _) .nil⟩
theorem take_ (s : St) (dv pv kv : Value) (id : UInt32) (w : World) (hs : StS w.cell? s dv pv kv)  :
    Calls Tryd.prog 13 [.agg (s.c dv pv kv).toArray, .int .u32 id.toNat].toArray w (GivesP w (fun x : V3 => (takeF s id).2.1.sv x) (fun x => .tuple #[.int .i64 (takeF s id).1, stV (takeF s id).2.1 x, .int .i64 (takeF s id).2.2]) (fun x => [dRow x.1 (takeF s id).2.1.dk, dRow x.2.1 (takeF s id).2.1.pd, kRow x.2.2 (takeF s id).2.1.ks]) (fun _ => [])) := by
  have sdv := hs.d.sv
  have spv := hs.p.sv
  have skv := hs.k.sv
  have l1hs := hs.ld
  have l2hs := hs.lp
  have l3hs := hs.lk
  refine enter (m := 57) (R := Mem w [] [] []) Tryd.func13 rfl rfl (Nat.le_of_ble_eq_true rfl) (Mem.start w) ?_
  refine wpc_seq <| wpc_region ?_
  refine wpl_t (t_box rfl (s.c dv pv kv) rfl) rfl (fun b2 => ?_)
  refine wpl_q (q_pure rfl) rfl ?_
  first | refine wpd_re 4 rfl (congrArg (Value.int .i64) (show (((s.ks.getD j KE.z).nx.toNat + 1 - 1 : Nat) : Int) = (s.ks.getD j KE.z).nx from hN.symm)) ?_ | skip
  refine wpl_t (t_alloc Tryd.ti35 (St.z.c nl nl nl) rfl) rfl (fun b5 => ?_)
  refine wpl_q (q_pure rfl) rfl <| wpl_nil <| ex_then <| wpc_seq <| wpc_region <| wpl_q (q_ldN Tryd.underlying35 rfl Tryd.ti35 rfl (St.c_length hs.len)) rfl <| wpl_q (q_pure rfl) rfl ?_
  refine wpl_t (t_pur Tryd.hb27 rfl fun w h => there_ _ _ _ _ _ w zz25) rfl (fun b12 => ?_)
  refine wpl_q (q_pure rfl) rfl <| wpl_q (q_pure rfl) rfl <| wpl_q (q_pure rfl) rfl <| wpl_q (q_pure rfl) rfl <| wpl_q (q_pure rfl) rfl <| wpl_nil <| ex_then <| wpc_seq <| wpc_seq <| wpc_region <| wpl_q (q_pure rfl) rfl <| wpl_q (q_pure rfl) rfl ?_
  refine wpl_nil <| ex_then ?_
  refine wpc_cond rfl (fun hc16 => ?_) (fun hc16 => ?_)
  ·
   simp only [bne_iff_ne, ne_eq] at hc16
   refine wpc_seq <| wpc_region ?_
   refine wpl_q (q_build (cs := St.z.c nl nl nl) rfl built_st0) rfl ?_
   refine wpl_q (q_pure rfl) rfl <| wpl_q (q_pure rfl) rfl ?_
   first | refine wpd_re 4 rfl (congrArg (Value.int .i64) (show (((s.ks.getD j KE.z).nx.toNat + 1 - 1 : Nat) : Int) = (s.ks.getD j KE.z).nx from hN.symm)) ?_ | skip
   refine wpl_t0 (t_stA Tryd.ti35 rfl rfl (St.c_length zz37) zz35 zz23) (fun _ => ?_)
   refine wpl_q (q_pure rfl) rfl <| wpl_nil <| ex_then <| wpc_ret ?_
   refine ex_then_ret ?_
   refine retv3 (.inl rfl) rfl (rv_tmp rfl) (rv_agg Tryd.underlying35 rfl Tryd.ti35 rfl (fun w h => h.atB) (St.c_length zz48)) (rv_tmp rfl) ?_
   exact fun w h => ⟨(nl, nl, nl), by rw [tk1 hc16]; exact zSV, by rw [tk1 hc16]; first | done | rfl, h.below, by rw [tk1 hc16]; exact (zRows h).made SubC.h .nil⟩
  ·
   simp only [bne_eq_false_iff_eq] at hc16
   obtain ⟨hup, j, hjl, hej, hth⟩ := there_ok hc16
   obtain ⟨k0, k1, k2, k3⟩ := key_ok hup hjl
   have hk8 := keys_le hup
   have hA : (s.ks.getD j KE.z).ak = (((s.ks.getD j KE.z).ak.toNat : Nat) : Int) := (Int.toNat_of_nonneg k2).symm
   have hH : (s.ks.getD j KE.z).ht = (((s.ks.getD j KE.z).ht.toNat : Nat) : Int) := (Int.toNat_of_nonneg k0).symm
   obtain ⟨n0, n1⟩ := nx_ok hup hjl
   have hN : (s.ks.getD j KE.z).nx = (((s.ks.getD j KE.z).nx.toNat : Nat) : Int) := (Int.toNat_of_nonneg n0).symm
   have hb1 := (upF_ok hup).1.1
   have hb2 := (upF_ok hup).1.2.1
   have hB : s.bt = ((s.bt.toNat : Nat) : Int) := (Int.toNat_of_nonneg zz16).symm
   have hl4 : (s.ks.getD j KE.z).ht.toNat ≤ 4 := by omega
   have hpw := pow_le hl4
   have hkl := kcs_length s.ks
   refine wpc_re 7 rfl (congrArg (Value.int .i64) (show (thereF s id).1 = ((j : Nat) : Int) by rw [hth])) ?_
   refine wpc_skip <| ex_then <| wpc_seq <| wpc_region <| wpl_q (q_ldN Tryd.underlying35 rfl Tryd.ti35 rfl (St.c_length hs.len)) rfl ?_
   refine wpl_tp (t_callP3 Tryd.hb28 rfl fun w h => twin s dv pv kv w zz25) rfl (fun b20 p20 => ?_)
   have q3 : SV b20.2.2 s.ks.length := p20.2.2
   refine wpl_t0 (t_stA Tryd.ti35 rfl rfl (St.c_length zz37) zz53 zz23) (fun _ => ?_)
   refine wpl_nil <| ex_then <| wpc_seq <| wpc_region <| wpl_q (q_field Tryd.underlying35 rfl Tryd.ti26 rfl rfl _ rfl) rfl ?_
   refine wpl_q (q_ld Tryd.underlying26 rfl rfl zz13) rfl ?_
   refine wpl_q (q_pure rfl) rfl ?_
   refine wpl_q (q_idxW Tryd.underlying26 Tryd.ti40 rfl rfl zz3 zz1) rfl ?_
   refine wpl_q (q_pure rfl) rfl <| wpl_nil <| ex_then <| wpc_seq <| wpc_seq <| wpc_region <| wpl_q (q_pure rfl) rfl <| wpl_q (q_pure rfl) rfl <| wpl_q (q_fieldPo 2 Tryd.underlying40 rfl Tryd.ti3 rfl rfl rfl) rfl ?_
   refine wpl_q (q_ldWF Tryd.underlying3 rfl rfl (fun w h => (show Seen w.cell? b20.2.2 s.ks.length 6 (kcs s.ks) from h.seenV)) (kcs_get hjl rfl)) rfl ?_
   refine wpl_nil <| ex_then <| wpc_block <| wpc_seq <| wpc_region <| wpl_q (q_pure rfl) rfl <| wpl_q (q_pure rfl) rfl <| wpl_q (q_fieldPo 1 Tryd.underlying40 rfl Tryd.ti3 rfl rfl rfl) rfl ?_
   refine wpl_q (q_ldWF Tryd.underlying3 rfl rfl (fun w h => (show Seen w.cell? b20.2.2 s.ks.length 6 (kcs s.ks) from h.seenV)) (kcs_get hjl rfl)) rfl ?_
   refine wpl_re 33 rfl (congrArg (Value.int .i64) hH) ?_
   refine wpl_q (q_shlN (a := 1) rfl rfl zz32 zz16) rfl ?_
   refine wpl_q (q_pure rfl) rfl <| wpl_q (q_pure rfl) rfl <| wpl_nil <| ex_then ?_
   refine wpc_cond rfl (fun hc29 => ?_) (fun hc29 => ?_)
   ·
    simp only [beq_iff_eq] at hc29
    rw [Nat.one_mul] at hc29
    refine wpc_seq <| wpc_region ?_
    refine wpl_q (q_build (cs := St.z.c nl nl nl) rfl built_st0) rfl ?_
    refine wpl_q (q_pure rfl) rfl ?_
    first | refine wpd_re 4 rfl (congrArg (Value.int .i64) (show (((s.ks.getD j KE.z).nx.toNat + 1 - 1 : Nat) : Int) = (s.ks.getD j KE.z).nx from hN.symm)) ?_ | skip
    refine wpl_t0 (t_stA Tryd.ti35 rfl rfl (St.c_length zz37) zz35 zz23) (fun _ => ?_)
    refine wpl_q (q_pure rfl) rfl <| wpl_nil <| ex_then <| wpc_ret ?_
    refine ex_block_ret ?_
    refine ex_then_ret ?_
    refine retv3 (.inl rfl) rfl (rv_tmp rfl) (rv_agg Tryd.underlying35 rfl Tryd.ti35 rfl (fun w h => h.atB) (St.c_length zz48)) (rv_tmp rfl) ?_
    exact fun w h => ⟨(nl, nl, nl), by rw [tk2 hc16 hej hc29]; exact zSV, by rw [tk2 hc16 hej hc29]; first | done | rfl, h.below, by rw [tk2 hc16 hej hc29]; exact (zRows h).made SubC.h .nil⟩
   ·
    simp only [beq_eq_false_iff_ne, ne_eq] at hc29
    rw [Nat.one_mul] at hc29
    refine wpc_seq <| wpc_region <| wpl_q (q_pure rfl) rfl <| wpl_q (q_pure rfl) rfl <| wpl_q (q_fieldPo 3 Tryd.underlying40 rfl Tryd.ti3 rfl rfl rfl) rfl ?_
    refine wpl_q (q_ldWF Tryd.underlying3 rfl rfl (fun w h => (show Seen w.cell? b20.2.2 s.ks.length 6 (kcs s.ks) from h.seenV)) (kcs_get hjl rfl)) rfl ?_
    refine wpl_q (q_pure rfl) rfl <| wpl_q (q_pure rfl) rfl <| wpl_nil <| ex_then ?_
    refine wpc_cond rfl (fun hc37 => ?_) (fun hc37 => ?_)
    ·
     simp only [beq_iff_eq] at hc37
     refine wpc_seq <| wpc_region ?_
     refine wpl_q (q_build (cs := St.z.c nl nl nl) rfl built_st0) rfl ?_
     refine wpl_q (q_pure rfl) rfl ?_
     first | refine wpd_re 4 rfl (congrArg (Value.int .i64) (show (((s.ks.getD j KE.z).nx.toNat + 1 - 1 : Nat) : Int) = (s.ks.getD j KE.z).nx from hN.symm)) ?_ | skip
     refine wpl_t0 (t_stA Tryd.ti35 rfl rfl (St.c_length zz37) zz35 zz23) (fun _ => ?_)
     refine wpl_q (q_pure rfl) rfl <| wpl_nil <| ex_then <| wpc_ret ?_
     refine ex_block_ret ?_
     refine ex_then_ret ?_
     refine retv3 (.inl rfl) rfl (rv_tmp rfl) (rv_agg Tryd.underlying35 rfl Tryd.ti35 rfl (fun w h => h.atB) (St.c_length zz48)) (rv_tmp rfl) ?_
     exact fun w h => ⟨(nl, nl, nl), by rw [tk3 hc16 hej hc29 hc37]; exact zSV, by rw [tk3 hc16 hej hc29 hc37]; first | done | rfl, h.below, by rw [tk3 hc16 hej hc29 hc37]; exact (zRows h).made SubC.h .nil⟩
    ·
     simp only [beq_eq_false_iff_ne, ne_eq] at hc37
     have htk := tk4 hc16 hej hc29 hc37
     refine wpc_skip <| ex_block <| ex_then <| wpc_seq <| wpc_region <| wpl_q (q_pure rfl) rfl <| wpl_q (q_pure rfl) rfl <| wpl_q (q_fieldPo 2 Tryd.underlying40 rfl Tryd.ti3 rfl rfl rfl) rfl ?_
     refine wpl_q (q_ldWF Tryd.underlying3 rfl rfl (fun w h => (show Seen w.cell? b20.2.2 s.ks.length 6 (kcs s.ks) from h.seenV)) (kcs_get hjl rfl)) rfl ?_
     refine wpl_re 47 rfl (congrArg (Value.int .i64) hN) ?_
     refine wpl_q (q_addN (b := 1) rfl rfl zz1) rfl ?_
     refine wpl_q (q_pure rfl) rfl <| wpl_q (q_fieldPo 2 Tryd.underlying40 rfl Tryd.ti3 rfl rfl rfl) rfl ?_
     refine wpl_t0 (t_stWF Tryd.ti3 rfl rfl rfl zz16 (kcs (s.ks.set j { (s.ks.getD j KE.z) with nx := ((((s.ks.getD j KE.z).nx.toNat + 1 : Nat)) : Int) })) (kcs_set _ hjl rfl zz27)) (fun _ => ?_)
     refine wpl_nil <| ex_then <| wpc_seq ?_
     refine wpc_draw 7 zz6 (fun _ h => h.drew) ?_
     refine wpd_p 0 rfl zz6 trivial (q_pure rfl) rfl sk0 ?_
     refine wpd_p 1 rfl zz6 trivial (q_pure rfl) rfl sk0 ?_
     refine wpd_p 2 rfl zz6 trivial (q_fieldPo 2 Tryd.underlying40 rfl Tryd.ti3 rfl rfl rfl) rfl sk0 ?_
     refine wpd_q 3 rfl zz6 trivial (q_ldWF Tryd.underlying3 rfl rfl (fun w h => (show Seen w.cell? b20.2.2 s.ks.length 6 (kcs (s.ks.set j { (s.ks.getD j KE.z) with nx := ((((s.ks.getD j KE.z).nx.toNat + 1 : Nat)) : Int) })) from h.seenV)) (set_get (v := .int .i64 (((s.ks.getD j KE.z).nx.toNat + 1 : Nat) : Int)) hjl rfl)) rfl (fun _ h => h) ?_
     refine wpd_p 4 rfl zz6 trivial (q_subN (b := 1) rfl rfl zz16 zz1) rfl sk0 ?_
     refine wpd_q 5 rfl zz6 trivial (q_ldN Tryd.underlying35 rfl Tryd.ti35 rfl (St.c_length hs.len)) rfl (fun _ h => h) ?_
     refine wpd_p 6 rfl zz6 trivial (q_pure rfl) rfl sk0 ?_
     first | refine wpd_re 4 rfl (congrArg (Value.int .i64) (show (((s.ks.getD j KE.z).nx.toNat + 1 - 1 : Nat) : Int) = (s.ks.getD j KE.z).nx from hN.symm)) ?_ | skip
     refine wpd_t0 7 rfl zz6 trivial (t_stA Tryd.ti35 rfl rfl (St.c_length zz37) zz53 zz23) (fun _ => skk rfl) (fun _ => ?_)
     refine wpd_p 8 rfl zz6 trivial (q_pure rfl) rfl (skk rfl) ?_
     refine wpd_done zz6 ?_
     refine ex_then <| wpc_ret ?_
     refine retv3 (.inl rfl) rfl (rv_tmp rfl) (rv_agg Tryd.underlying35 rfl Tryd.ti35 rfl (fun w h => h.atB) (St.c_length zz48)) (rv_tmp rfl) ?_
     exact fun w h => ⟨b20, by rw [htk]; exact ⟨p20.1, p20.2.1, by show SV b20.2.2 (s.ks.set j _).length; rw [List.length_set]; exact q3⟩, by rw [htk]; rfl, h.below, by rw [htk]; exact (kRow_setR (show Mem _ _ [dRow b20.1 s.dk, dRow b20.2.1 s.pd, .row b20.2.2 s.ks.length 40 6 (kcs (s.ks.set j { (s.ks.getD j KE.z) with nx := ((((s.ks.getD j KE.z).nx.toNat + 1 : Nat)) : Int) }))] [] _ from h.sub SubC.h .nil)).made (Sub.refl _) .nil⟩
end Go.Proofs.YtoaeklbenmlooaaDoor
namespace Go.Proofs.YtoaeklbenmlooaaDoor
open Go Go.PL Go.RowKit
theorem syncF_len {s : St} (h : s.ms.length = 32) : (syncF s).1.ms.length = 32 := by
  unfold syncF; split
  · rfl
  · exact h
theorem crashF_len {s : St} {k : Int} (h : s.ms.length = 32) : (crashF s k).1.ms.length = 32 := by
  unfold crashF; split
  · rfl
  · split
    · rfl
    · exact h
theorem openF_len {s : St} (h : s.ms.length = 32) : (openF s).1.ms.length = 32 := by
  unfold openF; split
  · rfl
  · exact h
theorem takeF_len {s : St} {id : UInt32} (h : s.ms.length = 32) : (takeF s id).2.1.ms.length = 32 := by
  unfold takeF; split
  · rfl
  · split
    · rfl
    · split
      · rfl
      · exact h
theorem openP_sv {s : St} {pv : Value} (h : SV pv s.pd.length) : SV (openP s pv) (openF s).1.pd.length := by
  by_cases hu : upF s false = 0
  · rw [op2 hu, op2p hu]; exact h
  · rw [op1 hu, op1p hu]; exact SV.nil
end Go.Proofs.YtoaeklbenmlooaaDoor
