/- The reference creates keys. -/
import Derived.Test.YtoaeklbenmlooaaKQ
namespace Go.Proofs.Ytoaeklbenmlooaa
set_option linter.unusedSimpArgs false
set_option linter.unusedVariables false
open Go Go.PL Go.RowKit

section
variable {P : Program} {n : Cx} {L : Slots} {Q : Exit → Act → World → Prop} {w0 w : World} {Ln : List Nat} {M : List Ent} {S : List Fact}
/-- The same, where what is owned stands in another order. -/
theorem t_callFp {k : FuncId} {args : Array Operand} {at_ : Array TypeId} {vs : List Value} {ι : Type} {p : ι → Prop} {V : ι → Value} {N : ι → List Ent} (M' M1 X : List Ent) (Z : ι → List Ent) (hM : Sub M' M) (hP : M'.Perm (M1 ++ X)) (hZ : ∀ x, N x ++ X = Z x) (hb : HasBody P k) (hv : evs L args.toList = some vs)
    (hc : ∀ w, Mem w0 Ln M S w → Mem w (nums M1) M1 [] w → Calls P k vs.toArray w (GivesA w M1 p V N)) :
    TOpP P Q n (Mem w0 Ln M S) L (.call { callee := .value (.func k), args := args, argTypes := at_ }) ι p V (fun x => Mem w0 Ln (Z x) S) := by
  obtain rfl : (fun x => N x ++ X) = Z := funext hZ
  have h : TOp P Q n (Mem w0 Ln M S) L (.call { callee := .value (.func k), args := args, argTypes := at_ }) { x : ι // p x } (fun x => V x.1) (fun x => Mem w0 Ln (N x.1 ++ X) S) :=
    t_callG (cap := #[]) rfl hb hv fun w hm0 => by
      have hm := (hm0.sub hM (Sub.refl _)).perm hP
      simp only [Array.append_empty]
      refine (hc w hm0 (Mem.startL w (fun e he => hm.own e (List.mem_append_left _ he)) (List.pairwise_append.1 hm.apart).1)).mono ?_
      rintro en w' ⟨x, hp, rfl, h2⟩
      exact ⟨⟨x, hp⟩, rfl, ((hm.perm List.perm_append_comm).framedS h2).perm List.perm_append_comm⟩
  exact h.rep fun x w h => ⟨x.1, x.2, rfl, h⟩
theorem perm1 {e a b c d : Ent} {X : List Ent} : (e :: a :: b :: c :: d :: X).Perm ([e, b, c, d] ++ (a :: X)) := List.Perm.cons e (List.perm_middle (l₁ := [b, c, d])).symm
end
theorem keys_le {s : St} (h : upF s true = 0) : s.ks.length ≤ 8 := by
  obtain ⟨h1, h2⟩ := upF_ok h
  have hu := h1.2.2.2.2 h2
  rw [← hu.2.2.1]
  exact (scanR_ok _).1
theorem recN_of {k : UInt8} {h v : Nat} (hh : h ≤ 255) (hv : v ≤ 65535) (id : UInt32) : recN k h v id = recB ⟨k, of8 ((h : Nat) : Int), of16 ((v : Nat) : Int), id⟩ := by
  rw [← recN_eq]
  have e1 : (of8 ((h : Nat) : Int)).toNat = h := by simp only [of8, UInt8.toNat_ofNat']; omega
  have e2 : (of16 ((v : Nat) : Int)).toNat = v := by simp only [of16, UInt16.toNat_ofNat']; omega
  dsimp only
  rw [e1, e2]
theorem rec_1 {n : Nat} (h : n ≤ 255) (id : UInt32) : recN 1 n 0 id = recB ⟨1, of8 ((n : Nat) : Int), 0, id⟩ := recN_of h (by decide) id
theorem recRow (v : Value) (bs : List UInt8) (r : Rec) (h : bs = recB r) : dRow v (recB r) = .row v 10 5 1 (v8s bs) := by rw [dRow, ← h, h, recB_length]

set_option maxRecDepth 100000 in
theorem refCreate (s : St) (dv pv kv : Value) (id : UInt32) (ht : Int) (w : World) (hs : StS w.cell? s dv pv kv)  :
    Calls Try.prog 22 [.agg (s.c dv pv kv).toArray, .int .u32 id.toNat, .int .i64 ht].toArray w (GivesP w (fun x : V3 => (createF s id ht).1.sv x) (fun x => .tuple #[stV (createF s id ht).1 x, .int .i64 (createF s id ht).2]) (fun x => [dRow x.1 (createF s id ht).1.dk, dRow x.2.1 (createF s id ht).1.pd, kRow x.2.2 (createF s id ht).1.ks]) (fun _ => [])) := by
  have sdv := hs.d.sv
  have spv := hs.p.sv
  have skv := hs.k.sv
  have l1hs := hs.ld
  have l2hs := hs.lp
  have l3hs := hs.lk
  refine enter (m := 50) (R := Mem w [] [] []) Try.func22 rfl rfl (Nat.le_of_ble_eq_true rfl) (Mem.start w) ?_
  refine wpc_seq ?_
  refine wpc_region ?_
  refine wpl_t (t_box rfl (s.c dv pv kv) rfl) rfl (fun b3 => ?_)
  refine wpl_t (t_alloc Try.ti27 (St.z.c nl nl nl) rfl) rfl (fun b6 => ?_)
  refine wpl_q (q_pure rfl) rfl ?_
  refine wpl_nil ?_
  refine ex_then ?_
  refine wpc_seq ?_
  refine wpc_seq ?_
  refine wpc_region ?_
  refine wpl_q (q_ldN Try.underlying27 rfl Try.ti27 rfl (St.c_length hs.len)) rfl ?_
  refine wpl_t (t_pur Try.hb39 rfl fun w h => refUp _ _ _ _ _ w (by first | exact StS.old h hs | exact ⟨hs.len, h.seenV, h.seenV, h.seenV, by omega, by omega, by omega⟩)) rfl (fun b10 => ?_)
  refine wpl_q (q_pure rfl) rfl ?_
  refine wpl_nil ?_
  refine ex_then ?_
  refine wpc_cond rfl (fun hc11 => ?_) (fun hc11 => ?_)
  ·
   simp only [bne_iff_ne, ne_eq] at hc11
   refine wpc_seq ?_
   refine wpc_region ?_
   refine wpl_q (q_build (cs := St.z.c nl nl nl) rfl built_st0) rfl ?_
   refine wpl_q (q_ldN Try.underlying27 rfl Try.ti27 rfl (St.c_length hs.len)) rfl ?_
   refine wpl_t (t_pur Try.hb39 rfl fun w h => refUp _ _ _ _ _ w (by first | exact StS.old h hs | exact ⟨hs.len, h.seenV, h.seenV, h.seenV, by omega, by omega, by omega⟩)) rfl (fun b14 => ?_)
   refine wpl_t0 (t_stA Try.ti27 rfl rfl (St.c_length (by first | exact hs.len | rfl)) (by first | exact St.c_one SV.nil SV.nil SV.nil) (by first | exact St.c_length hs.len | exact St.c_length rfl)) (fun _ => ?_)
   refine wpl_q (q_pure rfl) rfl ?_
   refine wpl_nil ?_
   refine ex_then ?_
   refine wpc_ret ?_
   refine ex_then_ret ?_
   refine retv2 (.inl rfl) rfl (rv_agg Try.underlying27 rfl Try.ti27 rfl (fun w h => h.atB) (St.c_length (by first | rfl | exact writeF_len hs.len))) (rv_tmp rfl) ?_
   exact fun w h => ⟨(nl, nl, nl), by rw [cr1 hc11]; exact zSV, by rw [cr1 hc11]; first | done | rfl, h.below, by rw [cr1 hc11]; exact (zRows h).made SubC.h .nil⟩
  ·
   simp only [bne_eq_false_iff_eq] at hc11
   refine wpc_skip ?_
   refine ex_then ?_
   refine wpc_seq ?_
   refine wpc_seq ?_
   refine wpc_region ?_
   refine wpl_q (q_pure rfl) rfl ?_
   refine wpl_q (q_pure rfl) rfl ?_
   refine wpl_q (q_pure rfl) rfl ?_
   refine wpl_bool2 17 16 rfl rfl (fun hb17 => ?_) (fun hb17 => ?_)
   ·
    try simp only [decide_eq_true_eq] at hb17
    refine wpl_off rfl rfl rfl rfl ?_
    refine wpl_off rfl rfl rfl rfl ?_
    refine wpl_q (q_pure rfl) rfl ?_
    refine wpl_nil ?_
    refine ex_then ?_
    refine wpc_cond_t rfl ?_
    refine wpc_seq ?_
    refine wpc_region ?_
    refine wpl_q (q_build (cs := St.z.c nl nl nl) rfl built_st0) rfl ?_
    refine wpl_t0 (t_stA Try.ti27 rfl rfl (St.c_length (by first | exact hs.len | rfl)) (by first | exact St.c_one SV.nil SV.nil SV.nil) (by first | exact St.c_length hs.len | exact St.c_length rfl)) (fun _ => ?_)
    refine wpl_q (q_pure rfl) rfl ?_
    refine wpl_nil ?_
    refine ex_then ?_
    refine wpc_ret ?_
    refine ex_then_ret ?_
    refine retv2 (.inl rfl) rfl (rv_agg Try.underlying27 rfl Try.ti27 rfl (fun w h => h.atB) (St.c_length (by first | rfl | exact writeF_len hs.len))) (rv_tmp rfl) ?_
    exact fun w h => ⟨(nl, nl, nl), by rw [cr2 hc11 (.inl hb17)]; exact zSV, by rw [cr2 hc11 (.inl hb17)]; first | done | rfl, h.below, by rw [cr2 hc11 (.inl hb17)]; exact (zRows h).made SubC.h .nil⟩
   ·
    try simp only [decide_eq_false_iff_not] at hb17
    refine wpl_on rfl rfl ?_
    refine wpl_q (q_pure rfl) rfl ?_
    refine wpl_on rfl rfl ?_
    refine wpl_q (q_pure rfl) rfl ?_
    refine wpl_q (q_pure rfl) rfl ?_
    refine wpl_nil ?_
    refine ex_then ?_
    refine wpc_cond rfl (fun hc20 => ?_) (fun hc20 => ?_)
    ·
     try simp only [decide_eq_true_eq] at hc20
     refine wpc_seq ?_
     refine wpc_region ?_
     refine wpl_q (q_build (cs := St.z.c nl nl nl) rfl built_st0) rfl ?_
     refine wpl_t0 (t_stA Try.ti27 rfl rfl (St.c_length (by first | exact hs.len | rfl)) (by first | exact St.c_one SV.nil SV.nil SV.nil) (by first | exact St.c_length hs.len | exact St.c_length rfl)) (fun _ => ?_)
     refine wpl_q (q_pure rfl) rfl ?_
     refine wpl_nil ?_
     refine ex_then ?_
     refine wpc_ret ?_
     refine ex_then_ret ?_
     refine retv2 (.inl rfl) rfl (rv_agg Try.underlying27 rfl Try.ti27 rfl (fun w h => h.atB) (St.c_length (by first | rfl | exact writeF_len hs.len))) (rv_tmp rfl) ?_
     exact fun w h => ⟨(nl, nl, nl), by rw [cr2 hc11 (.inr hc20)]; exact zSV, by rw [cr2 hc11 (.inr hc20)]; first | done | rfl, h.below, by rw [cr2 hc11 (.inr hc20)]; exact (zRows h).made SubC.h .nil⟩
    ·
     simp only [decide_eq_false_iff_not] at hc20
     refine wpc_skip ?_
     refine ex_then ?_
     refine wpc_seq ?_
     refine wpc_seq ?_
     refine wpc_region ?_
     refine wpl_q (q_field Try.underlying27 rfl Try.ti25 rfl rfl _ rfl) rfl ?_
     refine wpl_q (q_ld Try.underlying25 rfl rfl (by first | exact St.c_b hs.len | exact St.c_u hs.len | exact St.c_d hs.len | exact St.c_p hs.len | exact St.c_k hs.len)) rfl ?_
     refine wpl_q (q_pure rfl) rfl ?_
     refine wpl_t (t_pur Try.hb52 rfl fun w h => refPlace _ _ _ w (by first | exact Seen.re8 h.seenV | exact h.seenV | exact h.seenA (by first | decide | (simp only [maxLen]; omega)) (by first | with_reducible rfl | (simp only [v8s_length, v32s_length, vis_length, vns_length, v64s_length, List.length_replicate]; first | done | with_reducible assumption | omega) | (rw [v8s_length]; (first | with_reducible assumption | with_reducible exact shortF_length _ | with_reducible exact stepF_length _ _ _ | with_reducible exact sumF_length _ | with_reducible exact climbF_length _ (by first | with_reducible assumption | with_reducible exact shortF_length _ | with_reducible exact beginF_length _ _ | with_reducible exact getD_mem_len (by assumption) (by omega)) _ _ _ | with_reducible exact beginF_length _ _ | with_reducible exact chainF_length _ _ _ | with_reducible exact recF_length _ _ | with_reducible exact publicF_length _ | with_reducible exact getD_mem_len (by assumption) (by omega) | (with_reducible exact List.length_replicate))) | rfl) | exact h.seen_old (by assumption) | exact h.seen_oldL (by assumption) (by assumption) | exact h.seen_old hs.d | exact h.seen_old hs.p | exact h.seen_old hs.k | exact Seen.re8 (h.seen_fact (by repeat (first | exact List.mem_cons_self .. | apply List.mem_cons_of_mem))) | exact h.seen_fact (by repeat (first | exact List.mem_cons_self .. | apply List.mem_cons_of_mem)))) rfl (fun b25 => ?_)
     refine wpl_q (q_pure rfl) rfl ?_
     refine wpl_nil ?_
     refine ex_then ?_
     refine wpc_cond rfl (fun hc26 => ?_) (fun hc26 => ?_)
     ·
      simp only [decide_eq_true_eq, ge_iff_le] at hc26
      refine wpc_seq ?_
      refine wpc_region ?_
      refine wpl_q (q_build (cs := St.z.c nl nl nl) rfl built_st0) rfl ?_
      refine wpl_t0 (t_stA Try.ti27 rfl rfl (St.c_length (by first | exact hs.len | rfl)) (by first | exact St.c_one SV.nil SV.nil SV.nil) (by first | exact St.c_length hs.len | exact St.c_length rfl)) (fun _ => ?_)
      refine wpl_q (q_pure rfl) rfl ?_
      refine wpl_nil ?_
      refine ex_then ?_
      refine wpc_ret ?_
      refine ex_then_ret ?_
      refine retv2 (.inl rfl) rfl (rv_agg Try.underlying27 rfl Try.ti27 rfl (fun w h => h.atB) (St.c_length (by first | rfl | exact writeF_len hs.len))) (rv_tmp rfl) ?_
      exact fun w h => ⟨(nl, nl, nl), by rw [cr3 hc11 (by omega) hc26]; exact zSV, by rw [cr3 hc11 (by omega) hc26]; first | done | rfl, h.below, by rw [cr3 hc11 (by omega) hc26]; exact (zRows h).made SubC.h .nil⟩
     ·
      simp only [decide_eq_false_iff_not, ge_iff_le] at hc26
      refine wpc_skip ?_
      refine ex_then ?_
      refine wpc_seq ?_
      refine wpc_seq ?_
      refine wpc_region ?_
      refine wpl_q (q_field Try.underlying27 rfl Try.ti25 rfl rfl _ rfl) rfl ?_
      refine wpl_q (q_ld Try.underlying25 rfl rfl (by first | exact St.c_b hs.len | exact St.c_u hs.len | exact St.c_d hs.len | exact St.c_p hs.len | exact St.c_k hs.len)) rfl ?_
      refine wpl_q (q_lenW Try.underlying25 rfl (by first | assumption | exact SV.nil | exact SV.slv (by assumption) (by omega) (by omega) | exact arv_sv (by first | decide | (simp only [maxLen]; omega)))) rfl ?_
      refine wpl_q (q_pure rfl) rfl ?_
      refine wpl_nil ?_
      refine ex_then ?_
      refine wpc_cond rfl (fun hc31 => ?_) (fun hc31 => ?_)
      ·
       simp only [beq_iff_eq] at hc31
       refine wpc_seq ?_
       refine wpc_region ?_
       refine wpl_q (q_build (cs := St.z.c nl nl nl) rfl built_st0) rfl ?_
       refine wpl_t0 (t_stA Try.ti27 rfl rfl (St.c_length (by first | exact hs.len | rfl)) (by first | exact St.c_one SV.nil SV.nil SV.nil) (by first | exact St.c_length hs.len | exact St.c_length rfl)) (fun _ => ?_)
       refine wpl_q (q_pure rfl) rfl ?_
       refine wpl_nil ?_
       refine ex_then ?_
       refine wpc_ret ?_
       refine ex_then_ret ?_
       refine retv2 (.inl rfl) rfl (rv_agg Try.underlying27 rfl Try.ti27 rfl (fun w h => h.atB) (St.c_length (by first | rfl | exact writeF_len hs.len))) (rv_tmp rfl) ?_
       exact fun w h => ⟨(nl, nl, nl), by rw [cr4 hc11 (by omega) hc26 (by omega)]; exact zSV, by rw [cr4 hc11 (by omega) hc26 (by omega)]; first | done | rfl, h.below, by rw [cr4 hc11 (by omega) hc26 (by omega)]; exact (zRows h).made SubC.h .nil⟩
      ·
       simp only [beq_eq_false_iff_ne, ne_eq] at hc31
       have hk8 := keys_le hc11
       have hcr := cr5 hc11 (show ¬ (ht < 0 ∨ 4 < ht) by omega) hc26 (by omega)
       have hht0 : 0 ≤ ht := by omega
       have hht4 : ht ≤ 4 := by omega
       obtain ⟨n, rfl⟩ := Int.eq_ofNat_of_zero_le hht0
       refine wpc_skip ?_
       refine ex_then ?_
       refine wpc_seq ?_
       refine wpc_region ?_
       refine wpl_q (q_ldN Try.underlying27 rfl Try.ti27 rfl (St.c_length hs.len)) rfl ?_
       refine wpl_tp (t_callP3 Try.hb10 rfl fun w h => refTwin s dv pv kv w (by first | exact StS.old h hs | exact ⟨hs.len, h.seenV, h.seenV, h.seenV, by omega, by omega, by omega⟩)) rfl (fun b34 p34 => ?_)
       refine wpl_t (t_alloc Try.ti27 (St.z.c nl nl nl) rfl) rfl (fun b8 => ?_)
       refine wpl_t0 (t_stA Try.ti27 rfl rfl (St.c_length (by first | exact hs.len | rfl)) (by first | exact St.c_one SV.nil SV.nil SV.nil | exact St.c_one p34.1 p34.2.1 p34.2.2) (by first | exact St.c_length hs.len | exact St.c_length rfl)) (fun _ => ?_)
       refine wpl_nil ?_
       refine ex_then ?_
       refine wpc_seq ?_
       refine wpc_region ?_
       refine wpl_q (q_field Try.underlying27 rfl Try.ti25 rfl rfl _ rfl) rfl ?_
       refine wpl_q (q_ld Try.underlying25 rfl rfl (by first | exact St.c_b hs.len | exact St.c_u hs.len | exact St.c_d hs.len | exact St.c_p hs.len | exact St.c_k hs.len)) rfl ?_
       refine wpl_q (q_pure rfl) rfl ?_
       refine wpl_q (q_pure rfl) rfl ?_
       refine wpl_q (q_build (cs := (KE.mk id ((n : Nat) : Int) 0 0 0 false).c) rfl (built_key id ((n : Nat) : Int))) rfl ?_
       refine wpl_tp (t_bsG [.agg (KE.mk id ((n : Nat) : Int) 0 0 0 false).c.toArray] (KE.mk id ((n : Nat) : Int) 0 0 0 false).c Try.underlying25 Try.ti66 rfl (by decide) rfl (by decide) (by decide) rfl (by intro v hv; rw [List.mem_singleton] at hv; subst hv; rfl) (List.append_nil _)) rfl (fun b40 p40 => ?_)
       refine wpl_tp (t_apW Try.underlying25 Try.ti66 rfl (by decide) rfl rfl (fun w h => by first | exact h.seenV | exact h.seenA (by first | decide | (simp only [maxLen]; omega)) (by first | with_reducible rfl | (simp only [v8s_length, v32s_length, vis_length, vns_length, v64s_length, List.length_replicate]; first | done | with_reducible assumption | omega) | (rw [v8s_length]; (first | with_reducible assumption | with_reducible exact shortF_length _ | with_reducible exact stepF_length _ _ _ | with_reducible exact sumF_length _ | with_reducible exact climbF_length _ (by first | with_reducible assumption | with_reducible exact shortF_length _ | with_reducible exact beginF_length _ _ | with_reducible exact getD_mem_len (by assumption) (by omega)) _ _ _ | with_reducible exact beginF_length _ _ | with_reducible exact chainF_length _ _ _ | with_reducible exact recF_length _ _ | with_reducible exact publicF_length _ | with_reducible exact getD_mem_len (by assumption) (by omega) | (with_reducible exact List.length_replicate))) | rfl) | exact h.seen_old (by assumption) | exact h.seen_oldL (by assumption) (by assumption) | exact h.seen_fact (by repeat (first | exact List.mem_cons_self .. | apply List.mem_cons_of_mem))) (ke_one _) (by first | omega | (simp only [maxLen]; omega) | (simp only [List.length_append, List.length_cons, List.length_nil, List.length_take, maxLen]; omega) | (simp only [List.length_append, List.length_cons, List.length_nil, List.length_take]; omega)) (by first | omega | (simp only [maxLen]; omega) | (simp only [List.length_append, List.length_cons, List.length_nil, List.length_take, maxLen]; omega) | (simp only [List.length_append, List.length_cons, List.length_nil, List.length_take]; omega)) (kcs (s.ks ++ [(KE.mk id ((n : Nat) : Int) 0 0 0 false)])) (kcs_snoc _ _)) rfl (fun b41 p41 => ?_)
       refine wpl_q (q_field Try.underlying27 rfl Try.ti25 rfl rfl _ rfl) rfl ?_
       refine wpl_t0 (t_st1 Try.ti25 rfl rfl (SV.one (by first | assumption | exact SV.nil | exact SV.slv (by assumption) (by omega) (by omega) | exact arv_sv (by first | decide | (simp only [maxLen]; omega)))) (St.c_lt hs.len (by decide)) _ (by first | exact St.s_d hs.len _ | exact St.s_p hs.len _ | exact St.s_k hs.len _)) (fun _ => ?_)
       refine wpl_nil ?_
       refine ex_then ?_
       refine wpc_seq ?_
       refine wpc_drawM [.blk b8 27 (s.c b34.1 b34.2.1 b41)] 7 (by kernel_rfl) (by repeat (first | exact Sub.nil | exact Sub.refl _ | with_reducible refine Sub.keep ?_ | refine Sub.drop ?_)) ?_
       refine wpd_q 0 rfl (by kernel_rfl) trivial (q_ldN Try.underlying27 rfl Try.ti27 rfl (St.c_length hs.len)) rfl (fun w h => h.sub SubC.h SubC.h) ?_
       refine wpd_p 1 rfl (by kernel_rfl) trivial (q_pure rfl) rfl (fun w h => .inr (h.sub SubC.h SubC.h)) ?_
       refine wpd_p 2 rfl (by kernel_rfl) trivial (q_pure rfl) rfl (fun w h => .inr (h.sub SubC.h SubC.h)) ?_
       refine wpd_tp 3 rfl (by kernel_rfl) trivial (t_callP1 Try.hb54 rfl fun w h => refRecord 1 n 0 id w (by omega) (by omega)) rfl (fun _ => (fun w h => .inr (h.sub SubC.h SubC.h))) (fun b46 p46 => ?_)
       refine wpd_tp 4 rfl (by kernel_rfl) trivial (t_callFp [dRow b46 (recB (Rec.mk 1 (of8 ((n : Nat) : Int)) 0 id)), .blk b8 27 (s.c b34.1 b34.2.1 b41), dRow b34.1 s.dk, dRow b34.2.1 s.pd, kRow b41 (s.ks ++ [(KE.mk id ((n : Nat) : Int) 0 0 0 false)]), .blk b6 27 (St.z.c nl nl nl), .blk b3 27 (s.c dv pv kv)] [dRow b46 (recB (Rec.mk 1 (of8 ((n : Nat) : Int)) 0 id)), dRow b34.1 s.dk, dRow b34.2.1 s.pd, kRow b41 (s.ks ++ [(KE.mk id ((n : Nat) : Int) 0 0 0 false)])] [.blk b8 27 (s.c b34.1 b34.2.1 b41), .blk b6 27 (St.z.c nl nl nl), .blk b3 27 (s.c dv pv kv)] (fun x => [dRow x.1 (writeF (addK s id ((n : Nat) : Int)) (recB (Rec.mk 1 (of8 ((n : Nat) : Int)) 0 id))).1.dk, dRow x.2.1 (writeF (addK s id ((n : Nat) : Int)) (recB (Rec.mk 1 (of8 ((n : Nat) : Int)) 0 id))).1.pd, kRow x.2.2 (writeF (addK s id ((n : Nat) : Int)) (recB (Rec.mk 1 (of8 ((n : Nat) : Int)) 0 id))).1.ks, .blk b8 27 (s.c b34.1 b34.2.1 b41), .blk b6 27 (St.z.c nl nl nl), .blk b3 27 (s.c dv pv kv)]) (by rw [kRow_snoc, recRow b46 _ _ (rec_1 (by omega) id)]; exact (by repeat (first | exact Sub.nil | exact Sub.refl _ | with_reducible refine Sub.keep ?_ | refine Sub.drop ?_))) perm1 (fun _ => rfl) Try.hb53 rfl fun w h h2 => refWrite b46 (recB (Rec.mk 1 (of8 ((n : Nat) : Int)) 0 id)) (addK s id ((n : Nat) : Int)) b34.1 b34.2.1 b41 w h2 hs.len ⟨p34.1, p34.2.1, by show SV b41 (s.ks ++ [(KE.mk id ((n : Nat) : Int) 0 0 0 false)]).length; rw [List.length_append]; exact p41⟩ hs.ld hs.lp p46 (by rw [recB_length]; decide)) rfl (fun _ => (fun w h => .inr (h.sub SubC.h SubC.h))) (fun b47 p47 => ?_)
       refine wpd_p 5 rfl (by kernel_rfl) trivial (q_pure rfl) rfl (fun w h => .inr (h.sub SubC.h SubC.h)) ?_
       refine wpd_p 6 rfl (by kernel_rfl) trivial (q_pure rfl) rfl (fun w h => .inr (h.sub SubC.h SubC.h)) ?_
       refine wpd_t0 7 rfl (by kernel_rfl) trivial (t_stA Try.ti27 rfl rfl (St.c_length (writeF_len hs.len)) (by first | exact St.c_one SV.nil SV.nil SV.nil | exact St.c_one p47.1 p47.2.1 p47.2.2) (by first | exact St.c_length hs.len | exact St.c_length rfl)) (fun _ => skk rfl) (fun _ => ?_)
       refine wpd_p 8 rfl (by kernel_rfl) trivial (q_pure rfl) rfl (skk rfl) ?_
       refine wpd_done (by kernel_rfl) ?_
       refine ex_then ?_
       refine wpc_ret ?_
       refine retv2 (.inl rfl) rfl (rv_agg Try.underlying27 rfl Try.ti27 rfl (fun w h => h.atB) (St.c_length (by first | rfl | exact writeF_len hs.len))) (rv_tmp rfl) ?_
       exact fun w h => ⟨b47, by rw [hcr]; exact p47, by rw [hcr]; rfl, h.below, by rw [hcr]; exact h.made SubC.h .nil⟩

end Go.Proofs.Ytoaeklbenmlooaa
