/- Open and Take. -/
import Derived.Test.YtoaeklbenmlooaaKX
namespace Go.Proofs.Ytoaeklbenmlooaa
set_option linter.unusedSimpArgs false
set_option linter.unusedVariables false
open Go Go.PL Go.RowKit

def openF (s : St) : St × Int := if ¬ upF s false = 0 then (St.z, upF s false) else ({ s with up := true, dk := s.dk.take (scanR s.dk).2, ks := (scanR s.dk).1 }, 0)
def openP (s : St) (pv : Value) : Value := if ¬ upF s false = 0 then nl else pv
theorem op1 {s : St} (h : ¬ upF s false = 0) : openF s = (St.z, upF s false) := if_pos h
theorem op1p {s : St} {pv : Value} (h : ¬ upF s false = 0) : openP s pv = nl := if_pos h
theorem op2 {s : St} (h : upF s false = 0) : openF s = ({ s with up := true, dk := s.dk.take (scanR s.dk).2, ks := (scanR s.dk).1 }, 0) := if_neg (fun hh => hh h)
theorem op2p {s : St} {pv : Value} (h : upF s false = 0) : openP s pv = pv := if_neg (fun hh => hh h)
theorem open_pd {s : St} (h : upF s false = 0) : s.pd = [] := List.eq_nil_of_length_eq_zero ((upF_ok h).1.2.2.2.1 (upF_ok h).2).1
theorem scanR_leN (bs : List UInt8) : (scanR bs).2 ≤ bs.length := by
  have h1 := scanF_leL (recs bs) []
  have h2 := recs_leL bs.length bs (Nat.le_refl _)
  have h3 : (scanR bs).2 = (scanF [] (recs bs)).2 := rfl
  omega
theorem zRows2 {w0 w : World} {Ln : List Nat} {M : List Ent} {S : List Fact} (h : Mem w0 Ln M S w) : Mem w0 Ln [dRow nl St.z.dk, kRow nl St.z.ks] [] w := ((h.sub (subNil _) (subNil _)).nilRow 66 6).nilRow 5 1
theorem built_st5 {v kv : Value} {k m : Nat} (hv : SV v k) (hk : SV kv m) (xs : List UInt8) (n : Int) (h : xs.length = 32) : Try.prog.built 27 [(0, .agg (v8s xs).toArray), (1, .int .i64 n), (2, .bool true), (3, v), (5, kv)] = some ((⟨xs, n, true, [], [], []⟩ : St).c v nl kv).toArray := by
  obtain ⟨a, cap, rfl, _⟩ := hv
  obtain ⟨a', cap', rfl, _⟩ := hk
  obtain ⟨a0, a1, a2, a3, a4, a5, a6, a7, a8, a9, a10, a11, a12, a13, a14, a15, a16, a17, a18, a19, a20, a21, a22, a23, a24, a25, a26, a27, a28, a29, a30, a31, rfl⟩ := list32 h
  kernel_rfl
theorem joinN (bv : Value) (ys : List UInt8) (w : World) (h : Seen w.cell? bv ys.length 1 (v8s ys)) (hl : ys.length ≤ 100000) : Calls Try.prog 40 [nl, bv].toArray w (GivesP w (fun v => SV v ys.length) (fun v => v) (fun v => [dRow v ys]) (fun _ => [])) := join_ nl [] bv ys w (seen_nil _ _) h (by decide) hl
theorem nx_ok {s : St} (h : upF s true = 0) {j : Nat} (hj : j < s.ks.length) : 0 ≤ (s.ks.getD j KE.z).nx ∧ (s.ks.getD j KE.z).nx ≤ 16 := by
  obtain ⟨h1, h2⟩ := upF_ok h
  have hu := h1.2.2.2.2 h2
  have h3 := hu.2.2.2 j hj
  simp only [okK, Bool.and_eq_true, decide_eq_true_eq] at h3
  have h4 : durF (scanR s.dk).1 j ≤ 16 := by
    unfold durF
    split
    · rename_i hd; exact ((scanR_ok s.dk).get hd).2.2.2
    · decide
  exact ⟨h3.1.2, by omega⟩
def takeF (s : St) (id : UInt32) : Int × St × Int :=
  if ¬ (thereF s id).2 = 0 then (0, St.z, (thereF s id).2) else if (kAt s id).nx = ((2 ^ (kAt s id).ht.toNat : Nat) : Int) then (0, St.z, 36) else if (kAt s id).nx = (kAt s id).du then (0, St.z, 32)
  else ((kAt s id).nx, putK s id { kAt s id with nx := (((kAt s id).nx.toNat + 1 : Nat) : Int) }, 0)
theorem tk1 {s : St} {id : UInt32} (h : ¬ (thereF s id).2 = 0) : takeF s id = (0, St.z, (thereF s id).2) := if_pos h
theorem tk2 {s : St} {id : UInt32} {j : Nat} (h : (thereF s id).2 = 0) (hj : placeF s.ks id = ((j : Nat) : Int)) (h2 : (s.ks.getD j KE.z).nx = ((2 ^ (s.ks.getD j KE.z).ht.toNat : Nat) : Int)) : takeF s id = (0, St.z, 36) := by
  unfold takeF; rw [if_neg (fun hh => hh h), kAt_j hj, if_pos h2]
theorem tk3 {s : St} {id : UInt32} {j : Nat} (h : (thereF s id).2 = 0) (hj : placeF s.ks id = ((j : Nat) : Int)) (h2 : ¬ (s.ks.getD j KE.z).nx = ((2 ^ (s.ks.getD j KE.z).ht.toNat : Nat) : Int)) (h3 : (s.ks.getD j KE.z).nx = (s.ks.getD j KE.z).du) : takeF s id = (0, St.z, 32) := by
  unfold takeF; rw [if_neg (fun hh => hh h), kAt_j hj, if_neg h2, if_pos h3]
theorem tk4 {s : St} {id : UInt32} {j : Nat} (h : (thereF s id).2 = 0) (hj : placeF s.ks id = ((j : Nat) : Int)) (h2 : ¬ (s.ks.getD j KE.z).nx = ((2 ^ (s.ks.getD j KE.z).ht.toNat : Nat) : Int)) (h3 : ¬ (s.ks.getD j KE.z).nx = (s.ks.getD j KE.z).du) :
    takeF s id = ((s.ks.getD j KE.z).nx, setK s j { s.ks.getD j KE.z with nx := (((s.ks.getD j KE.z).nx.toNat + 1 : Nat) : Int) }, 0) := by
  unfold takeF; rw [if_neg (fun hh => hh h), kAt_j hj, if_neg h2, if_neg h3, putK_j hj]; rfl
theorem kRow_setR {w0 w : World} {Ln : List Nat} {a b : Ent} {v : Value} {ks : List KE} {j : Nat} {k : KE} (h : Mem w0 Ln [a, b, .row v ks.length 66 6 (kcs (ks.set j k))] [] w) : Mem w0 Ln [a, b, kRow v (ks.set j k)] [] w := by rw [kRow_set]; exact h

set_option maxRecDepth 100000 in
theorem open_ (s : St) (dv pv kv : Value) (w : World) (hs : StS w.cell? s dv pv kv)  :
    Calls Try.prog 15 [.agg (s.c dv pv kv).toArray].toArray w (GivesP w (fun x : Value × Value => SV x.1 (openF s).1.dk.length ∧ SV x.2 (openF s).1.ks.length) (fun x => .tuple #[.agg ((openF s).1.c x.1 (openP s pv) x.2).toArray, .int .i64 (openF s).2]) (fun x => [dRow x.1 (openF s).1.dk, kRow x.2 (openF s).1.ks]) (fun _ => [])) := by
  have sdv := hs.d.sv
  have spv := hs.p.sv
  have skv := hs.k.sv
  have l1hs := hs.ld
  have l2hs := hs.lp
  have l3hs := hs.lk
  refine enter (m := 29) (R := Mem w [] [] []) Try.func15 rfl rfl (Nat.le_of_ble_eq_true rfl) (Mem.start w) ?_
  refine wpc_seq ?_
  refine wpc_region ?_
  refine wpl_t (t_box rfl (s.c dv pv kv) rfl) rfl (fun b1 => ?_)
  refine wpl_t (t_alloc Try.ti27 (St.z.c nl nl nl) rfl) rfl (fun b2 => ?_)
  refine wpl_q (q_pure rfl) rfl ?_
  refine wpl_nil ?_
  refine ex_then ?_
  refine wpc_seq ?_
  refine wpc_seq ?_
  refine wpc_region ?_
  refine wpl_q (q_ldN Try.underlying27 rfl Try.ti27 rfl (St.c_length hs.len)) rfl ?_
  refine wpl_t (t_pur Try.hb37 rfl fun w h => up_ _ _ _ _ _ w (by first | exact StS.old h hs | exact ⟨hs.len, h.seenV, h.seenV, h.seenV, by omega, by omega, by omega⟩)) rfl (fun b8 => ?_)
  refine wpl_q (q_pure rfl) rfl ?_
  refine wpl_nil ?_
  refine ex_then ?_
  refine wpc_seq ?_
  refine wpc_region ?_
  refine wpl_q (q_pure rfl) rfl ?_
  refine wpl_q (q_pure rfl) rfl ?_
  refine wpl_nil ?_
  refine ex_then ?_
  refine wpc_cond rfl (fun hc10 => ?_) (fun hc10 => ?_)
  ·
   simp only [bne_iff_ne, ne_eq] at hc10
   refine wpc_seq ?_
   refine wpc_region ?_
   refine wpl_q (q_build (cs := St.z.c nl nl nl) rfl built_st0) rfl ?_
   refine wpl_q (q_pure rfl) rfl ?_
   refine wpl_t0 (t_stA Try.ti27 rfl rfl (St.c_length (by first | exact hs.len | rfl)) (by first | exact St.c_one SV.nil SV.nil SV.nil) (by first | exact St.c_length hs.len | exact St.c_length rfl)) (fun _ => ?_)
   refine wpl_q (q_pure rfl) rfl ?_
   refine wpl_nil ?_
   refine ex_then ?_
   refine wpc_ret ?_
   refine ex_then_ret ?_
   refine retv2 (.inl rfl) rfl (rv_agg Try.underlying27 rfl Try.ti27 rfl (fun w h => h.atB) (St.c_length (by first | rfl | exact hs.len))) (rv_tmp rfl) ?_
   exact fun w h => ⟨(nl, nl), by rw [op1 hc10]; exact ⟨SV.nil, SV.nil⟩, by rw [op1 hc10, op1p hc10]; first | done | rfl, h.below, by rw [op1 hc10]; exact (zRows2 h).made (Sub.refl _) .nil⟩
  ·
   simp only [bne_eq_false_iff_eq] at hc10
   have ho := op2 hc10
   have hop := op2p (pv := pv) hc10
   have hnl := scanR_leN s.dk
   have htl := tk_le s.dk (scanR s.dk).2
   refine wpc_skip ?_
   refine ex_then ?_
   refine wpc_seq ?_
   refine wpc_region ?_
   refine wpl_q (q_field Try.underlying27 rfl Try.ti24 rfl rfl _ rfl) rfl ?_
   refine wpl_q (q_ld Try.underlying24 rfl rfl (by first | exact St.c_b hs.len | exact St.c_u hs.len | exact St.c_d hs.len | exact St.c_p hs.len | exact St.c_k hs.len)) rfl ?_
   refine wpl_tp (t_callP1 Try.hb42 rfl fun w h => scan _ _ w (by first | exact Seen.re8 h.seenV | exact h.seenV | exact h.seenA (by first | decide | (simp only [maxLen]; omega)) (by first | with_reducible rfl | (simp only [v8s_length, v32s_length, vis_length, vns_length, v64s_length, List.length_replicate]; first | done | with_reducible assumption | omega) | (rw [v8s_length]; (first | with_reducible assumption | with_reducible exact shortF_length _ | with_reducible exact stepF_length _ _ _ | with_reducible exact sumF_length _ | with_reducible exact climbF_length _ (by first | with_reducible assumption | with_reducible exact shortF_length _ | with_reducible exact beginF_length _ _ | with_reducible exact getD_mem_len (by assumption) (by omega)) _ _ _ | with_reducible exact beginF_length _ _ | with_reducible exact chainF_length _ _ _ | with_reducible exact recF_length _ _ | with_reducible exact publicF_length _ | with_reducible exact getD_mem_len (by assumption) (by omega) | (with_reducible exact List.length_replicate))) | rfl) | exact h.seen_old (by assumption) | exact h.seen_oldL (by assumption) (by assumption) | exact h.seen_old hs.d | exact h.seen_old hs.p | exact h.seen_old hs.k | exact Seen.re8 (h.seen_fact (by repeat (first | exact List.mem_cons_self .. | apply List.mem_cons_of_mem))) | exact h.seen_fact (by repeat (first | exact List.mem_cons_self .. | apply List.mem_cons_of_mem)))) rfl (fun b16 p16 => ?_)
   refine wpl_q (q_pure rfl) rfl ?_
   refine wpl_q (q_pure rfl) rfl ?_
   refine wpl_q (q_pure rfl) rfl ?_
   refine wpl_q (q_pure rfl) rfl ?_
   refine wpl_q (q_pure rfl) rfl ?_
   refine wpl_nil ?_
   refine ex_then ?_
   refine wpc_seq ?_
   refine wpc_region ?_
   refine wpl_q (q_field Try.underlying27 rfl Try.ti24 rfl rfl _ rfl) rfl ?_
   refine wpl_q (q_ld Try.underlying24 rfl rfl (by first | exact St.c_b hs.len | exact St.c_u hs.len | exact St.c_d hs.len | exact St.c_p hs.len | exact St.c_k hs.len)) rfl ?_
   refine wpl_q (q_pure rfl) rfl ?_
   refine wpl_q (q_slWh Try.underlying24 Try.ti5 rfl rfl (by first | assumption | exact SV.nil | exact SV.slv (by assumption) (by omega) (by omega) | exact arv_sv (by first | decide | (simp only [maxLen]; omega))) (by omega)) rfl ?_
   refine wpl_tp (t_callP1 Try.hb43 rfl fun w h => cloneB (slv dv 0 (scanR s.dk).2 1) (s.dk.take (scanR s.dk).2) w (show Seen w.cell? (slv dv 0 (scanR s.dk).2 1) (s.dk.take (scanR s.dk).2).length 1 (v8s (s.dk.take (scanR s.dk).2)) from Seen.re8 (Seen.slv8 (h.seen_old hs.d) 0 (scanR s.dk).2 (by omega) hnl)) (by omega)) rfl (fun b23 p23 => ?_)
   refine wpl_q (q_pure rfl) rfl ?_
   refine wpl_q (q_field Try.underlying27 rfl Try.ti4 rfl rfl _ rfl) rfl ?_
   refine wpl_t0 (t_st1 Try.ti4 rfl rfl rfl (St.c_lt (s := s) hs.len (by decide)) _ (St.s_u hs.len true)) (fun _ => ?_)
   refine wpl_q (q_field Try.underlying27 rfl Try.ti24 rfl rfl _ rfl) rfl ?_
   refine wpl_t0 (t_st1 Try.ti24 rfl rfl (SV.one (by first | assumption | exact SV.nil | exact SV.slv (by assumption) (by omega) (by omega) | exact arv_sv (by first | decide | (simp only [maxLen]; omega)))) (St.c_lt (s := ({ s with up := true } : St)) hs.len (by decide)) _ (St.s_d (s := ({ s with up := true } : St)) hs.len b23)) (fun _ => ?_)
   refine wpl_q (q_field Try.underlying27 rfl Try.ti25 rfl rfl _ rfl) rfl ?_
   refine wpl_t0 (t_st1 Try.ti25 rfl rfl (SV.one (by first | assumption | exact SV.nil | exact SV.slv (by assumption) (by omega) (by omega) | exact arv_sv (by first | decide | (simp only [maxLen]; omega)))) (St.c_lt (s := ({ s with up := true } : St)) hs.len (by decide)) _ (St.s_k (s := ({ s with up := true } : St)) hs.len b16)) (fun _ => ?_)
   refine wpl_nil ?_
   refine ex_then ?_
   refine wpc_seq ?_
   refine wpc_region ?_
   refine wpl_q (q_ldN Try.underlying27 rfl Try.ti27 rfl (St.c_length (s := ({ s with up := true } : St)) hs.len)) rfl ?_
   refine wpl_t0 (t_stA Try.ti27 rfl rfl (St.c_length (by first | exact hs.len | rfl)) (by first | exact St.c_one SV.nil SV.nil SV.nil | exact St.c_one p23 spv p16) (by first | exact St.c_length hs.len | exact St.c_length rfl)) (fun _ => ?_)
   refine wpl_q (q_pure rfl) rfl ?_
   refine wpl_nil ?_
   refine ex_then ?_
   refine wpc_ret ?_
   refine retv2 (.inl rfl) rfl (rv_agg Try.underlying27 rfl Try.ti27 rfl (fun w h => h.atB) (St.c_length (by first | rfl | exact hs.len))) (rv_tmp rfl) ?_
   exact fun w h => ⟨(b23, b16), by rw [ho]; exact ⟨p23, p16⟩, by rw [ho, hop]; rfl, h.below, by rw [ho]; exact (show Mem _ _ [dRow b23 (s.dk.take (scanR s.dk).2), kRow b16 (scanR s.dk).1] [] _ from h.sub SubC.h .nil).made (Sub.refl _) .nil⟩

set_option maxRecDepth 100000 in
theorem refOpen (s : St) (dv pv kv : Value) (w : World) (hs : StS w.cell? s dv pv kv)  :
    Calls Try.prog 16 [.agg (s.c dv pv kv).toArray].toArray w (GivesP w (fun x : V3 => (openF s).1.sv x) (fun x => .tuple #[stV (openF s).1 x, .int .i64 (openF s).2]) (fun x => [dRow x.1 (openF s).1.dk, dRow x.2.1 (openF s).1.pd, kRow x.2.2 (openF s).1.ks]) (fun _ => [])) := by
  have sdv := hs.d.sv
  have spv := hs.p.sv
  have skv := hs.k.sv
  have l1hs := hs.ld
  have l2hs := hs.lp
  have l3hs := hs.lk
  refine enter (m := 29) (R := Mem w [] [] []) Try.func16 rfl rfl (Nat.le_of_ble_eq_true rfl) (Mem.start w) ?_
  refine wpc_seq ?_
  refine wpc_region ?_
  refine wpl_t (t_box rfl (s.c dv pv kv) rfl) rfl (fun b1 => ?_)
  refine wpl_t (t_alloc Try.ti27 (St.z.c nl nl nl) rfl) rfl (fun b2 => ?_)
  refine wpl_q (q_pure rfl) rfl ?_
  refine wpl_nil ?_
  refine ex_then ?_
  refine wpc_seq ?_
  refine wpc_seq ?_
  refine wpc_region ?_
  refine wpl_q (q_ldN Try.underlying27 rfl Try.ti27 rfl (St.c_length hs.len)) rfl ?_
  refine wpl_t (t_pur Try.hb39 rfl fun w h => refUp _ _ _ _ _ w (by first | exact StS.old h hs | exact ⟨hs.len, h.seenV, h.seenV, h.seenV, by omega, by omega, by omega⟩)) rfl (fun b7 => ?_)
  refine wpl_q (q_pure rfl) rfl ?_
  refine wpl_nil ?_
  refine ex_then ?_
  refine wpc_cond rfl (fun hc8 => ?_) (fun hc8 => ?_)
  ·
   simp only [bne_iff_ne, ne_eq] at hc8
   refine wpc_seq ?_
   refine wpc_region ?_
   refine wpl_q (q_build (cs := St.z.c nl nl nl) rfl built_st0) rfl ?_
   refine wpl_q (q_ldN Try.underlying27 rfl Try.ti27 rfl (St.c_length hs.len)) rfl ?_
   refine wpl_t (t_pur Try.hb39 rfl fun w h => refUp _ _ _ _ _ w (by first | exact StS.old h hs | exact ⟨hs.len, h.seenV, h.seenV, h.seenV, by omega, by omega, by omega⟩)) rfl (fun b11 => ?_)
   refine wpl_t0 (t_stA Try.ti27 rfl rfl (St.c_length (by first | exact hs.len | rfl)) (by first | exact St.c_one SV.nil SV.nil SV.nil) (by first | exact St.c_length hs.len | exact St.c_length rfl)) (fun _ => ?_)
   refine wpl_q (q_pure rfl) rfl ?_
   refine wpl_nil ?_
   refine ex_then ?_
   refine wpc_ret ?_
   refine ex_then_ret ?_
   refine retv2 (.inl rfl) rfl (rv_agg Try.underlying27 rfl Try.ti27 rfl (fun w h => h.atB) (St.c_length (by first | rfl | exact hs.len))) (rv_tmp rfl) ?_
   exact fun w h => ⟨(nl, nl, nl), by rw [op1 hc8]; exact zSV, by rw [op1 hc8]; first | done | rfl, h.below, by rw [op1 hc8]; exact (zRows h).made SubC.h .nil⟩
  ·
   simp only [bne_eq_false_iff_eq] at hc8
   have ho := op2 hc8
   have hpd := open_pd hc8
   have hnl := scanR_leN s.dk
   have htl := tk_le s.dk (scanR s.dk).2
   refine wpc_skip ?_
   refine ex_then ?_
   refine wpc_seq ?_
   refine wpc_region ?_
   refine wpl_q (q_field Try.underlying27 rfl Try.ti24 rfl rfl _ rfl) rfl ?_
   refine wpl_q (q_ld Try.underlying24 rfl rfl (by first | exact St.c_b hs.len | exact St.c_u hs.len | exact St.c_d hs.len | exact St.c_p hs.len | exact St.c_k hs.len)) rfl ?_
   refine wpl_tp (t_callP1 Try.hb44 rfl fun w h => refScan _ _ w (by first | exact Seen.re8 h.seenV | exact h.seenV | exact h.seenA (by first | decide | (simp only [maxLen]; omega)) (by first | with_reducible rfl | (simp only [v8s_length, v32s_length, vis_length, vns_length, v64s_length, List.length_replicate]; first | done | with_reducible assumption | omega) | (rw [v8s_length]; (first | with_reducible assumption | with_reducible exact shortF_length _ | with_reducible exact stepF_length _ _ _ | with_reducible exact sumF_length _ | with_reducible exact climbF_length _ (by first | with_reducible assumption | with_reducible exact shortF_length _ | with_reducible exact beginF_length _ _ | with_reducible exact getD_mem_len (by assumption) (by omega)) _ _ _ | with_reducible exact beginF_length _ _ | with_reducible exact chainF_length _ _ _ | with_reducible exact recF_length _ _ | with_reducible exact publicF_length _ | with_reducible exact getD_mem_len (by assumption) (by omega) | (with_reducible exact List.length_replicate))) | rfl) | exact h.seen_old (by assumption) | exact h.seen_oldL (by assumption) (by assumption) | exact h.seen_old hs.d | exact h.seen_old hs.p | exact h.seen_old hs.k | exact Seen.re8 (h.seen_fact (by repeat (first | exact List.mem_cons_self .. | apply List.mem_cons_of_mem))) | exact h.seen_fact (by repeat (first | exact List.mem_cons_self .. | apply List.mem_cons_of_mem))) (by omega)) rfl (fun b15 p15 => ?_)
   refine wpl_q (q_pure rfl) rfl ?_
   refine wpl_q (q_pure rfl) rfl ?_
   refine wpl_q (q_pure rfl) rfl ?_
   refine wpl_q (q_pure rfl) rfl ?_
   refine wpl_q (q_pure rfl) rfl ?_
   refine wpl_nil ?_
   refine ex_then ?_
   refine wpc_seq ?_
   refine wpc_draw 11 (by kernel_rfl) (fun _ h => h.drew) ?_
   refine wpd_p 0 rfl (by kernel_rfl) trivial (q_field Try.underlying27 rfl Try.ti23 rfl rfl _ rfl) rfl sk0 ?_
   refine wpd_q 1 rfl (by kernel_rfl) trivial (q_ldP Try.underlying23 rfl Try.ti23 rfl (v8s s.ms) (St.c_m hs.len) (by rw [v8s_length]; exact hs.len)) rfl (fun _ h => h) ?_
   refine wpd_p 2 rfl (by kernel_rfl) trivial (q_field Try.underlying27 rfl Try.ti3 rfl rfl _ rfl) rfl sk0 ?_
   refine wpd_q 3 rfl (by kernel_rfl) trivial (q_ld Try.underlying3 rfl rfl (by first | exact St.c_b hs.len | exact St.c_u hs.len | exact St.c_d hs.len | exact St.c_p hs.len | exact St.c_k hs.len)) rfl (fun _ h => h) ?_
   refine wpd_p 4 rfl (by kernel_rfl) trivial (q_field Try.underlying27 rfl Try.ti24 rfl rfl _ rfl) rfl sk0 ?_
   refine wpd_q 5 rfl (by kernel_rfl) trivial (q_ld Try.underlying24 rfl rfl (by first | exact St.c_b hs.len | exact St.c_u hs.len | exact St.c_d hs.len | exact St.c_p hs.len | exact St.c_k hs.len)) rfl (fun _ h => h) ?_
   refine wpd_p 6 rfl (by kernel_rfl) trivial (q_pure rfl) rfl sk0 ?_
   refine wpd_p 7 rfl (by kernel_rfl) trivial (q_slWh Try.underlying24 Try.ti5 rfl rfl (by first | assumption | exact SV.nil | exact SV.slv (by assumption) (by omega) (by omega) | exact arv_sv (by first | decide | (simp only [maxLen]; omega))) (by omega)) rfl sk0 ?_
   refine wpd_p 9 rfl (by kernel_rfl) trivial (q_pure rfl) rfl sk0 ?_
   refine wpd_tp 8 rfl (by kernel_rfl) trivial (t_callP1 Try.hb40 rfl fun w h => joinN (slv dv 0 (scanR s.dk).2 1) (s.dk.take (scanR s.dk).2) w (show Seen w.cell? (slv dv 0 (scanR s.dk).2 1) (s.dk.take (scanR s.dk).2).length 1 (v8s (s.dk.take (scanR s.dk).2)) from Seen.re8 (Seen.slv8 (h.seen_old hs.d) 0 (scanR s.dk).2 (by omega) hnl)) (by omega)) rfl (fun _ => (fun w h => .inr (h.sub SubC.h SubC.h))) (fun b26 p26 => ?_)
   refine wpd_p 10 rfl (by kernel_rfl) trivial (q_build (cs := (⟨s.ms, s.bt, true, [], [], []⟩ : St).c b26 nl b15) rfl (built_st5 p26 p15 s.ms s.bt hs.len)) rfl (fun w h => .inr (h.sub SubC.h SubC.h)) ?_
   refine wpd_t0 11 rfl (by kernel_rfl) trivial (t_stA Try.ti27 rfl rfl (St.c_length (by first | exact hs.len | rfl)) (by first | exact St.c_one SV.nil SV.nil SV.nil | exact St.c_one p26 SV.nil p15) (by first | exact St.c_length hs.len | exact St.c_length rfl)) (fun _ => skk rfl) (fun _ => ?_)
   refine wpd_p 12 rfl (by kernel_rfl) trivial (q_pure rfl) rfl (skk rfl) ?_
   refine wpd_done (by kernel_rfl) ?_
   refine ex_then ?_
   refine wpc_ret ?_
   refine retv2 (.inl rfl) rfl (rv_agg Try.underlying27 rfl Try.ti27 rfl (fun w h => h.atB) (St.c_length (by first | rfl | exact hs.len))) (rv_tmp rfl) ?_
   exact fun w h => ⟨(b26, nl, b15), by rw [ho]; exact ⟨p26, by show SV nl s.pd.length; rw [hpd]; exact SV.nil, p15⟩, by rw [ho]; rfl, h.below, by rw [ho]; dsimp only; rw [hpd]; exact (nilMid (show Mem _ _ [dRow b26 (s.dk.take (scanR s.dk).2), kRow b15 (scanR s.dk).1] [] _ from h.sub SubC.h .nil)).made (Sub.refl _) .nil⟩

set_option maxRecDepth 100000 in
theorem take_ (s : St) (dv pv kv : Value) (id : UInt32) (w : World) (hs : StS w.cell? s dv pv kv)  :
    Calls Try.prog 17 [.agg (s.c dv pv kv).toArray, .int .u32 id.toNat].toArray w (GivesP w (fun x : V3 => (takeF s id).2.1.sv x) (fun x => .tuple #[.int .i64 (takeF s id).1, stV (takeF s id).2.1 x, .int .i64 (takeF s id).2.2]) (fun x => [dRow x.1 (takeF s id).2.1.dk, dRow x.2.1 (takeF s id).2.1.pd, kRow x.2.2 (takeF s id).2.1.ks]) (fun _ => [])) := by
  have sdv := hs.d.sv
  have spv := hs.p.sv
  have skv := hs.k.sv
  have l1hs := hs.ld
  have l2hs := hs.lp
  have l3hs := hs.lk
  refine enter (m := 57) (R := Mem w [] [] []) Try.func17 rfl rfl (Nat.le_of_ble_eq_true rfl) (Mem.start w) ?_
  refine wpc_seq ?_
  refine wpc_region ?_
  refine wpl_t (t_box rfl (s.c dv pv kv) rfl) rfl (fun b2 => ?_)
  refine wpl_q (q_pure rfl) rfl ?_
  first | refine wpd_re 4 rfl (congrArg (Value.int .i64) (show (((s.ks.getD j KE.z).nx.toNat + 1 - 1 : Nat) : Int) = (s.ks.getD j KE.z).nx from hN.symm)) ?_ | skip
  refine wpl_t (t_alloc Try.ti27 (St.z.c nl nl nl) rfl) rfl (fun b5 => ?_)
  refine wpl_q (q_pure rfl) rfl ?_
  refine wpl_nil ?_
  refine ex_then ?_
  refine wpc_seq ?_
  refine wpc_region ?_
  refine wpl_q (q_ldN Try.underlying27 rfl Try.ti27 rfl (St.c_length hs.len)) rfl ?_
  refine wpl_q (q_pure rfl) rfl ?_
  refine wpl_t (t_pur Try.hb45 rfl fun w h => there_ _ _ _ _ _ w (by first | exact StS.old h hs | exact ⟨hs.len, h.seenV, h.seenV, h.seenV, by omega, by omega, by omega⟩)) rfl (fun b12 => ?_)
  refine wpl_q (q_pure rfl) rfl ?_
  refine wpl_q (q_pure rfl) rfl ?_
  refine wpl_q (q_pure rfl) rfl ?_
  refine wpl_q (q_pure rfl) rfl ?_
  refine wpl_q (q_pure rfl) rfl ?_
  refine wpl_nil ?_
  refine ex_then ?_
  refine wpc_seq ?_
  refine wpc_seq ?_
  refine wpc_region ?_
  refine wpl_q (q_pure rfl) rfl ?_
  refine wpl_q (q_pure rfl) rfl ?_
  refine wpl_nil ?_
  refine ex_then ?_
  refine wpc_cond rfl (fun hc16 => ?_) (fun hc16 => ?_)
  ·
   simp only [bne_iff_ne, ne_eq] at hc16
   refine wpc_seq ?_
   refine wpc_region ?_
   refine wpl_q (q_build (cs := St.z.c nl nl nl) rfl built_st0) rfl ?_
   refine wpl_q (q_pure rfl) rfl ?_
   refine wpl_q (q_pure rfl) rfl ?_
   first | refine wpd_re 4 rfl (congrArg (Value.int .i64) (show (((s.ks.getD j KE.z).nx.toNat + 1 - 1 : Nat) : Int) = (s.ks.getD j KE.z).nx from hN.symm)) ?_ | skip
   refine wpl_t0 (t_stA Try.ti27 rfl rfl (St.c_length (by first | exact hs.len | rfl)) (by first | exact St.c_one SV.nil SV.nil SV.nil) (by first | exact St.c_length hs.len | exact St.c_length rfl)) (fun _ => ?_)
   refine wpl_q (q_pure rfl) rfl ?_
   refine wpl_nil ?_
   refine ex_then ?_
   refine wpc_ret ?_
   refine ex_then_ret ?_
   refine retv3 (.inl rfl) rfl (rv_tmp rfl) (rv_agg Try.underlying27 rfl Try.ti27 rfl (fun w h => h.atB) (St.c_length (by first | rfl | exact hs.len))) (rv_tmp rfl) ?_
   exact fun w h => ⟨(nl, nl, nl), by rw [tk1 hc16]; exact zSV, by rw [tk1 hc16]; first | done | rfl, h.below, by rw [tk1 hc16]; exact (zRows h).made SubC.h .nil⟩
  ·
   simp only [bne_eq_false_iff_eq] at hc16
   obtain ⟨hup, j, hjl, hej, hth⟩ := there_ok hc16
   obtain ⟨k0, k1, k2, k3⟩ := key_ok hup hjl
   have hk8 := keys_le hup
   have hA : (s.ks.getD j KE.z).ak = (((s.ks.getD j KE.z).ak.toNat : Nat) : Int) := (Int.toNat_of_nonneg k2).symm
   have hH : (s.ks.getD j KE.z).ht = (((s.ks.getD j KE.z).ht.toNat : Nat) : Int) := (Int.toNat_of_nonneg k0).symm
   obtain ⟨n0, n1⟩ := nx_ok hup hjl
   have hN : (s.ks.getD j KE.z).nx = (((s.ks.getD j KE.z).nx.toNat : Nat) : Int) := (Int.toNat_of_nonneg n0).symm
   have hb1 := (upF_ok hup).1.1
   have hb2 := (upF_ok hup).1.2.1
   have hB : s.bt = ((s.bt.toNat : Nat) : Int) := (Int.toNat_of_nonneg (by omega)).symm
   have hl4 : (s.ks.getD j KE.z).ht.toNat ≤ 4 := by omega
   have hpw := pow_le hl4
   have hkl := kcs_length s.ks
   refine wpc_re 7 rfl (congrArg (Value.int .i64) (show (thereF s id).1 = ((j : Nat) : Int) by rw [hth])) ?_
   refine wpc_skip ?_
   refine ex_then ?_
   refine wpc_seq ?_
   refine wpc_region ?_
   refine wpl_q (q_ldN Try.underlying27 rfl Try.ti27 rfl (St.c_length hs.len)) rfl ?_
   refine wpl_tp (t_callP3 Try.hb38 rfl fun w h => twin s dv pv kv w (by first | exact StS.old h hs | exact ⟨hs.len, h.seenV, h.seenV, h.seenV, by omega, by omega, by omega⟩)) rfl (fun b20 p20 => ?_)
   have q3 : SV b20.2.2 s.ks.length := p20.2.2
   refine wpl_t0 (t_stA Try.ti27 rfl rfl (St.c_length (by first | exact hs.len | rfl)) (by first | exact St.c_one SV.nil SV.nil SV.nil | exact St.c_one p20.1 p20.2.1 p20.2.2) (by first | exact St.c_length hs.len | exact St.c_length rfl)) (fun _ => ?_)
   refine wpl_nil ?_
   refine ex_then ?_
   refine wpc_seq ?_
   refine wpc_region ?_
   refine wpl_q (q_field Try.underlying27 rfl Try.ti25 rfl rfl _ rfl) rfl ?_
   refine wpl_q (q_ld Try.underlying25 rfl rfl (by first | exact St.c_b hs.len | exact St.c_u hs.len | exact St.c_d hs.len | exact St.c_p hs.len | exact St.c_k hs.len)) rfl ?_
   refine wpl_q (q_pure rfl) rfl ?_
   refine wpl_q (q_idxW Try.underlying25 Try.ti66 rfl rfl (by first | assumption | exact SV.nil | exact SV.slv (by assumption) (by omega) (by omega) | exact arv_sv (by first | decide | (simp only [maxLen]; omega))) (by first | omega | (simp only [maxLen]; omega) | (simp only [List.length_append, List.length_cons, List.length_nil, List.length_take, maxLen]; omega) | (simp only [List.length_append, List.length_cons, List.length_nil, List.length_take]; omega))) rfl ?_
   refine wpl_q (q_pure rfl) rfl ?_
   refine wpl_nil ?_
   refine ex_then ?_
   refine wpc_seq ?_
   refine wpc_seq ?_
   refine wpc_region ?_
   refine wpl_q (q_pure rfl) rfl ?_
   refine wpl_q (q_pure rfl) rfl ?_
   refine wpl_q (q_fieldPo 2 Try.underlying66 rfl Try.ti3 rfl rfl rfl) rfl ?_
   refine wpl_q (q_ldWF Try.underlying3 rfl rfl (fun w h => (show Seen w.cell? b20.2.2 s.ks.length 6 (kcs s.ks) from h.seenV)) (kcs_get hjl rfl)) rfl ?_
   refine wpl_nil ?_
   refine ex_then ?_
   refine wpc_block ?_
   refine wpc_seq ?_
   refine wpc_region ?_
   refine wpl_q (q_pure rfl) rfl ?_
   refine wpl_q (q_pure rfl) rfl ?_
   refine wpl_q (q_fieldPo 1 Try.underlying66 rfl Try.ti3 rfl rfl rfl) rfl ?_
   refine wpl_q (q_ldWF Try.underlying3 rfl rfl (fun w h => (show Seen w.cell? b20.2.2 s.ks.length 6 (kcs s.ks) from h.seenV)) (kcs_get hjl rfl)) rfl ?_
   refine wpl_re 33 rfl (congrArg (Value.int .i64) hH) ?_
   refine wpl_q (q_shlN (a := 1) rfl rfl (by first | decide | omega) (by omega)) rfl ?_
   refine wpl_q (q_pure rfl) rfl ?_
   refine wpl_q (q_pure rfl) rfl ?_
   refine wpl_nil ?_
   refine ex_then ?_
   refine wpc_cond rfl (fun hc29 => ?_) (fun hc29 => ?_)
   ·
    simp only [beq_iff_eq] at hc29
    rw [Nat.one_mul] at hc29
    refine wpc_seq ?_
    refine wpc_region ?_
    refine wpl_q (q_build (cs := St.z.c nl nl nl) rfl built_st0) rfl ?_
    refine wpl_q (q_pure rfl) rfl ?_
    first | refine wpd_re 4 rfl (congrArg (Value.int .i64) (show (((s.ks.getD j KE.z).nx.toNat + 1 - 1 : Nat) : Int) = (s.ks.getD j KE.z).nx from hN.symm)) ?_ | skip
    refine wpl_t0 (t_stA Try.ti27 rfl rfl (St.c_length (by first | exact hs.len | rfl)) (by first | exact St.c_one SV.nil SV.nil SV.nil) (by first | exact St.c_length hs.len | exact St.c_length rfl)) (fun _ => ?_)
    refine wpl_q (q_pure rfl) rfl ?_
    refine wpl_nil ?_
    refine ex_then ?_
    refine wpc_ret ?_
    refine ex_block_ret ?_
    refine ex_then_ret ?_
    refine retv3 (.inl rfl) rfl (rv_tmp rfl) (rv_agg Try.underlying27 rfl Try.ti27 rfl (fun w h => h.atB) (St.c_length (by first | rfl | exact hs.len))) (rv_tmp rfl) ?_
    exact fun w h => ⟨(nl, nl, nl), by rw [tk2 hc16 hej hc29]; exact zSV, by rw [tk2 hc16 hej hc29]; first | done | rfl, h.below, by rw [tk2 hc16 hej hc29]; exact (zRows h).made SubC.h .nil⟩
   ·
    simp only [beq_eq_false_iff_ne, ne_eq] at hc29
    rw [Nat.one_mul] at hc29
    refine wpc_seq ?_
    refine wpc_region ?_
    refine wpl_q (q_pure rfl) rfl ?_
    refine wpl_q (q_pure rfl) rfl ?_
    refine wpl_q (q_fieldPo 3 Try.underlying66 rfl Try.ti3 rfl rfl rfl) rfl ?_
    refine wpl_q (q_ldWF Try.underlying3 rfl rfl (fun w h => (show Seen w.cell? b20.2.2 s.ks.length 6 (kcs s.ks) from h.seenV)) (kcs_get hjl rfl)) rfl ?_
    refine wpl_q (q_pure rfl) rfl ?_
    refine wpl_q (q_pure rfl) rfl ?_
    refine wpl_nil ?_
    refine ex_then ?_
    refine wpc_cond rfl (fun hc37 => ?_) (fun hc37 => ?_)
    ·
     simp only [beq_iff_eq] at hc37
     refine wpc_seq ?_
     refine wpc_region ?_
     refine wpl_q (q_build (cs := St.z.c nl nl nl) rfl built_st0) rfl ?_
     refine wpl_q (q_pure rfl) rfl ?_
     first | refine wpd_re 4 rfl (congrArg (Value.int .i64) (show (((s.ks.getD j KE.z).nx.toNat + 1 - 1 : Nat) : Int) = (s.ks.getD j KE.z).nx from hN.symm)) ?_ | skip
     refine wpl_t0 (t_stA Try.ti27 rfl rfl (St.c_length (by first | exact hs.len | rfl)) (by first | exact St.c_one SV.nil SV.nil SV.nil) (by first | exact St.c_length hs.len | exact St.c_length rfl)) (fun _ => ?_)
     refine wpl_q (q_pure rfl) rfl ?_
     refine wpl_nil ?_
     refine ex_then ?_
     refine wpc_ret ?_
     refine ex_block_ret ?_
     refine ex_then_ret ?_
     refine retv3 (.inl rfl) rfl (rv_tmp rfl) (rv_agg Try.underlying27 rfl Try.ti27 rfl (fun w h => h.atB) (St.c_length (by first | rfl | exact hs.len))) (rv_tmp rfl) ?_
     exact fun w h => ⟨(nl, nl, nl), by rw [tk3 hc16 hej hc29 hc37]; exact zSV, by rw [tk3 hc16 hej hc29 hc37]; first | done | rfl, h.below, by rw [tk3 hc16 hej hc29 hc37]; exact (zRows h).made SubC.h .nil⟩
    ·
     simp only [beq_eq_false_iff_ne, ne_eq] at hc37
     have htk := tk4 hc16 hej hc29 hc37
     refine wpc_skip ?_
     refine ex_block ?_
     refine ex_then ?_
     refine wpc_seq ?_
     refine wpc_region ?_
     refine wpl_q (q_pure rfl) rfl ?_
     refine wpl_q (q_pure rfl) rfl ?_
     refine wpl_q (q_fieldPo 2 Try.underlying66 rfl Try.ti3 rfl rfl rfl) rfl ?_
     refine wpl_q (q_ldWF Try.underlying3 rfl rfl (fun w h => (show Seen w.cell? b20.2.2 s.ks.length 6 (kcs s.ks) from h.seenV)) (kcs_get hjl rfl)) rfl ?_
     refine wpl_re 47 rfl (congrArg (Value.int .i64) hN) ?_
     refine wpl_q (q_addN (b := 1) rfl rfl (by first | omega | (simp only [maxLen]; omega) | (simp only [List.length_append, List.length_cons, List.length_nil, List.length_take, maxLen]; omega) | (simp only [List.length_append, List.length_cons, List.length_nil, List.length_take]; omega))) rfl ?_
     refine wpl_q (q_pure rfl) rfl ?_
     refine wpl_q (q_fieldPo 2 Try.underlying66 rfl Try.ti3 rfl rfl rfl) rfl ?_
     refine wpl_t0 (t_stWF Try.ti3 rfl rfl rfl (by omega) (kcs (s.ks.set j { (s.ks.getD j KE.z) with nx := ((((s.ks.getD j KE.z).nx.toNat + 1 : Nat)) : Int) })) (kcs_set _ hjl rfl (by decide))) (fun _ => ?_)
     refine wpl_nil ?_
     refine ex_then ?_
     refine wpc_seq ?_
     refine wpc_draw 7 (by kernel_rfl) (fun _ h => h.drew) ?_
     refine wpd_p 0 rfl (by kernel_rfl) trivial (q_pure rfl) rfl sk0 ?_
     refine wpd_p 1 rfl (by kernel_rfl) trivial (q_pure rfl) rfl sk0 ?_
     refine wpd_p 2 rfl (by kernel_rfl) trivial (q_fieldPo 2 Try.underlying66 rfl Try.ti3 rfl rfl rfl) rfl sk0 ?_
     refine wpd_q 3 rfl (by kernel_rfl) trivial (q_ldWF Try.underlying3 rfl rfl (fun w h => (show Seen w.cell? b20.2.2 s.ks.length 6 (kcs (s.ks.set j { (s.ks.getD j KE.z) with nx := ((((s.ks.getD j KE.z).nx.toNat + 1 : Nat)) : Int) })) from h.seenV)) (set_get (v := .int .i64 (((s.ks.getD j KE.z).nx.toNat + 1 : Nat) : Int)) hjl rfl)) rfl (fun _ h => h) ?_
     refine wpd_p 4 rfl (by kernel_rfl) trivial (q_subN (b := 1) rfl rfl (by omega) (by first | omega | (simp only [maxLen]; omega) | (simp only [List.length_append, List.length_cons, List.length_nil, List.length_take, maxLen]; omega) | (simp only [List.length_append, List.length_cons, List.length_nil, List.length_take]; omega))) rfl sk0 ?_
     refine wpd_q 5 rfl (by kernel_rfl) trivial (q_ldN Try.underlying27 rfl Try.ti27 rfl (St.c_length hs.len)) rfl (fun _ h => h) ?_
     refine wpd_p 6 rfl (by kernel_rfl) trivial (q_pure rfl) rfl sk0 ?_
     first | refine wpd_re 4 rfl (congrArg (Value.int .i64) (show (((s.ks.getD j KE.z).nx.toNat + 1 - 1 : Nat) : Int) = (s.ks.getD j KE.z).nx from hN.symm)) ?_ | skip
     refine wpd_t0 7 rfl (by kernel_rfl) trivial (t_stA Try.ti27 rfl rfl (St.c_length (by first | exact hs.len | rfl)) (by first | exact St.c_one SV.nil SV.nil SV.nil | exact St.c_one p20.1 p20.2.1 p20.2.2) (by first | exact St.c_length hs.len | exact St.c_length rfl)) (fun _ => skk rfl) (fun _ => ?_)
     refine wpd_p 8 rfl (by kernel_rfl) trivial (q_pure rfl) rfl (skk rfl) ?_
     refine wpd_done (by kernel_rfl) ?_
     refine ex_then ?_
     refine wpc_ret ?_
     refine retv3 (.inl rfl) rfl (rv_tmp rfl) (rv_agg Try.underlying27 rfl Try.ti27 rfl (fun w h => h.atB) (St.c_length (by first | rfl | exact hs.len))) (rv_tmp rfl) ?_
     exact fun w h => ⟨b20, by rw [htk]; exact ⟨p20.1, p20.2.1, by show SV b20.2.2 (s.ks.set j _).length; rw [List.length_set]; exact q3⟩, by rw [htk]; rfl, h.below, by rw [htk]; exact (kRow_setR (show Mem _ _ [dRow b20.1 s.dk, dRow b20.2.1 s.pd, .row b20.2.2 s.ks.length 66 6 (kcs (s.ks.set j { (s.ks.getD j KE.z) with nx := ((((s.ks.getD j KE.z).nx.toNat + 1 : Nat)) : Int) }))] [] _ from h.sub SubC.h .nil)).made (Sub.refl _) .nil⟩

set_option maxRecDepth 100000 in
theorem refTake (s : St) (dv pv kv : Value) (id : UInt32) (w : World) (hs : StS w.cell? s dv pv kv)  :
    Calls Try.prog 18 [.agg (s.c dv pv kv).toArray, .int .u32 id.toNat].toArray w (GivesP w (fun x : V3 => (takeF s id).2.1.sv x) (fun x => .tuple #[.int .i64 (takeF s id).1, stV (takeF s id).2.1 x, .int .i64 (takeF s id).2.2]) (fun x => [dRow x.1 (takeF s id).2.1.dk, dRow x.2.1 (takeF s id).2.1.pd, kRow x.2.2 (takeF s id).2.1.ks]) (fun _ => [])) := by
  have sdv := hs.d.sv
  have spv := hs.p.sv
  have skv := hs.k.sv
  have l1hs := hs.ld
  have l2hs := hs.lp
  have l3hs := hs.lk
  refine enter (m := 67) (R := Mem w [] [] []) Try.func18 rfl rfl (Nat.le_of_ble_eq_true rfl) (Mem.start w) ?_
  refine wpc_seq ?_
  refine wpc_region ?_
  refine wpl_t (t_box rfl (s.c dv pv kv) rfl) rfl (fun b2 => ?_)
  refine wpl_q (q_pure rfl) rfl ?_
  refine wpl_t (t_alloc Try.ti27 (St.z.c nl nl nl) rfl) rfl (fun b5 => ?_)
  refine wpl_q (q_pure rfl) rfl ?_
  refine wpl_nil ?_
  refine ex_then ?_
  refine wpc_seq ?_
  refine wpc_region ?_
  refine wpl_q (q_ldN Try.underlying27 rfl Try.ti27 rfl (St.c_length hs.len)) rfl ?_
  refine wpl_q (q_pure rfl) rfl ?_
  refine wpl_t (t_pur Try.hb46 rfl fun w h => refThere _ _ _ _ _ w (by first | exact StS.old h hs | exact ⟨hs.len, h.seenV, h.seenV, h.seenV, by omega, by omega, by omega⟩)) rfl (fun b13 => ?_)
  refine wpl_q (q_pure rfl) rfl ?_
  refine wpl_q (q_pure rfl) rfl ?_
  refine wpl_q (q_pure rfl) rfl ?_
  refine wpl_q (q_pure rfl) rfl ?_
  refine wpl_q (q_pure rfl) rfl ?_
  refine wpl_nil ?_
  refine ex_then ?_
  refine wpc_seq ?_
  refine wpc_seq ?_
  refine wpc_region ?_
  refine wpl_q (q_pure rfl) rfl ?_
  refine wpl_q (q_pure rfl) rfl ?_
  refine wpl_nil ?_
  refine ex_then ?_
  refine wpc_cond rfl (fun hc17 => ?_) (fun hc17 => ?_)
  ·
   simp only [bne_iff_ne, ne_eq] at hc17
   refine wpc_seq ?_
   refine wpc_region ?_
   refine wpl_q (q_build (cs := St.z.c nl nl nl) rfl built_st0) rfl ?_
   refine wpl_q (q_pure rfl) rfl ?_
   refine wpl_q (q_pure rfl) rfl ?_
   refine wpl_t0 (t_stA Try.ti27 rfl rfl (St.c_length (by first | exact hs.len | rfl)) (by first | exact St.c_one SV.nil SV.nil SV.nil) (by first | exact St.c_length hs.len | exact St.c_length rfl)) (fun _ => ?_)
   refine wpl_q (q_pure rfl) rfl ?_
   refine wpl_nil ?_
   refine ex_then ?_
   refine wpc_ret ?_
   refine ex_then_ret ?_
   refine retv3 (.inl rfl) rfl (rv_tmp rfl) (rv_agg Try.underlying27 rfl Try.ti27 rfl (fun w h => h.atB) (St.c_length (by first | rfl | exact hs.len))) (rv_tmp rfl) ?_
   exact fun w h => ⟨(nl, nl, nl), by rw [tk1 hc17]; exact zSV, by rw [tk1 hc17]; first | done | rfl, h.below, by rw [tk1 hc17]; exact (zRows h).made SubC.h .nil⟩
  ·
   simp only [bne_eq_false_iff_eq] at hc17
   obtain ⟨hup, j, hjl, hej, hth⟩ := there_ok hc17
   obtain ⟨k0, k1, k2, k3⟩ := key_ok hup hjl
   have hk8 := keys_le hup
   have hA : (s.ks.getD j KE.z).ak = (((s.ks.getD j KE.z).ak.toNat : Nat) : Int) := (Int.toNat_of_nonneg k2).symm
   have hH : (s.ks.getD j KE.z).ht = (((s.ks.getD j KE.z).ht.toNat : Nat) : Int) := (Int.toNat_of_nonneg k0).symm
   obtain ⟨n0, n1⟩ := nx_ok hup hjl
   have hN : (s.ks.getD j KE.z).nx = (((s.ks.getD j KE.z).nx.toNat : Nat) : Int) := (Int.toNat_of_nonneg n0).symm
   have hb1 := (upF_ok hup).1.1
   have hb2 := (upF_ok hup).1.2.1
   have hB : s.bt = ((s.bt.toNat : Nat) : Int) := (Int.toNat_of_nonneg (by omega)).symm
   have hl4 : (s.ks.getD j KE.z).ht.toNat ≤ 4 := by omega
   have hpw := pow_le hl4
   have hkl := kcs_length s.ks
   refine wpc_re 7 rfl (congrArg (Value.int .i64) (show (thereF s id).1 = ((j : Nat) : Int) by rw [hth])) ?_
   refine wpc_skip ?_
   refine ex_then ?_
   refine wpc_seq ?_
   refine wpc_seq ?_
   refine wpc_draw 14 (by kernel_rfl) (fun _ h => h.drew) ?_
   refine wpd_p 0 rfl (by kernel_rfl) trivial (q_field Try.underlying27 rfl Try.ti25 rfl rfl _ rfl) rfl sk0 ?_
   refine wpd_q 1 rfl (by kernel_rfl) trivial (q_ld Try.underlying25 rfl rfl (by first | exact St.c_b hs.len | exact St.c_u hs.len | exact St.c_d hs.len | exact St.c_p hs.len | exact St.c_k hs.len)) rfl (fun _ h => h) ?_
   refine wpd_p 2 rfl (by kernel_rfl) trivial (q_pure rfl) rfl sk0 ?_
   refine wpd_p 3 rfl (by kernel_rfl) trivial (q_idxW Try.underlying25 Try.ti66 rfl rfl (by first | assumption | exact SV.nil | exact SV.slv (by assumption) (by omega) (by omega) | exact arv_sv (by first | decide | (simp only [maxLen]; omega))) (by first | omega | (simp only [maxLen]; omega) | (simp only [List.length_append, List.length_cons, List.length_nil, List.length_take, maxLen]; omega) | (simp only [List.length_append, List.length_cons, List.length_nil, List.length_take]; omega))) rfl sk0 ?_
   refine wpd_p 4 rfl (by kernel_rfl) trivial (q_fieldPo 2 Try.underlying66 rfl Try.ti3 rfl rfl rfl) rfl sk0 ?_
   refine wpd_q 5 rfl (by kernel_rfl) trivial (q_ldWF Try.underlying3 rfl rfl (fun w h => h.seen_old hs.k) (kcs_get hjl rfl)) rfl (fun _ h => h) ?_
   refine wpd_p 6 rfl (by kernel_rfl) trivial (q_field Try.underlying27 rfl Try.ti25 rfl rfl _ rfl) rfl sk0 ?_
   refine wpd_q 7 rfl (by kernel_rfl) trivial (q_ld Try.underlying25 rfl rfl (by first | exact St.c_b hs.len | exact St.c_u hs.len | exact St.c_d hs.len | exact St.c_p hs.len | exact St.c_k hs.len)) rfl (fun _ h => h) ?_
   refine wpd_p 8 rfl (by kernel_rfl) trivial (q_pure rfl) rfl sk0 ?_
   refine wpd_p 9 rfl (by kernel_rfl) trivial (q_idxW Try.underlying25 Try.ti66 rfl rfl (by first | assumption | exact SV.nil | exact SV.slv (by assumption) (by omega) (by omega) | exact arv_sv (by first | decide | (simp only [maxLen]; omega))) (by first | omega | (simp only [maxLen]; omega) | (simp only [List.length_append, List.length_cons, List.length_nil, List.length_take, maxLen]; omega) | (simp only [List.length_append, List.length_cons, List.length_nil, List.length_take]; omega))) rfl sk0 ?_
   refine wpd_p 10 rfl (by kernel_rfl) trivial (q_fieldPo 1 Try.underlying66 rfl Try.ti3 rfl rfl rfl) rfl sk0 ?_
   refine wpd_q 11 rfl (by kernel_rfl) trivial (q_ldWF Try.underlying3 rfl rfl (fun w h => h.seen_old hs.k) (kcs_get hjl rfl)) rfl (fun _ h => h) ?_
   refine wpd_re 31 rfl (congrArg (Value.int .i64) hH) ?_
   refine wpd_t 12 rfl (by kernel_rfl) trivial (t_pur Try.hb47 rfl fun w h => refAll18 _ w (by omega)) rfl (fun _ => sk0) (fun b32 => ?_)
   refine wpd_p 13 rfl (by kernel_rfl) trivial (q_pure rfl) rfl sk0 ?_
   refine wpd_done (by kernel_rfl) ?_
   refine ex_then ?_
   refine wpc_cond rfl (fun hc33 => ?_) (fun hc33 => ?_)
   ·
    simp only [beq_iff_eq] at hc33
    refine wpc_seq ?_
    refine wpc_region ?_
    refine wpl_q (q_build (cs := St.z.c nl nl nl) rfl built_st0) rfl ?_
    refine wpl_q (q_pure rfl) rfl ?_
    refine wpl_t0 (t_stA Try.ti27 rfl rfl (St.c_length (by first | exact hs.len | rfl)) (by first | exact St.c_one SV.nil SV.nil SV.nil) (by first | exact St.c_length hs.len | exact St.c_length rfl)) (fun _ => ?_)
    refine wpl_q (q_pure rfl) rfl ?_
    refine wpl_nil ?_
    refine ex_then ?_
    refine wpc_ret ?_
    refine ex_then_ret ?_
    refine retv3 (.inl rfl) rfl (rv_tmp rfl) (rv_agg Try.underlying27 rfl Try.ti27 rfl (fun w h => h.atB) (St.c_length (by first | rfl | exact hs.len))) (rv_tmp rfl) ?_
    exact fun w h => ⟨(nl, nl, nl), by rw [tk2 hc17 hej hc33]; exact zSV, by rw [tk2 hc17 hej hc33]; first | done | rfl, h.below, by rw [tk2 hc17 hej hc33]; exact (zRows h).made SubC.h .nil⟩
   ·
    simp only [beq_eq_false_iff_ne, ne_eq] at hc33
    refine wpc_skip ?_
    refine ex_then ?_
    refine wpc_seq ?_
    refine wpc_seq ?_
    refine wpc_draw 13 (by kernel_rfl) (fun _ h => h.drew) ?_
    refine wpd_p 0 rfl (by kernel_rfl) trivial (q_field Try.underlying27 rfl Try.ti25 rfl rfl _ rfl) rfl sk0 ?_
    refine wpd_q 1 rfl (by kernel_rfl) trivial (q_ld Try.underlying25 rfl rfl (by first | exact St.c_b hs.len | exact St.c_u hs.len | exact St.c_d hs.len | exact St.c_p hs.len | exact St.c_k hs.len)) rfl (fun _ h => h) ?_
    refine wpd_p 2 rfl (by kernel_rfl) trivial (q_pure rfl) rfl sk0 ?_
    refine wpd_p 3 rfl (by kernel_rfl) trivial (q_idxW Try.underlying25 Try.ti66 rfl rfl (by first | assumption | exact SV.nil | exact SV.slv (by assumption) (by omega) (by omega) | exact arv_sv (by first | decide | (simp only [maxLen]; omega))) (by first | omega | (simp only [maxLen]; omega) | (simp only [List.length_append, List.length_cons, List.length_nil, List.length_take, maxLen]; omega) | (simp only [List.length_append, List.length_cons, List.length_nil, List.length_take]; omega))) rfl sk0 ?_
    refine wpd_p 4 rfl (by kernel_rfl) trivial (q_fieldPo 2 Try.underlying66 rfl Try.ti3 rfl rfl rfl) rfl sk0 ?_
    refine wpd_q 5 rfl (by kernel_rfl) trivial (q_ldWF Try.underlying3 rfl rfl (fun w h => h.seen_old hs.k) (kcs_get hjl rfl)) rfl (fun _ h => h) ?_
    refine wpd_p 6 rfl (by kernel_rfl) trivial (q_field Try.underlying27 rfl Try.ti25 rfl rfl _ rfl) rfl sk0 ?_
    refine wpd_q 7 rfl (by kernel_rfl) trivial (q_ld Try.underlying25 rfl rfl (by first | exact St.c_b hs.len | exact St.c_u hs.len | exact St.c_d hs.len | exact St.c_p hs.len | exact St.c_k hs.len)) rfl (fun _ h => h) ?_
    refine wpd_p 8 rfl (by kernel_rfl) trivial (q_pure rfl) rfl sk0 ?_
    refine wpd_p 9 rfl (by kernel_rfl) trivial (q_idxW Try.underlying25 Try.ti66 rfl rfl (by first | assumption | exact SV.nil | exact SV.slv (by assumption) (by omega) (by omega) | exact arv_sv (by first | decide | (simp only [maxLen]; omega))) (by first | omega | (simp only [maxLen]; omega) | (simp only [List.length_append, List.length_cons, List.length_nil, List.length_take, maxLen]; omega) | (simp only [List.length_append, List.length_cons, List.length_nil, List.length_take]; omega))) rfl sk0 ?_
    refine wpd_p 10 rfl (by kernel_rfl) trivial (q_fieldPo 3 Try.underlying66 rfl Try.ti3 rfl rfl rfl) rfl sk0 ?_
    refine wpd_q 11 rfl (by kernel_rfl) trivial (q_ldWF Try.underlying3 rfl rfl (fun w h => h.seen_old hs.k) (kcs_get hjl rfl)) rfl (fun _ h => h) ?_
    refine wpd_p 12 rfl (by kernel_rfl) trivial (q_pure rfl) rfl sk0 ?_
    refine wpd_done (by kernel_rfl) ?_
    refine ex_then ?_
    refine wpc_cond rfl (fun hc47 => ?_) (fun hc47 => ?_)
    ·
     simp only [beq_iff_eq] at hc47
     refine wpc_seq ?_
     refine wpc_region ?_
     refine wpl_q (q_build (cs := St.z.c nl nl nl) rfl built_st0) rfl ?_
     refine wpl_q (q_pure rfl) rfl ?_
     refine wpl_t0 (t_stA Try.ti27 rfl rfl (St.c_length (by first | exact hs.len | rfl)) (by first | exact St.c_one SV.nil SV.nil SV.nil) (by first | exact St.c_length hs.len | exact St.c_length rfl)) (fun _ => ?_)
     refine wpl_q (q_pure rfl) rfl ?_
     refine wpl_nil ?_
     refine ex_then ?_
     refine wpc_ret ?_
     refine ex_then_ret ?_
     refine retv3 (.inl rfl) rfl (rv_tmp rfl) (rv_agg Try.underlying27 rfl Try.ti27 rfl (fun w h => h.atB) (St.c_length (by first | rfl | exact hs.len))) (rv_tmp rfl) ?_
     exact fun w h => ⟨(nl, nl, nl), by rw [tk3 hc17 hej hc33 hc47]; exact zSV, by rw [tk3 hc17 hej hc33 hc47]; first | done | rfl, h.below, by rw [tk3 hc17 hej hc33 hc47]; exact (zRows h).made SubC.h .nil⟩
    ·
     simp only [beq_eq_false_iff_ne, ne_eq] at hc47
     have htk := tk4 hc17 hej hc33 hc47
     refine wpc_skip ?_
     refine ex_then ?_
     refine wpc_seq ?_
     refine wpc_region ?_
     refine wpl_q (q_ldN Try.underlying27 rfl Try.ti27 rfl (St.c_length hs.len)) rfl ?_
     refine wpl_tp (t_callP3 Try.hb10 rfl fun w h => refTwin s dv pv kv w (by first | exact StS.old h hs | exact ⟨hs.len, h.seenV, h.seenV, h.seenV, by omega, by omega, by omega⟩)) rfl (fun b50 p50 => ?_)
     have q3 : SV b50.2.2 s.ks.length := p50.2.2
     refine wpl_t (t_alloc Try.ti27 (St.z.c nl nl nl) rfl) rfl (fun b9 => ?_)
     refine wpl_t0 (t_stA Try.ti27 rfl rfl (St.c_length (by first | exact hs.len | rfl)) (by first | exact St.c_one SV.nil SV.nil SV.nil | exact St.c_one p50.1 p50.2.1 p50.2.2) (by first | exact St.c_length hs.len | exact St.c_length rfl)) (fun _ => ?_)
     refine wpl_nil ?_
     refine ex_then ?_
     refine wpc_seq ?_
     refine wpc_region ?_
     refine wpl_q (q_field Try.underlying27 rfl Try.ti25 rfl rfl _ rfl) rfl ?_
     refine wpl_q (q_ld Try.underlying25 rfl rfl (by first | exact St.c_b hs.len | exact St.c_u hs.len | exact St.c_d hs.len | exact St.c_p hs.len | exact St.c_k hs.len)) rfl ?_
     refine wpl_q (q_pure rfl) rfl ?_
     refine wpl_q (q_idxW Try.underlying25 Try.ti66 rfl rfl (by first | assumption | exact SV.nil | exact SV.slv (by assumption) (by omega) (by omega) | exact arv_sv (by first | decide | (simp only [maxLen]; omega))) (by first | omega | (simp only [maxLen]; omega) | (simp only [List.length_append, List.length_cons, List.length_nil, List.length_take, maxLen]; omega) | (simp only [List.length_append, List.length_cons, List.length_nil, List.length_take]; omega))) rfl ?_
     refine wpl_q (q_fieldPo 2 Try.underlying66 rfl Try.ti3 rfl rfl rfl) rfl ?_
     refine wpl_q (q_ldWF Try.underlying3 rfl rfl (fun w h => (show Seen w.cell? b50.2.2 s.ks.length 6 (kcs s.ks) from h.seenV)) (kcs_get hjl rfl)) rfl ?_
     refine wpl_re 56 rfl (congrArg (Value.int .i64) hN) ?_
     refine wpl_q (q_addN (b := 1) rfl rfl (by first | omega | (simp only [maxLen]; omega) | (simp only [List.length_append, List.length_cons, List.length_nil, List.length_take, maxLen]; omega) | (simp only [List.length_append, List.length_cons, List.length_nil, List.length_take]; omega))) rfl ?_
     refine wpl_q (q_idxW Try.underlying25 Try.ti66 rfl rfl (by first | assumption | exact SV.nil | exact SV.slv (by assumption) (by omega) (by omega) | exact arv_sv (by first | decide | (simp only [maxLen]; omega))) (by first | omega | (simp only [maxLen]; omega) | (simp only [List.length_append, List.length_cons, List.length_nil, List.length_take, maxLen]; omega) | (simp only [List.length_append, List.length_cons, List.length_nil, List.length_take]; omega))) rfl ?_
     refine wpl_q (q_fieldPo 2 Try.underlying66 rfl Try.ti3 rfl rfl rfl) rfl ?_
     refine wpl_t0 (t_stWF Try.ti3 rfl rfl rfl (by omega) (kcs (s.ks.set j { (s.ks.getD j KE.z) with nx := ((((s.ks.getD j KE.z).nx.toNat + 1 : Nat)) : Int) })) (kcs_set _ hjl rfl (by decide))) (fun _ => ?_)
     refine wpl_nil ?_
     refine ex_then ?_
     refine wpc_seq ?_
     refine wpc_draw 8 (by kernel_rfl) (fun _ h => h.drew) ?_
     refine wpd_p 0 rfl (by kernel_rfl) trivial (q_field Try.underlying27 rfl Try.ti25 rfl rfl _ rfl) rfl sk0 ?_
     refine wpd_q 1 rfl (by kernel_rfl) trivial (q_ld Try.underlying25 rfl rfl (by first | exact St.c_b hs.len | exact St.c_u hs.len | exact St.c_d hs.len | exact St.c_p hs.len | exact St.c_k hs.len)) rfl (fun _ h => h) ?_
     refine wpd_p 2 rfl (by kernel_rfl) trivial (q_pure rfl) rfl sk0 ?_
     refine wpd_p 3 rfl (by kernel_rfl) trivial (q_idxW Try.underlying25 Try.ti66 rfl rfl (by first | assumption | exact SV.nil | exact SV.slv (by assumption) (by omega) (by omega) | exact arv_sv (by first | decide | (simp only [maxLen]; omega))) (by first | omega | (simp only [maxLen]; omega) | (simp only [List.length_append, List.length_cons, List.length_nil, List.length_take, maxLen]; omega) | (simp only [List.length_append, List.length_cons, List.length_nil, List.length_take]; omega))) rfl sk0 ?_
     refine wpd_p 4 rfl (by kernel_rfl) trivial (q_fieldPo 2 Try.underlying66 rfl Try.ti3 rfl rfl rfl) rfl sk0 ?_
     refine wpd_q 5 rfl (by kernel_rfl) trivial (q_ldWF Try.underlying3 rfl rfl (fun w h => h.seen_old hs.k) (kcs_get hjl rfl)) rfl (fun _ h => h) ?_
     refine wpd_q 6 rfl (by kernel_rfl) trivial (q_ldN Try.underlying27 rfl Try.ti27 rfl (St.c_length hs.len)) rfl (fun _ h => h) ?_
     refine wpd_p 7 rfl (by kernel_rfl) trivial (q_pure rfl) rfl sk0 ?_
     refine wpd_t0 8 rfl (by kernel_rfl) trivial (t_stA Try.ti27 rfl rfl (St.c_length (by first | exact hs.len | rfl)) (by first | exact St.c_one SV.nil SV.nil SV.nil | exact St.c_one p50.1 p50.2.1 p50.2.2) (by first | exact St.c_length hs.len | exact St.c_length rfl)) (fun _ => skk rfl) (fun _ => ?_)
     refine wpd_p 9 rfl (by kernel_rfl) trivial (q_pure rfl) rfl (skk rfl) ?_
     refine wpd_done (by kernel_rfl) ?_
     refine ex_then ?_
     refine wpc_ret ?_
     refine retv3 (.inl rfl) rfl (rv_tmp rfl) (rv_agg Try.underlying27 rfl Try.ti27 rfl (fun w h => h.atB) (St.c_length (by first | rfl | exact hs.len))) (rv_tmp rfl) ?_
     exact fun w h => ⟨b50, by rw [htk]; exact ⟨p50.1, p50.2.1, by show SV b50.2.2 (s.ks.set j _).length; rw [List.length_set]; exact q3⟩, by rw [htk]; rfl, h.below, by rw [htk]; exact (kRow_setR (show Mem _ _ [dRow b50.1 s.dk, dRow b50.2.1 s.pd, .row b50.2.2 s.ks.length 66 6 (kcs (s.ks.set j { (s.ks.getD j KE.z) with nx := ((((s.ks.getD j KE.z).nx.toNat + 1 : Nat)) : Int) }))] [] _ from h.sub SubC.h .nil)).made (Sub.refl _) .nil⟩

end Go.Proofs.Ytoaeklbenmlooaa
