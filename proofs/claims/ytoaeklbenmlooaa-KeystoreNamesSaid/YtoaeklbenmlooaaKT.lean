/- The reference reserves and drops keys. -/
import Derived.Test.YtoaeklbenmlooaaKS
namespace Go.Proofs.Ytoaeklbenmlooaa
set_option linter.unusedSimpArgs false
set_option linter.unusedVariables false
open Go Go.PL Go.RowKit

theorem rs2r {s : St} {id : UInt32} {j : Nat} (h : (thereF s id).2 = 0) (hj : placeF s.ks id = ((j : Nat) : Int)) (h2 : (s.ks.getD j KE.z).ak = ((2 ^ (s.ks.getD j KE.z).ht.toNat : Nat) : Int)) : reserveF s id = (St.z, 36) := rs2 h hj (by rw [Nat.one_mul]; exact h2)
theorem rs3r {s : St} {id : UInt32} {j : Nat} (h : (thereF s id).2 = 0) (hj : placeF s.ks id = ((j : Nat) : Int)) (h2 : ¬ (s.ks.getD j KE.z).ak = ((2 ^ (s.ks.getD j KE.z).ht.toNat : Nat) : Int)) :
    reserveF s id = writeF (setK s j { s.ks.getD j KE.z with ak := (((min (2 ^ (s.ks.getD j KE.z).ht.toNat) ((s.ks.getD j KE.z).ak.toNat + s.bt.toNat)) : Nat) : Int) }) (recB ⟨2, of8 ((s.ks.getD j KE.z).ht.toNat : Nat), of16 ((min (2 ^ (s.ks.getD j KE.z).ht.toNat) ((s.ks.getD j KE.z).ak.toNat + s.bt.toNat) : Nat) : Int), id⟩) := by
  rw [rs3 h hj (by rw [Nat.one_mul]; exact h2), Nat.one_mul, Nat.min_comm]

set_option maxRecDepth 100000 in
theorem refDrop (s : St) (dv pv kv : Value) (id : UInt32) (w : World) (hs : StS w.cell? s dv pv kv)  :
    Calls Try.prog 26 [.agg (s.c dv pv kv).toArray, .int .u32 id.toNat].toArray w (GivesP w (fun x : V3 => (dropF s id).1.sv x) (fun x => .tuple #[stV (dropF s id).1 x, .int .i64 (dropF s id).2]) (fun x => [dRow x.1 (dropF s id).1.dk, dRow x.2.1 (dropF s id).1.pd, kRow x.2.2 (dropF s id).1.ks]) (fun _ => [])) := by
  have sdv := hs.d.sv
  have spv := hs.p.sv
  have skv := hs.k.sv
  have l1hs := hs.ld
  have l2hs := hs.lp
  have l3hs := hs.lk
  refine enter (m := 44) (R := Mem w [] [] []) Try.func26 rfl rfl (Nat.le_of_ble_eq_true rfl) (Mem.start w) ?_
  refine wpc_seq ?_
  refine wpc_region ?_
  refine wpl_t (t_box rfl (s.c dv pv kv) rfl) rfl (fun b2 => ?_)
  refine wpl_t (t_alloc Try.ti27 (St.z.c nl nl nl) rfl) rfl (fun b4 => ?_)
  refine wpl_q (q_pure rfl) rfl ?_
  refine wpl_nil ?_
  refine ex_then ?_
  refine wpc_seq ?_
  refine wpc_region ?_
  refine wpl_q (q_ldN Try.underlying27 rfl Try.ti27 rfl (St.c_length hs.len)) rfl ?_
  refine wpl_q (q_pure rfl) rfl ?_
  refine wpl_t (t_pur Try.hb46 rfl fun w h => refThere _ _ _ _ _ w (by first | exact StS.old h hs | exact ⟨hs.len, h.seenV, h.seenV, h.seenV, by omega, by omega, by omega⟩)) rfl (fun b12 => ?_)
  refine wpl_q (q_pure rfl) rfl ?_
  refine wpl_q (q_pure rfl) rfl ?_
  refine wpl_q (q_pure rfl) rfl ?_
  refine wpl_q (q_pure rfl) rfl ?_
  refine wpl_q (q_pure rfl) rfl ?_
  refine wpl_nil ?_
  refine ex_then ?_
  refine wpc_seq ?_
  refine wpc_seq ?_
  refine wpc_region ?_
  refine wpl_q (q_pure rfl) rfl ?_
  refine wpl_q (q_pure rfl) rfl ?_
  refine wpl_nil ?_
  refine ex_then ?_
  refine wpc_cond rfl (fun hc16 => ?_) (fun hc16 => ?_)
  ·
   simp only [bne_iff_ne, ne_eq] at hc16
   refine wpc_seq ?_
   refine wpc_region ?_
   refine wpl_q (q_build (cs := St.z.c nl nl nl) rfl built_st0) rfl ?_
   refine wpl_q (q_pure rfl) rfl ?_
   refine wpl_t0 (t_stA Try.ti27 rfl rfl (St.c_length (by first | exact hs.len | rfl)) (by first | exact St.c_one SV.nil SV.nil SV.nil) (by first | exact St.c_length hs.len | exact St.c_length rfl)) (fun _ => ?_)
   refine wpl_q (q_pure rfl) rfl ?_
   refine wpl_nil ?_
   refine ex_then ?_
   refine wpc_ret ?_
   refine ex_then_ret ?_
   refine retv2 (.inl rfl) rfl (rv_agg Try.underlying27 rfl Try.ti27 rfl (fun w h => h.atB) (St.c_length (by first | rfl | exact writeF_len hs.len))) (rv_tmp rfl) ?_
   exact fun w h => ⟨(nl, nl, nl), by rw [dr1 hc16]; exact zSV, by rw [dr1 hc16]; first | done | rfl, h.below, by rw [dr1 hc16]; exact (zRows h).made SubC.h .nil⟩
  ·
   simp only [bne_eq_false_iff_eq] at hc16
   obtain ⟨hup, j, hjl, hej, hth⟩ := there_ok hc16
   obtain ⟨k0, k1, k2, k3⟩ := key_ok hup hjl
   have hk8 := keys_le hup
   have hA : (s.ks.getD j KE.z).ak = (((s.ks.getD j KE.z).ak.toNat : Nat) : Int) := (Int.toNat_of_nonneg k2).symm
   have hH : (s.ks.getD j KE.z).ht = (((s.ks.getD j KE.z).ht.toNat : Nat) : Int) := (Int.toNat_of_nonneg k0).symm
   have hb1 := (upF_ok hup).1.1
   have hb2 := (upF_ok hup).1.2.1
   have hB : s.bt = ((s.bt.toNat : Nat) : Int) := (Int.toNat_of_nonneg (by omega)).symm
   have hl4 : (s.ks.getD j KE.z).ht.toNat ≤ 4 := by omega
   have hpw := pow_le hl4
   have hkl := kcs_length s.ks
   refine wpc_re 6 rfl (congrArg (Value.int .i64) (show (thereF s id).1 = ((j : Nat) : Int) by rw [hth])) ?_
   have hcr := dr3 hc16 hej
   refine wpc_skip ?_
   refine ex_then ?_
   refine wpc_seq ?_
   refine wpc_region ?_
   refine wpl_q (q_ldN Try.underlying27 rfl Try.ti27 rfl (St.c_length hs.len)) rfl ?_
   refine wpl_tp (t_callP3 Try.hb10 rfl fun w h => refTwin s dv pv kv w (by first | exact StS.old h hs | exact ⟨hs.len, h.seenV, h.seenV, h.seenV, by omega, by omega, by omega⟩)) rfl (fun b20 p20 => ?_)
   have q3 : SV b20.2.2 s.ks.length := p20.2.2
   refine wpl_t (t_alloc Try.ti27 (St.z.c nl nl nl) rfl) rfl (fun b8 => ?_)
   refine wpl_t0 (t_stA Try.ti27 rfl rfl (St.c_length (by first | exact hs.len | rfl)) (by first | exact St.c_one SV.nil SV.nil SV.nil | exact St.c_one p20.1 p20.2.1 p20.2.2) (by first | exact St.c_length hs.len | exact St.c_length rfl)) (fun _ => ?_)
   refine wpl_nil ?_
   refine ex_then ?_
   refine wpc_seq ?_
   refine wpc_region ?_
   refine wpl_q (q_field Try.underlying27 rfl Try.ti25 rfl rfl _ rfl) rfl ?_
   refine wpl_q (q_ld Try.underlying25 rfl rfl (by first | exact St.c_b hs.len | exact St.c_u hs.len | exact St.c_d hs.len | exact St.c_p hs.len | exact St.c_k hs.len)) rfl ?_
   refine wpl_q (q_pure rfl) rfl ?_
   refine wpl_q (q_idxW Try.underlying25 Try.ti66 rfl rfl (by first | assumption | exact SV.nil | exact SV.slv (by assumption) (by omega) (by omega) | exact arv_sv (by first | decide | (simp only [maxLen]; omega))) (by first | omega | (simp only [maxLen]; omega) | (simp only [List.length_append, List.length_cons, List.length_nil, List.length_take, maxLen]; omega) | (simp only [List.length_append, List.length_cons, List.length_nil, List.length_take]; omega))) rfl ?_
   refine wpl_q (q_fieldPo 5 Try.underlying66 rfl Try.ti4 rfl rfl rfl) rfl ?_
   refine wpl_t0 (t_stWF Try.ti4 rfl rfl rfl (by omega) (kcs (s.ks.set j { (s.ks.getD j KE.z) with dr := true })) (kcs_set _ hjl rfl (by decide))) (fun _ => ?_)
   refine wpl_nil ?_
   refine ex_then ?_
   refine wpc_seq ?_
   refine wpc_draw 15 (by kernel_rfl) (fun _ h => h.drew) ?_
   refine wpd_q 0 rfl (by kernel_rfl) trivial (q_ldN Try.underlying27 rfl Try.ti27 rfl (St.c_length hs.len)) rfl (fun _ h => h) ?_
   refine wpd_p 1 rfl (by kernel_rfl) trivial (q_field Try.underlying27 rfl Try.ti25 rfl rfl _ rfl) rfl sk0 ?_
   refine wpd_qB 2 [4, 5, 6, 14, 15] rfl (by kernel_rfl) trivial (q_ld Try.underlying25 rfl rfl (by first | exact St.c_b hs.len | exact St.c_u hs.len | exact St.c_d hs.len | exact St.c_p hs.len | exact St.c_k hs.len)) rfl (fun _ h => h) ?_
   refine wpd_p 3 rfl (by kernel_rfl) trivial (q_pure rfl) rfl sk0 ?_
   refine wpd_p 4 rfl (by kernel_rfl) trivial (q_idxW Try.underlying25 Try.ti66 rfl rfl (by first | assumption | exact SV.nil | exact SV.slv (by assumption) (by omega) (by omega) | exact arv_sv (by first | decide | (simp only [maxLen]; omega))) (by first | omega | (simp only [maxLen]; omega) | (simp only [List.length_append, List.length_cons, List.length_nil, List.length_take, maxLen]; omega) | (simp only [List.length_append, List.length_cons, List.length_nil, List.length_take]; omega))) rfl sk0 ?_
   refine wpd_p 5 rfl (by kernel_rfl) trivial (q_fieldPo 1 Try.underlying66 rfl Try.ti3 rfl rfl rfl) rfl sk0 ?_
   refine wpd_qB 6 [14, 15] rfl (by kernel_rfl) trivial (q_ldWF Try.underlying3 rfl rfl (fun w h => h.seen_old hs.k) (kcs_get hjl rfl)) rfl (fun _ h => h) ?_
   refine wpd_re 32 rfl (congrArg (Value.int .i64) hH) ?_
   refine wpd_p 7 rfl (by kernel_rfl) trivial (q_field Try.underlying27 rfl Try.ti25 rfl rfl _ rfl) rfl sk0 ?_
   refine wpd_qB 8 [10, 11, 12, 14, 15] rfl (by kernel_rfl) trivial (q_ld Try.underlying25 rfl rfl (by first | exact St.c_b hs.len | exact St.c_u hs.len | exact St.c_d hs.len | exact St.c_p hs.len | exact St.c_k hs.len)) rfl (fun _ h => h) ?_
   refine wpd_p 9 rfl (by kernel_rfl) trivial (q_pure rfl) rfl sk0 ?_
   refine wpd_p 10 rfl (by kernel_rfl) trivial (q_idxW Try.underlying25 Try.ti66 rfl rfl (by first | assumption | exact SV.nil | exact SV.slv (by assumption) (by omega) (by omega) | exact arv_sv (by first | decide | (simp only [maxLen]; omega))) (by first | omega | (simp only [maxLen]; omega) | (simp only [List.length_append, List.length_cons, List.length_nil, List.length_take, maxLen]; omega) | (simp only [List.length_append, List.length_cons, List.length_nil, List.length_take]; omega))) rfl sk0 ?_
   refine wpd_p 11 rfl (by kernel_rfl) trivial (q_fieldPo 4 Try.underlying66 rfl Try.ti3 rfl rfl rfl) rfl sk0 ?_
   refine wpd_qB 12 [14, 15] rfl (by kernel_rfl) trivial (q_ldWF Try.underlying3 rfl rfl (fun w h => h.seen_old hs.k) (kcs_get hjl rfl)) rfl (fun _ h => h) ?_
   refine wpd_re 38 rfl (congrArg (Value.int .i64) hA) ?_
   refine wpd_p 13 rfl (by kernel_rfl) trivial (q_pure rfl) rfl sk0 ?_
   refine wpd_tp 14 rfl (by kernel_rfl) trivial (t_callP1 Try.hb54 rfl fun w h => refRecord 3 (s.ks.getD j KE.z).ht.toNat (s.ks.getD j KE.z).ak.toNat id w (by omega) (by omega)) rfl (fun _ => (fun w h => .inr (h.sub SubC.h SubC.h))) (fun b40 p40 => ?_)
   refine wpd_tp 15 rfl (by kernel_rfl) trivial (t_callFp [dRow b40 (recB (Rec.mk 3 (of8 (((s.ks.getD j KE.z).ht.toNat : Nat) : Int)) (of16 (((s.ks.getD j KE.z).ak.toNat : Nat) : Int)) id)), .blk b8 27 (s.c b20.1 b20.2.1 b20.2.2), dRow b20.1 s.dk, dRow b20.2.1 s.pd, kRow b20.2.2 (s.ks.set j { (s.ks.getD j KE.z) with dr := true }), .blk b4 27 (St.z.c nl nl nl), .blk b2 27 (s.c dv pv kv)] [dRow b40 (recB (Rec.mk 3 (of8 (((s.ks.getD j KE.z).ht.toNat : Nat) : Int)) (of16 (((s.ks.getD j KE.z).ak.toNat : Nat) : Int)) id)), dRow b20.1 s.dk, dRow b20.2.1 s.pd, kRow b20.2.2 (s.ks.set j { (s.ks.getD j KE.z) with dr := true })] [.blk b8 27 (s.c b20.1 b20.2.1 b20.2.2), .blk b4 27 (St.z.c nl nl nl), .blk b2 27 (s.c dv pv kv)] (fun x => [dRow x.1 (writeF (setK s j { (s.ks.getD j KE.z) with dr := true }) (recB (Rec.mk 3 (of8 (((s.ks.getD j KE.z).ht.toNat : Nat) : Int)) (of16 (((s.ks.getD j KE.z).ak.toNat : Nat) : Int)) id))).1.dk, dRow x.2.1 (writeF (setK s j { (s.ks.getD j KE.z) with dr := true }) (recB (Rec.mk 3 (of8 (((s.ks.getD j KE.z).ht.toNat : Nat) : Int)) (of16 (((s.ks.getD j KE.z).ak.toNat : Nat) : Int)) id))).1.pd, kRow x.2.2 (writeF (setK s j { (s.ks.getD j KE.z) with dr := true }) (recB (Rec.mk 3 (of8 (((s.ks.getD j KE.z).ht.toNat : Nat) : Int)) (of16 (((s.ks.getD j KE.z).ak.toNat : Nat) : Int)) id))).1.ks, .blk b8 27 (s.c b20.1 b20.2.1 b20.2.2), .blk b4 27 (St.z.c nl nl nl), .blk b2 27 (s.c dv pv kv)]) (by rw [kRow_set, recRow b40 _ _ (recN_of (by omega) (by omega) id)]; exact (by repeat (first | exact Sub.nil | exact Sub.refl _ | with_reducible refine Sub.keep ?_ | refine Sub.drop ?_))) perm1 (fun _ => rfl) Try.hb53 rfl fun w h h2 => refWrite b40 (recB (Rec.mk 3 (of8 (((s.ks.getD j KE.z).ht.toNat : Nat) : Int)) (of16 (((s.ks.getD j KE.z).ak.toNat : Nat) : Int)) id)) (setK s j { (s.ks.getD j KE.z) with dr := true }) b20.1 b20.2.1 b20.2.2 w h2 hs.len ⟨p20.1, p20.2.1, by show SV b20.2.2 (s.ks.set j { (s.ks.getD j KE.z) with dr := true }).length; rw [List.length_set]; exact p20.2.2⟩ hs.ld hs.lp p40 (by rw [recB_length]; decide)) rfl (fun _ => skk rfl) (fun b41 p41 => ?_)
   refine wpd_p 16 rfl (by kernel_rfl) trivial (q_pure rfl) rfl (skk rfl) ?_
   refine wpd_p 17 rfl (by kernel_rfl) trivial (q_pure rfl) rfl (skk rfl) ?_
   refine wpd_t0 18 rfl (by kernel_rfl) trivial (t_stA Try.ti27 rfl rfl (St.c_length (writeF_len hs.len)) (by first | exact St.c_one SV.nil SV.nil SV.nil | exact St.c_one p41.1 p41.2.1 p41.2.2) (by first | exact St.c_length hs.len | exact St.c_length rfl)) (fun _ => skk rfl) (fun _ => ?_)
   refine wpd_p 19 rfl (by kernel_rfl) trivial (q_pure rfl) rfl (skk rfl) ?_
   refine wpd_done (by kernel_rfl) ?_
   refine ex_then ?_
   refine wpc_ret ?_
   refine retv2 (.inl rfl) rfl (rv_agg Try.underlying27 rfl Try.ti27 rfl (fun w h => h.atB) (St.c_length (by first | rfl | exact writeF_len hs.len))) (rv_tmp rfl) ?_
   exact fun w h => ⟨b41, by rw [hcr]; exact p41, by rw [hcr]; rfl, h.below, by rw [hcr]; exact h.made SubC.h .nil⟩

set_option maxRecDepth 100000 in
theorem refReserve (s : St) (dv pv kv : Value) (id : UInt32) (w : World) (hs : StS w.cell? s dv pv kv)  :
    Calls Try.prog 24 [.agg (s.c dv pv kv).toArray, .int .u32 id.toNat].toArray w (GivesP w (fun x : V3 => (reserveF s id).1.sv x) (fun x => .tuple #[stV (reserveF s id).1 x, .int .i64 (reserveF s id).2]) (fun x => [dRow x.1 (reserveF s id).1.dk, dRow x.2.1 (reserveF s id).1.pd, kRow x.2.2 (reserveF s id).1.ks]) (fun _ => [])) := by
  have sdv := hs.d.sv
  have spv := hs.p.sv
  have skv := hs.k.sv
  have l1hs := hs.ld
  have l2hs := hs.lp
  have l3hs := hs.lk
  refine enter (m := 72) (R := Mem w [] [] []) Try.func24 rfl rfl (Nat.le_of_ble_eq_true rfl) (Mem.start w) ?_
  refine wpc_seq ?_
  refine wpc_region ?_
  refine wpl_t (t_box rfl (s.c dv pv kv) rfl) rfl (fun b2 => ?_)
  refine wpl_t (t_alloc Try.ti27 (St.z.c nl nl nl) rfl) rfl (fun b4 => ?_)
  refine wpl_q (q_pure rfl) rfl ?_
  refine wpl_nil ?_
  refine ex_then ?_
  refine wpc_seq ?_
  refine wpc_region ?_
  refine wpl_q (q_ldN Try.underlying27 rfl Try.ti27 rfl (St.c_length hs.len)) rfl ?_
  refine wpl_q (q_pure rfl) rfl ?_
  refine wpl_t (t_pur Try.hb46 rfl fun w h => refThere _ _ _ _ _ w (by first | exact StS.old h hs | exact ⟨hs.len, h.seenV, h.seenV, h.seenV, by omega, by omega, by omega⟩)) rfl (fun b13 => ?_)
  refine wpl_q (q_pure rfl) rfl ?_
  refine wpl_q (q_pure rfl) rfl ?_
  refine wpl_q (q_pure rfl) rfl ?_
  refine wpl_q (q_pure rfl) rfl ?_
  refine wpl_q (q_pure rfl) rfl ?_
  refine wpl_nil ?_
  refine ex_then ?_
  refine wpc_seq ?_
  refine wpc_seq ?_
  refine wpc_region ?_
  refine wpl_q (q_pure rfl) rfl ?_
  refine wpl_q (q_pure rfl) rfl ?_
  refine wpl_nil ?_
  refine ex_then ?_
  refine wpc_cond rfl (fun hc17 => ?_) (fun hc17 => ?_)
  ·
   simp only [bne_iff_ne, ne_eq] at hc17
   refine wpc_seq ?_
   refine wpc_region ?_
   refine wpl_q (q_build (cs := St.z.c nl nl nl) rfl built_st0) rfl ?_
   refine wpl_q (q_pure rfl) rfl ?_
   refine wpl_t0 (t_stA Try.ti27 rfl rfl (St.c_length (by first | exact hs.len | rfl)) (by first | exact St.c_one SV.nil SV.nil SV.nil) (by first | exact St.c_length hs.len | exact St.c_length rfl)) (fun _ => ?_)
   refine wpl_q (q_pure rfl) rfl ?_
   refine wpl_nil ?_
   refine ex_then ?_
   refine wpc_ret ?_
   refine ex_then_ret ?_
   refine retv2 (.inl rfl) rfl (rv_agg Try.underlying27 rfl Try.ti27 rfl (fun w h => h.atB) (St.c_length (by first | rfl | exact writeF_len hs.len))) (rv_tmp rfl) ?_
   exact fun w h => ⟨(nl, nl, nl), by rw [rs1 hc17]; exact zSV, by rw [rs1 hc17]; first | done | rfl, h.below, by rw [rs1 hc17]; exact (zRows h).made SubC.h .nil⟩
  ·
   simp only [bne_eq_false_iff_eq] at hc17
   obtain ⟨hup, j, hjl, hej, hth⟩ := there_ok hc17
   obtain ⟨k0, k1, k2, k3⟩ := key_ok hup hjl
   have hk8 := keys_le hup
   have hA : (s.ks.getD j KE.z).ak = (((s.ks.getD j KE.z).ak.toNat : Nat) : Int) := (Int.toNat_of_nonneg k2).symm
   have hH : (s.ks.getD j KE.z).ht = (((s.ks.getD j KE.z).ht.toNat : Nat) : Int) := (Int.toNat_of_nonneg k0).symm
   have hb1 := (upF_ok hup).1.1
   have hb2 := (upF_ok hup).1.2.1
   have hB : s.bt = ((s.bt.toNat : Nat) : Int) := (Int.toNat_of_nonneg (by omega)).symm
   have hl4 : (s.ks.getD j KE.z).ht.toNat ≤ 4 := by omega
   have hpw := pow_le hl4
   have hkl := kcs_length s.ks
   refine wpc_re 6 rfl (congrArg (Value.int .i64) (show (thereF s id).1 = ((j : Nat) : Int) by rw [hth])) ?_
   refine wpc_skip ?_
   refine ex_then ?_
   refine wpc_seq ?_
   refine wpc_region ?_
   refine wpl_q (q_field Try.underlying27 rfl Try.ti25 rfl rfl _ rfl) rfl ?_
   refine wpl_q (q_ld Try.underlying25 rfl rfl (by first | exact St.c_b hs.len | exact St.c_u hs.len | exact St.c_d hs.len | exact St.c_p hs.len | exact St.c_k hs.len)) rfl ?_
   refine wpl_q (q_pure rfl) rfl ?_
   refine wpl_q (q_idxW Try.underlying25 Try.ti66 rfl rfl (by first | assumption | exact SV.nil | exact SV.slv (by assumption) (by omega) (by omega) | exact arv_sv (by first | decide | (simp only [maxLen]; omega))) (by first | omega | (simp only [maxLen]; omega) | (simp only [List.length_append, List.length_cons, List.length_nil, List.length_take, maxLen]; omega) | (simp only [List.length_append, List.length_cons, List.length_nil, List.length_take]; omega))) rfl ?_
   refine wpl_q (q_fieldPo 1 Try.underlying66 rfl Try.ti3 rfl rfl rfl) rfl ?_
   refine wpl_q (q_ldWF Try.underlying3 rfl rfl (fun w h => h.seen_old hs.k) (kcs_get hjl rfl)) rfl ?_
   refine wpl_re 25 rfl (congrArg (Value.int .i64) hH) ?_
   refine wpl_t (t_pur Try.hb47 rfl fun w h => refAll18 _ w (by omega)) rfl (fun b26 => ?_)
   refine wpl_q (q_pure rfl) rfl ?_
   refine wpl_nil ?_
   refine ex_then ?_
   refine wpc_seq ?_
   refine wpc_seq ?_
   refine wpc_region ?_
   refine wpl_q (q_field Try.underlying27 rfl Try.ti25 rfl rfl _ rfl) rfl ?_
   refine wpl_q (q_ld Try.underlying25 rfl rfl (by first | exact St.c_b hs.len | exact St.c_u hs.len | exact St.c_d hs.len | exact St.c_p hs.len | exact St.c_k hs.len)) rfl ?_
   refine wpl_q (q_pure rfl) rfl ?_
   refine wpl_q (q_idxW Try.underlying25 Try.ti66 rfl rfl (by first | assumption | exact SV.nil | exact SV.slv (by assumption) (by omega) (by omega) | exact arv_sv (by first | decide | (simp only [maxLen]; omega))) (by first | omega | (simp only [maxLen]; omega) | (simp only [List.length_append, List.length_cons, List.length_nil, List.length_take, maxLen]; omega) | (simp only [List.length_append, List.length_cons, List.length_nil, List.length_take]; omega))) rfl ?_
   refine wpl_q (q_fieldPo 4 Try.underlying66 rfl Try.ti3 rfl rfl rfl) rfl ?_
   refine wpl_q (q_ldWF Try.underlying3 rfl rfl (fun w h => h.seen_old hs.k) (kcs_get hjl rfl)) rfl ?_
   refine wpl_q (q_pure rfl) rfl ?_
   refine wpl_q (q_pure rfl) rfl ?_
   refine wpl_nil ?_
   refine ex_then ?_
   refine wpc_cond rfl (fun hc34 => ?_) (fun hc34 => ?_)
   ·
    simp only [beq_iff_eq] at hc34
    refine wpc_seq ?_
    refine wpc_region ?_
    refine wpl_q (q_build (cs := St.z.c nl nl nl) rfl built_st0) rfl ?_
    refine wpl_t0 (t_stA Try.ti27 rfl rfl (St.c_length (by first | exact hs.len | rfl)) (by first | exact St.c_one SV.nil SV.nil SV.nil) (by first | exact St.c_length hs.len | exact St.c_length rfl)) (fun _ => ?_)
    refine wpl_q (q_pure rfl) rfl ?_
    refine wpl_nil ?_
    refine ex_then ?_
    refine wpc_ret ?_
    refine ex_then_ret ?_
    refine retv2 (.inl rfl) rfl (rv_agg Try.underlying27 rfl Try.ti27 rfl (fun w h => h.atB) (St.c_length (by first | rfl | exact writeF_len hs.len))) (rv_tmp rfl) ?_
    exact fun w h => ⟨(nl, nl, nl), by rw [rs2r hc17 hej hc34]; exact zSV, by rw [rs2r hc17 hej hc34]; first | done | rfl, h.below, by rw [rs2r hc17 hej hc34]; exact (zRows h).made SubC.h .nil⟩
   ·
    simp only [beq_eq_false_iff_ne, ne_eq] at hc34
    have hcr := rs3r hc17 hej hc34
    have hna : (min (2 ^ (s.ks.getD j KE.z).ht.toNat) ((s.ks.getD j KE.z).ak.toNat + s.bt.toNat)) ≤ 16 := by omega
    refine wpc_skip ?_
    refine ex_then ?_
    refine wpc_seq ?_
    refine wpc_region ?_
    refine wpl_q (q_ldN Try.underlying27 rfl Try.ti27 rfl (St.c_length hs.len)) rfl ?_
    refine wpl_tp (t_callP3 Try.hb10 rfl fun w h => refTwin s dv pv kv w (by first | exact StS.old h hs | exact ⟨hs.len, h.seenV, h.seenV, h.seenV, by omega, by omega, by omega⟩)) rfl (fun b37 p37 => ?_)
    have q3 : SV b37.2.2 s.ks.length := p37.2.2
    refine wpl_t (t_alloc Try.ti27 (St.z.c nl nl nl) rfl) rfl (fun b9 => ?_)
    refine wpl_t0 (t_stA Try.ti27 rfl rfl (St.c_length (by first | exact hs.len | rfl)) (by first | exact St.c_one SV.nil SV.nil SV.nil | exact St.c_one p37.1 p37.2.1 p37.2.2) (by first | exact St.c_length hs.len | exact St.c_length rfl)) (fun _ => ?_)
    refine wpl_nil ?_
    refine ex_then ?_
    refine wpc_seq ?_
    refine wpc_draw 16 (by kernel_rfl) (fun _ h => h.drew) ?_
    refine wpd_p 0 rfl (by kernel_rfl) trivial (q_field Try.underlying27 rfl Try.ti25 rfl rfl _ rfl) rfl sk0 ?_
    refine wpd_q 1 rfl (by kernel_rfl) trivial (q_ld Try.underlying25 rfl rfl (by first | exact St.c_b hs.len | exact St.c_u hs.len | exact St.c_d hs.len | exact St.c_p hs.len | exact St.c_k hs.len)) rfl (fun _ h => h) ?_
    refine wpd_p 2 rfl (by kernel_rfl) trivial (q_pure rfl) rfl sk0 ?_
    refine wpd_p 3 rfl (by kernel_rfl) trivial (q_pure rfl) rfl sk0 ?_
    refine wpd_p 4 rfl (by kernel_rfl) trivial (q_field Try.underlying27 rfl Try.ti25 rfl rfl _ rfl) rfl sk0 ?_
    refine wpd_q 5 rfl (by kernel_rfl) trivial (q_ld Try.underlying25 rfl rfl (by first | exact St.c_b hs.len | exact St.c_u hs.len | exact St.c_d hs.len | exact St.c_p hs.len | exact St.c_k hs.len)) rfl (fun _ h => h) ?_
    refine wpd_p 6 rfl (by kernel_rfl) trivial (q_pure rfl) rfl sk0 ?_
    refine wpd_p 7 rfl (by kernel_rfl) trivial (q_idxW Try.underlying25 Try.ti66 rfl rfl (by first | assumption | exact SV.nil | exact SV.slv (by assumption) (by omega) (by omega) | exact arv_sv (by first | decide | (simp only [maxLen]; omega))) (by first | omega | (simp only [maxLen]; omega) | (simp only [List.length_append, List.length_cons, List.length_nil, List.length_take, maxLen]; omega) | (simp only [List.length_append, List.length_cons, List.length_nil, List.length_take]; omega))) rfl sk0 ?_
    refine wpd_p 8 rfl (by kernel_rfl) trivial (q_fieldPo 4 Try.underlying66 rfl Try.ti3 rfl rfl rfl) rfl sk0 ?_
    refine wpd_q 9 rfl (by kernel_rfl) trivial (q_ldWF Try.underlying3 rfl rfl (fun w h => h.seen_old hs.k) (kcs_get hjl rfl)) rfl (fun _ h => h) ?_
    refine wpd_re 47 rfl (congrArg (Value.int .i64) hA) ?_
    refine wpd_p 10 rfl (by kernel_rfl) trivial (q_field Try.underlying27 rfl Try.ti3 rfl rfl _ rfl) rfl sk0 ?_
    refine wpd_q 11 rfl (by kernel_rfl) trivial (q_ld Try.underlying3 rfl rfl (by first | exact St.c_b hs.len | exact St.c_u hs.len | exact St.c_d hs.len | exact St.c_p hs.len | exact St.c_k hs.len)) rfl (fun _ h => h) ?_
    refine wpd_re 49 rfl (congrArg (Value.int .i64) hB) ?_
    refine wpd_p 12 rfl (by kernel_rfl) trivial (q_addN rfl rfl (by first | omega | (simp only [maxLen]; omega) | (simp only [List.length_append, List.length_cons, List.length_nil, List.length_take, maxLen]; omega) | (simp only [List.length_append, List.length_cons, List.length_nil, List.length_take]; omega))) rfl sk0 ?_
    refine wpd_p 13 rfl (by kernel_rfl) trivial (q_minN rfl rfl) rfl sk0 ?_
    refine wpd_p 14 rfl (by kernel_rfl) trivial (q_idxW Try.underlying25 Try.ti66 rfl rfl (by first | assumption | exact SV.nil | exact SV.slv (by assumption) (by omega) (by omega) | exact arv_sv (by first | decide | (simp only [maxLen]; omega))) (by first | omega | (simp only [maxLen]; omega) | (simp only [List.length_append, List.length_cons, List.length_nil, List.length_take, maxLen]; omega) | (simp only [List.length_append, List.length_cons, List.length_nil, List.length_take]; omega))) rfl sk0 ?_
    refine wpd_p 15 rfl (by kernel_rfl) trivial (q_fieldPo 4 Try.underlying66 rfl Try.ti3 rfl rfl rfl) rfl sk0 ?_
    refine wpd_t0 16 rfl (by kernel_rfl) trivial (t_stWF Try.ti3 rfl rfl rfl (by omega) (kcs (s.ks.set j { (s.ks.getD j KE.z) with ak := (((min (2 ^ (s.ks.getD j KE.z).ht.toNat) ((s.ks.getD j KE.z).ak.toNat + s.bt.toNat)) : Nat) : Int) })) (kcs_set _ hjl rfl (by decide))) (fun _ => skk rfl) (fun _ => ?_)
    refine wpd_done (by kernel_rfl) ?_
    refine ex_then ?_
    refine wpc_seq ?_
    refine wpc_draw 15 (by kernel_rfl) (fun _ h => h.drew) ?_
    refine wpd_q 0 rfl (by kernel_rfl) trivial (q_ldN Try.underlying27 rfl Try.ti27 rfl (St.c_length hs.len)) rfl (fun _ h => h) ?_
    refine wpd_p 1 rfl (by kernel_rfl) trivial (q_field Try.underlying27 rfl Try.ti25 rfl rfl _ rfl) rfl sk0 ?_
    refine wpd_qB 2 [4, 5, 6, 14, 15] rfl (by kernel_rfl) trivial (q_ld Try.underlying25 rfl rfl (by first | exact St.c_b hs.len | exact St.c_u hs.len | exact St.c_d hs.len | exact St.c_p hs.len | exact St.c_k hs.len)) rfl (fun _ h => h) ?_
    refine wpd_p 3 rfl (by kernel_rfl) trivial (q_pure rfl) rfl sk0 ?_
    refine wpd_p 4 rfl (by kernel_rfl) trivial (q_idxW Try.underlying25 Try.ti66 rfl rfl (by first | assumption | exact SV.nil | exact SV.slv (by assumption) (by omega) (by omega) | exact arv_sv (by first | decide | (simp only [maxLen]; omega))) (by first | omega | (simp only [maxLen]; omega) | (simp only [List.length_append, List.length_cons, List.length_nil, List.length_take, maxLen]; omega) | (simp only [List.length_append, List.length_cons, List.length_nil, List.length_take]; omega))) rfl sk0 ?_
    refine wpd_p 5 rfl (by kernel_rfl) trivial (q_fieldPo 1 Try.underlying66 rfl Try.ti3 rfl rfl rfl) rfl sk0 ?_
    refine wpd_qB 6 [14, 15] rfl (by kernel_rfl) trivial (q_ldWF Try.underlying3 rfl rfl (fun w h => h.seen_old hs.k) (kcs_get hjl rfl)) rfl (fun _ h => h) ?_
    refine wpd_re 60 rfl (congrArg (Value.int .i64) hH) ?_
    refine wpd_p 7 rfl (by kernel_rfl) trivial (q_field Try.underlying27 rfl Try.ti25 rfl rfl _ rfl) rfl sk0 ?_
    refine wpd_qB 8 [10, 11, 12, 14, 15] rfl (by kernel_rfl) trivial (q_ld Try.underlying25 rfl rfl (by first | exact St.c_b hs.len | exact St.c_u hs.len | exact St.c_d hs.len | exact St.c_p hs.len | exact St.c_k hs.len)) rfl (fun _ h => h) ?_
    refine wpd_p 9 rfl (by kernel_rfl) trivial (q_pure rfl) rfl sk0 ?_
    refine wpd_p 10 rfl (by kernel_rfl) trivial (q_idxW Try.underlying25 Try.ti66 rfl rfl (by first | assumption | exact SV.nil | exact SV.slv (by assumption) (by omega) (by omega) | exact arv_sv (by first | decide | (simp only [maxLen]; omega))) (by first | omega | (simp only [maxLen]; omega) | (simp only [List.length_append, List.length_cons, List.length_nil, List.length_take, maxLen]; omega) | (simp only [List.length_append, List.length_cons, List.length_nil, List.length_take]; omega))) rfl sk0 ?_
    refine wpd_p 11 rfl (by kernel_rfl) trivial (q_fieldPo 4 Try.underlying66 rfl Try.ti3 rfl rfl rfl) rfl sk0 ?_
    refine wpd_qB 12 [14, 15] rfl (by kernel_rfl) trivial (q_ldWF Try.underlying3 rfl rfl (fun w h => (show Seen w.cell? b37.2.2 s.ks.length 6 (kcs (s.ks.set j { (s.ks.getD j KE.z) with ak := (((min (2 ^ (s.ks.getD j KE.z).ht.toNat) ((s.ks.getD j KE.z).ak.toNat + s.bt.toNat)) : Nat) : Int) })) from h.seenV)) (set_get (v := .int .i64 (((min (2 ^ (s.ks.getD j KE.z).ht.toNat) ((s.ks.getD j KE.z).ak.toNat + s.bt.toNat)) : Nat) : Int)) hjl rfl)) rfl (fun _ h => h) ?_
    refine wpd_p 13 rfl (by kernel_rfl) trivial (q_pure rfl) rfl sk0 ?_
    refine wpd_tp 14 rfl (by kernel_rfl) trivial (t_callP1 Try.hb54 rfl fun w h => refRecord 2 (s.ks.getD j KE.z).ht.toNat (min (2 ^ (s.ks.getD j KE.z).ht.toNat) ((s.ks.getD j KE.z).ak.toNat + s.bt.toNat)) id w (by omega) (by omega)) rfl (fun _ => (fun w h => .inr (h.sub SubC.h SubC.h))) (fun b68 p68 => ?_)
    refine wpd_tp 15 rfl (by kernel_rfl) trivial (t_callFp [dRow b68 (recB (Rec.mk 2 (of8 (((s.ks.getD j KE.z).ht.toNat : Nat) : Int)) (of16 (((min (2 ^ (s.ks.getD j KE.z).ht.toNat) ((s.ks.getD j KE.z).ak.toNat + s.bt.toNat)) : Nat) : Int)) id)), .blk b9 27 (s.c b37.1 b37.2.1 b37.2.2), dRow b37.1 s.dk, dRow b37.2.1 s.pd, kRow b37.2.2 (s.ks.set j { (s.ks.getD j KE.z) with ak := (((min (2 ^ (s.ks.getD j KE.z).ht.toNat) ((s.ks.getD j KE.z).ak.toNat + s.bt.toNat)) : Nat) : Int) }), .blk b4 27 (St.z.c nl nl nl), .blk b2 27 (s.c dv pv kv)] [dRow b68 (recB (Rec.mk 2 (of8 (((s.ks.getD j KE.z).ht.toNat : Nat) : Int)) (of16 (((min (2 ^ (s.ks.getD j KE.z).ht.toNat) ((s.ks.getD j KE.z).ak.toNat + s.bt.toNat)) : Nat) : Int)) id)), dRow b37.1 s.dk, dRow b37.2.1 s.pd, kRow b37.2.2 (s.ks.set j { (s.ks.getD j KE.z) with ak := (((min (2 ^ (s.ks.getD j KE.z).ht.toNat) ((s.ks.getD j KE.z).ak.toNat + s.bt.toNat)) : Nat) : Int) })] [.blk b9 27 (s.c b37.1 b37.2.1 b37.2.2), .blk b4 27 (St.z.c nl nl nl), .blk b2 27 (s.c dv pv kv)] (fun x => [dRow x.1 (writeF (setK s j { (s.ks.getD j KE.z) with ak := (((min (2 ^ (s.ks.getD j KE.z).ht.toNat) ((s.ks.getD j KE.z).ak.toNat + s.bt.toNat)) : Nat) : Int) }) (recB (Rec.mk 2 (of8 (((s.ks.getD j KE.z).ht.toNat : Nat) : Int)) (of16 (((min (2 ^ (s.ks.getD j KE.z).ht.toNat) ((s.ks.getD j KE.z).ak.toNat + s.bt.toNat)) : Nat) : Int)) id))).1.dk, dRow x.2.1 (writeF (setK s j { (s.ks.getD j KE.z) with ak := (((min (2 ^ (s.ks.getD j KE.z).ht.toNat) ((s.ks.getD j KE.z).ak.toNat + s.bt.toNat)) : Nat) : Int) }) (recB (Rec.mk 2 (of8 (((s.ks.getD j KE.z).ht.toNat : Nat) : Int)) (of16 (((min (2 ^ (s.ks.getD j KE.z).ht.toNat) ((s.ks.getD j KE.z).ak.toNat + s.bt.toNat)) : Nat) : Int)) id))).1.pd, kRow x.2.2 (writeF (setK s j { (s.ks.getD j KE.z) with ak := (((min (2 ^ (s.ks.getD j KE.z).ht.toNat) ((s.ks.getD j KE.z).ak.toNat + s.bt.toNat)) : Nat) : Int) }) (recB (Rec.mk 2 (of8 (((s.ks.getD j KE.z).ht.toNat : Nat) : Int)) (of16 (((min (2 ^ (s.ks.getD j KE.z).ht.toNat) ((s.ks.getD j KE.z).ak.toNat + s.bt.toNat)) : Nat) : Int)) id))).1.ks, .blk b9 27 (s.c b37.1 b37.2.1 b37.2.2), .blk b4 27 (St.z.c nl nl nl), .blk b2 27 (s.c dv pv kv)]) (by rw [kRow_set, recRow b68 _ _ (recN_of (by omega) (by omega) id)]; exact (by repeat (first | exact Sub.nil | exact Sub.refl _ | with_reducible refine Sub.keep ?_ | refine Sub.drop ?_))) perm1 (fun _ => rfl) Try.hb53 rfl fun w h h2 => refWrite b68 (recB (Rec.mk 2 (of8 (((s.ks.getD j KE.z).ht.toNat : Nat) : Int)) (of16 (((min (2 ^ (s.ks.getD j KE.z).ht.toNat) ((s.ks.getD j KE.z).ak.toNat + s.bt.toNat)) : Nat) : Int)) id)) (setK s j { (s.ks.getD j KE.z) with ak := (((min (2 ^ (s.ks.getD j KE.z).ht.toNat) ((s.ks.getD j KE.z).ak.toNat + s.bt.toNat)) : Nat) : Int) }) b37.1 b37.2.1 b37.2.2 w h2 hs.len ⟨p37.1, p37.2.1, by show SV b37.2.2 (s.ks.set j { (s.ks.getD j KE.z) with ak := (((min (2 ^ (s.ks.getD j KE.z).ht.toNat) ((s.ks.getD j KE.z).ak.toNat + s.bt.toNat)) : Nat) : Int) }).length; rw [List.length_set]; exact p37.2.2⟩ hs.ld hs.lp p68 (by rw [recB_length]; decide)) rfl (fun _ => skk rfl) (fun b69 p69 => ?_)
    refine wpd_p 16 rfl (by kernel_rfl) trivial (q_pure rfl) rfl (skk rfl) ?_
    refine wpd_p 17 rfl (by kernel_rfl) trivial (q_pure rfl) rfl (skk rfl) ?_
    refine wpd_t0 18 rfl (by kernel_rfl) trivial (t_stA Try.ti27 rfl rfl (St.c_length (writeF_len hs.len)) (by first | exact St.c_one SV.nil SV.nil SV.nil | exact St.c_one p69.1 p69.2.1 p69.2.2) (by first | exact St.c_length hs.len | exact St.c_length rfl)) (fun _ => skk rfl) (fun _ => ?_)
    refine wpd_p 19 rfl (by kernel_rfl) trivial (q_pure rfl) rfl (skk rfl) ?_
    refine wpd_done (by kernel_rfl) ?_
    refine ex_then ?_
    refine wpc_ret ?_
    refine retv2 (.inl rfl) rfl (rv_agg Try.underlying27 rfl Try.ti27 rfl (fun w h => h.atB) (St.c_length (by first | rfl | exact writeF_len hs.len))) (rv_tmp rfl) ?_
    exact fun w h => ⟨b69, by rw [hcr]; exact p69, by rw [hcr]; rfl, h.below, by rw [hcr]; exact h.made SubC.h .nil⟩

end Go.Proofs.Ytoaeklbenmlooaa
