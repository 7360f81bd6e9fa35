/- Sync and Crash. -/
import Derived.Test.YtoaeklbenmlooaaKW
namespace Go.Proofs.Ytoaeklbenmlooaa
set_option linter.unusedSimpArgs false
set_option linter.unusedVariables false
open Go Go.PL Go.RowKit

def durK (k : KE) : KE := { k with du := k.ak }
def durT (ks : List KE) (i : Nat) : List KE := (ks.take i).map durK ++ ks.drop i
theorem durT_len (ks : List KE) (i : Nat) : (durT ks i).length = ks.length := by
  rw [durT, List.length_append, List.length_map, List.length_take, List.length_drop]; omega
theorem durT_0 (ks : List KE) : durT ks 0 = ks := rfl
theorem durT_get {ks : List KE} {i : Nat} (h : i < ks.length) : (durT ks i).getD i KE.z = ks.getD i KE.z := by
  rw [durT, List.getD_eq_getElem?_getD, List.getD_eq_getElem?_getD, List.getElem?_append_right (by rw [List.length_map, List.length_take]; omega), List.length_map, List.length_take, List.getElem?_drop]
  congr 2; omega
theorem durT_succ {ks : List KE} {i : Nat} (h : i < ks.length) : (durT ks i).set i (durK (ks.getD i KE.z)) = durT ks (i + 1) := by
  have e : ks.drop i = ks.getD i KE.z :: ks.drop (i + 1) := by
    rw [List.drop_eq_getElem_cons h]; congr 1; rw [List.getD_eq_getElem?_getD, List.getElem?_eq_getElem h]; rfl
  have e2 : ks.take (i + 1) = ks.take i ++ [ks.getD i KE.z] := by
    rw [List.take_add_one, List.getD_eq_getElem?_getD, List.getElem?_eq_getElem h]; rfl
  unfold durT
  rw [List.set_append_right _ _ (by rw [List.length_map, List.length_take]; omega), List.length_map, List.length_take, show i - min i ks.length = 0 by omega, e, List.set_cons_zero, e2, List.map_append, List.append_assoc]
  rfl
theorem durT_set {ks : List KE} {i : Nat} (h : i < ks.length) : (kcs (durT ks i)).set (i * 6 + 3) (.int .i64 (ks.getD i KE.z).ak) = kcs (durT ks (i + 1)) := by
  rw [← durT_succ h]
  exact kcs_set _ (by rw [durT_len]; exact h) (by rw [durT_get h]; rfl) (by decide)
def syncF (s : St) : St × Int := if ¬ upF s true = 0 then (St.z, upF s true) else ({ s with dk := s.dk ++ s.pd, pd := [], ks := durT s.ks s.ks.length }, 0)
theorem sy1 {s : St} (h : ¬ upF s true = 0) : syncF s = (St.z, upF s true) := if_pos h
theorem sy2 {s : St} (h : upF s true = 0) : syncF s = ({ s with dk := s.dk ++ s.pd, pd := [], ks := durT s.ks s.ks.length }, 0) := if_neg (fun hh => hh h)
theorem nilMid {w0 w : World} {Ln : List Nat} {a b : Ent} (h : Mem w0 Ln [a, b] [] w) : Mem w0 Ln [a, dRow nl [], b] [] w := (h.nilRow 5 1).perm (List.Perm.swap a (dRow nl []) [b])
theorem nilTwo {w0 w : World} {Ln : List Nat} {a : Ent} (h : Mem w0 Ln [a] [] w) : Mem w0 Ln [a, dRow nl [], kRow nl []] [] w := ((h.nilRow 66 6).nilRow 5 1).perm (List.perm_append_comm (l₁ := [dRow nl [], kRow nl []]) (l₂ := [a]))
theorem sync_rows {w0 w : World} {s : St} {v kv : Value} {m : Nat} (hm : m = (s.dk ++ s.pd).length) (h : Mem w0 [] [.row v m 5 1 (v8s (s.dk ++ s.pd)), .row kv s.ks.length 66 6 (kcs (durT s.ks s.ks.length))] [] w) : New w0.heap.size [dRow v (s.dk ++ s.pd), dRow nl [], kRow kv (durT s.ks s.ks.length)] [] w := by
  subst hm
  rw [kRow_len kv (durT_len _ _)]
  exact (nilMid h).made (Sub.refl _) .nil
def crashF (s : St) (k : Int) : St × Int := if ¬ upF s true = 0 then (St.z, upF s true) else if k < 0 ∨ (s.pd.length : Int) < k then (St.z, 2) else ({ s with up := false, dk := s.dk ++ s.pd.take k.toNat, pd := [], ks := [] }, 0)
theorem ch1 {s : St} {k : Int} (h : ¬ upF s true = 0) : crashF s k = (St.z, upF s true) := if_pos h
theorem ch2 {s : St} {k : Int} (h : upF s true = 0) (h2 : k < 0 ∨ (s.pd.length : Int) < k) : crashF s k = (St.z, 2) := by unfold crashF; rw [if_neg (fun hh => hh h), if_pos h2]
theorem ch3 {s : St} {m : Nat} (h : upF s true = 0) (h2 : m ≤ s.pd.length) : crashF s ((m : Nat) : Int) = ({ s with up := false, dk := s.dk ++ s.pd.take m, pd := [], ks := [] }, 0) := by
  unfold crashF; rw [if_neg (fun hh => hh h), if_neg (by omega), Int.toNat_natCast]
theorem built_st4 {v : Value} {k : Nat} (hv : SV v k) (xs : List UInt8) (n : Int) (h : xs.length = 32) : Try.prog.built 27 [(0, .agg (v8s xs).toArray), (1, .int .i64 n), (3, v)] = some ((⟨xs, n, false, [], [], []⟩ : St).c v nl nl).toArray := by
  obtain ⟨a, cap, rfl, _⟩ := hv
  obtain ⟨a0, a1, a2, a3, a4, a5, a6, a7, a8, a9, a10, a11, a12, a13, a14, a15, a16, a17, a18, a19, a20, a21, a22, a23, a24, a25, a26, a27, a28, a29, a30, a31, rfl⟩ := list32 h
  kernel_rfl
theorem tk_le (xs : List UInt8) (m : Nat) : (xs.take m).length ≤ xs.length := by rw [List.length_take]; omega

set_option maxRecDepth 100000 in
theorem sync (s : St) (dv pv kv : Value) (w : World) (hs : StS w.cell? s dv pv kv)  :
    Calls Try.prog 11 [.agg (s.c dv pv kv).toArray].toArray w (GivesP w (fun x : V3 => (syncF s).1.sv x) (fun x => .tuple #[stV (syncF s).1 x, .int .i64 (syncF s).2]) (fun x => [dRow x.1 (syncF s).1.dk, dRow x.2.1 (syncF s).1.pd, kRow x.2.2 (syncF s).1.ks]) (fun _ => [])) := by
  have sdv := hs.d.sv
  have spv := hs.p.sv
  have skv := hs.k.sv
  have l1hs := hs.ld
  have l2hs := hs.lp
  have l3hs := hs.lk
  refine enter (m := 40) (R := Mem w [] [] []) Try.func11 rfl rfl (Nat.le_of_ble_eq_true rfl) (Mem.start w) ?_
  refine wpc_seq ?_
  refine wpc_region ?_
  refine wpl_t (t_box rfl (s.c dv pv kv) rfl) rfl (fun b1 => ?_)
  refine wpl_t (t_alloc Try.ti27 (St.z.c nl nl nl) rfl) rfl (fun b2 => ?_)
  refine wpl_q (q_pure rfl) rfl ?_
  refine wpl_nil ?_
  refine ex_then ?_
  refine wpc_seq ?_
  refine wpc_seq ?_
  refine wpc_region ?_
  refine wpl_q (q_ldN Try.underlying27 rfl Try.ti27 rfl (St.c_length hs.len)) rfl ?_
  refine wpl_t (t_pur Try.hb37 rfl fun w h => up_ _ _ _ _ _ w (by first | exact StS.old h hs | exact ⟨hs.len, h.seenV, h.seenV, h.seenV, by omega, by omega, by omega⟩)) rfl (fun b7 => ?_)
  refine wpl_q (q_pure rfl) rfl ?_
  refine wpl_nil ?_
  refine ex_then ?_
  refine wpc_seq ?_
  refine wpc_region ?_
  refine wpl_q (q_pure rfl) rfl ?_
  refine wpl_q (q_pure rfl) rfl ?_
  refine wpl_nil ?_
  refine ex_then ?_
  refine wpc_cond rfl (fun hc9 => ?_) (fun hc9 => ?_)
  ·
   simp only [bne_iff_ne, ne_eq] at hc9
   refine wpc_seq ?_
   refine wpc_region ?_
   refine wpl_q (q_build (cs := St.z.c nl nl nl) rfl built_st0) rfl ?_
   refine wpl_q (q_pure rfl) rfl ?_
   refine wpl_t0 (t_stA Try.ti27 rfl rfl (St.c_length (by first | exact hs.len | rfl)) (by first | exact St.c_one SV.nil SV.nil SV.nil) (by first | exact St.c_length hs.len | exact St.c_length rfl)) (fun _ => ?_)
   refine wpl_q (q_pure rfl) rfl ?_
   refine wpl_nil ?_
   refine ex_then ?_
   refine wpc_ret ?_
   refine ex_then_ret ?_
   refine retv2 (.inl rfl) rfl (rv_agg Try.underlying27 rfl Try.ti27 rfl (fun w h => h.atB) (St.c_length (by first | rfl | exact hs.len))) (rv_tmp rfl) ?_
   exact fun w h => ⟨(nl, nl, nl), by rw [sy1 hc9]; exact zSV, by rw [sy1 hc9]; first | done | rfl, h.below, by rw [sy1 hc9]; exact (zRows h).made SubC.h .nil⟩
  ·
   simp only [bne_eq_false_iff_eq] at hc9
   have hsy := sy2 hc9
   refine wpc_skip ?_
   refine ex_then ?_
   refine wpc_seq ?_
   refine wpc_region ?_
   refine wpl_q (q_ldN Try.underlying27 rfl Try.ti27 rfl (St.c_length hs.len)) rfl ?_
   refine wpl_tp (t_callP3 Try.hb38 rfl fun w h => twin s dv pv kv w (by first | exact StS.old h hs | exact ⟨hs.len, h.seenV, h.seenV, h.seenV, by omega, by omega, by omega⟩)) rfl (fun b13 p13 => ?_)
   have q3 : SV b13.2.2 s.ks.length := p13.2.2
   have q1 : SV b13.1 s.dk.length := p13.1
   have q2 : SV b13.2.1 s.pd.length := p13.2.1
   refine wpl_t0 (t_stA Try.ti27 rfl rfl (St.c_length (by first | exact hs.len | rfl)) (by first | exact St.c_one SV.nil SV.nil SV.nil | exact St.c_one p13.1 p13.2.1 p13.2.2) (by first | exact St.c_length hs.len | exact St.c_length rfl)) (fun _ => ?_)
   refine wpl_nil ?_
   refine ex_then ?_
   refine wpc_seq ?_
   refine wpc_region ?_
   refine wpl_q (q_field Try.underlying27 rfl Try.ti24 rfl rfl _ rfl) rfl ?_
   refine wpl_q (q_ld Try.underlying24 rfl rfl (by first | exact St.c_b hs.len | exact St.c_u hs.len | exact St.c_d hs.len | exact St.c_p hs.len | exact St.c_k hs.len)) rfl ?_
   refine wpl_q (q_field Try.underlying27 rfl Try.ti24 rfl rfl _ rfl) rfl ?_
   refine wpl_q (q_ld Try.underlying24 rfl rfl (by first | exact St.c_b hs.len | exact St.c_u hs.len | exact St.c_d hs.len | exact St.c_p hs.len | exact St.c_k hs.len)) rfl ?_
   refine wpl_tp (t_apW Try.underlying24 Try.ti5 rfl (by decide) rfl rfl (fun w h => (show Seen w.cell? b13.2.1 s.pd.length 1 (v8s s.pd) from h.seenV)) (v8s_one _) (by first | omega | (simp only [maxLen]; omega) | (simp only [List.length_append, List.length_cons, List.length_nil, List.length_take, maxLen]; omega) | (simp only [List.length_append, List.length_cons, List.length_nil, List.length_take]; omega)) (by first | omega | (simp only [maxLen]; omega) | (simp only [List.length_append, List.length_cons, List.length_nil, List.length_take, maxLen]; omega) | (simp only [List.length_append, List.length_cons, List.length_nil, List.length_take]; omega)) (v8s (s.dk ++ s.pd)) (by rw [v8s_append])) rfl (fun b18 p18 => ?_)
   refine wpl_q (q_field Try.underlying27 rfl Try.ti24 rfl rfl _ rfl) rfl ?_
   refine wpl_t0 (t_st1 Try.ti24 rfl rfl (SV.one (by first | assumption | exact SV.nil | exact SV.slv (by assumption) (by omega) (by omega) | exact arv_sv (by first | decide | (simp only [maxLen]; omega)))) (St.c_lt hs.len (by decide)) _ (by first | exact St.s_d hs.len _ | exact St.s_p hs.len _ | exact St.s_k hs.len _)) (fun _ => ?_)
   refine wpl_q (q_field Try.underlying27 rfl Try.ti24 rfl rfl _ rfl) rfl ?_
   refine wpl_t0 (t_st1 Try.ti24 rfl rfl (SV.one (by first | assumption | exact SV.nil | exact SV.slv (by assumption) (by omega) (by omega) | exact arv_sv (by first | decide | (simp only [maxLen]; omega)))) (St.c_lt hs.len (by decide)) _ (by first | exact St.s_d hs.len _ | exact St.s_p hs.len _ | exact St.s_k hs.len _)) (fun _ => ?_)
   refine wpl_nil ?_
   refine ex_then ?_
   refine wpc_seq ?_
   refine wpc_seq ?_
   refine wpc_region ?_
   refine wpl_q (q_field Try.underlying27 rfl Try.ti25 rfl rfl _ rfl) rfl ?_
   refine wpl_q (q_ld Try.underlying25 rfl rfl (by first | exact St.c_b hs.len | exact St.c_u hs.len | exact St.c_d hs.len | exact St.c_p hs.len | exact St.c_k hs.len)) rfl ?_
   refine wpl_q (q_lenW Try.underlying25 rfl (by first | assumption | exact SV.nil | exact SV.slv (by assumption) (by omega) (by omega) | exact arv_sv (by first | decide | (simp only [maxLen]; omega)))) rfl ?_
   refine wpl_q (q_pure rfl) rfl ?_
   refine wpl_nil ?_
   refine ex_then ?_
   refine wpc_block ?_
   refine wpc_loopc (ι := { x : Nat // (x ≤ s.ks.length) }) [(1, _), (2, _), (23, _)] (fun x Lc => (24, .int .i64 ((x.1 : Nat) : Int)) :: Lc) (fun x => Mem w [] [.row b18 (s.dk.length + s.pd.length) 5 1 (v8s (s.dk ++ s.pd)), .row b13.2.2 s.ks.length 66 6 (kcs (durT s.ks x.1)), .blk b2 27 (St.z.c nl nl nl), .blk b1 27 (s.c b18 nl b13.2.2)] []) (fun x => s.ks.length - x.1) ⟨0, (Nat.zero_le _)⟩ (by repeat (first | exact trivial | refine ⟨rfl, ?_⟩)) ?_ ?_
   ·
    exact fun w h => by dsimp only; rw [durT_0]; exact h.sub SubC.h SubC.h
   ·
    rintro ⟨i, hi0⟩; try dsimp only
    have hi0 : i ≤ s.ks.length := hi0
    refine wpc_seq ?_
    refine wpc_region ?_
    refine wpl_q (q_pure rfl) rfl ?_
    refine wpl_nil ?_
    refine ex_then ?_
    refine wpc_seq ?_
    refine wpc_cond rfl (fun hc25 => ?_) (fun hc25 => ?_)
    ·
     simp only [decide_eq_true_eq] at hc25
     have hik : i < s.ks.length := by omega
     have hid : i < (durT s.ks i).length := by rw [durT_len]; exact hik
     have hkl := kcs_length (durT s.ks i)
     have hdl := durT_len s.ks i
     refine wpc_skip ?_
     refine ex_then ?_
     refine wpc_seq ?_
     refine wpc_block ?_
     refine wpc_seq ?_
     refine wpc_region ?_
     refine wpl_q (q_pure rfl) rfl ?_
     refine wpl_q (q_pure rfl) rfl ?_
     refine wpl_nil ?_
     refine ex_then ?_
     refine wpc_draw 11 (by kernel_rfl) (fun _ h => h.drew) ?_
     refine wpd_p 0 rfl (by kernel_rfl) trivial (q_field Try.underlying27 rfl Try.ti25 rfl rfl _ rfl) rfl sk0 ?_
     refine wpd_q 1 rfl (by kernel_rfl) trivial (q_ld Try.underlying25 rfl rfl (by first | exact St.c_b hs.len | exact St.c_u hs.len | exact St.c_d hs.len | exact St.c_p hs.len | exact St.c_k hs.len)) rfl (fun _ h => h) ?_
     refine wpd_p 2 rfl (by kernel_rfl) trivial (q_pure rfl) rfl sk0 ?_
     refine wpd_p 3 rfl (by kernel_rfl) trivial (q_field Try.underlying27 rfl Try.ti25 rfl rfl _ rfl) rfl sk0 ?_
     refine wpd_q 4 rfl (by kernel_rfl) trivial (q_ld Try.underlying25 rfl rfl (by first | exact St.c_b hs.len | exact St.c_u hs.len | exact St.c_d hs.len | exact St.c_p hs.len | exact St.c_k hs.len)) rfl (fun _ h => h) ?_
     refine wpd_p 5 rfl (by kernel_rfl) trivial (q_pure rfl) rfl sk0 ?_
     refine wpd_p 6 rfl (by kernel_rfl) trivial (q_idxW Try.underlying25 Try.ti66 rfl rfl (by first | assumption | exact SV.nil | exact SV.slv (by assumption) (by omega) (by omega) | exact arv_sv (by first | decide | (simp only [maxLen]; omega))) (by first | omega | (simp only [maxLen]; omega) | (simp only [List.length_append, List.length_cons, List.length_nil, List.length_take, maxLen]; omega) | (simp only [List.length_append, List.length_cons, List.length_nil, List.length_take]; omega))) rfl sk0 ?_
     refine wpd_p 7 rfl (by kernel_rfl) trivial (q_fieldPo 4 Try.underlying66 rfl Try.ti3 rfl rfl rfl) rfl sk0 ?_
     refine wpd_q 8 rfl (by kernel_rfl) trivial (q_ldWF Try.underlying3 rfl rfl (fun w h => (show Seen w.cell? b13.2.2 s.ks.length 6 (kcs (durT s.ks i)) from h.seenV)) (kcs_get (v := .int .i64 (s.ks.getD i KE.z).ak) hid (by rw [durT_get hik]; rfl))) rfl (fun _ h => h) ?_
     refine wpd_p 9 rfl (by kernel_rfl) trivial (q_idxW Try.underlying25 Try.ti66 rfl rfl (by first | assumption | exact SV.nil | exact SV.slv (by assumption) (by omega) (by omega) | exact arv_sv (by first | decide | (simp only [maxLen]; omega))) (by first | omega | (simp only [maxLen]; omega) | (simp only [List.length_append, List.length_cons, List.length_nil, List.length_take, maxLen]; omega) | (simp only [List.length_append, List.length_cons, List.length_nil, List.length_take]; omega))) rfl sk0 ?_
     refine wpd_p 10 rfl (by kernel_rfl) trivial (q_fieldPo 3 Try.underlying66 rfl Try.ti3 rfl rfl rfl) rfl sk0 ?_
     refine wpd_t0 11 rfl (by kernel_rfl) trivial (t_stWF Try.ti3 rfl rfl rfl (by omega) (kcs (durT s.ks (i + 1))) (durT_set hik)) (fun _ => skk rfl) (fun _ => ?_)
     refine wpd_done (by kernel_rfl) ?_
     refine ex_block ?_
     refine ex_then ?_
     refine wpc_region ?_
     refine wpl_q (q_addN (b := 1) rfl rfl (by first | omega | (simp only [maxLen]; omega) | (simp only [List.length_append, List.length_cons, List.length_nil, List.length_take, maxLen]; omega) | (simp only [List.length_append, List.length_cons, List.length_nil, List.length_take]; omega))) rfl ?_
     refine wpl_q (q_pure rfl) rfl ?_
     refine wpl_nil ?_
     refine ex_again ⟨i + 1, (by omega)⟩ ?_ ?_ ?_
     ·
      exact (by repeat (first | exact trivial | refine ⟨rfl, ?_⟩))
     ·
      exact fun w h => by first | exact h | exact h.sub SubC.h SubC.h | exact h.sub (by repeat (first | exact Sub.nil | exact Sub.refl _ | with_reducible refine Sub.keep ?_ | refine Sub.drop ?_)) (by repeat (first | exact Sub.nil | exact Sub.refl _ | with_reducible refine Sub.keep ?_ | refine Sub.drop ?_))
     ·
      (show s.ks.length - (i + 1) < s.ks.length - i); omega
    ·
     simp only [decide_eq_false_iff_not] at hc25
     obtain rfl : i = s.ks.length := by omega
     refine wpc_exit ?_
     refine ex_then_exit ?_
     refine ex_then_exit ?_
     refine ex_block_hit ?_
     refine ex_then ?_
     refine wpc_seq ?_
     refine wpc_region ?_
     refine wpl_q (q_ldN Try.underlying27 rfl Try.ti27 rfl (St.c_length hs.len)) rfl ?_
     refine wpl_t0 (t_stA Try.ti27 rfl rfl (St.c_length (by first | exact hs.len | rfl)) (by first | exact St.c_one SV.nil SV.nil SV.nil | exact St.c_one p18 SV.nil q3) (by first | exact St.c_length hs.len | exact St.c_length rfl)) (fun _ => ?_)
     refine wpl_q (q_pure rfl) rfl ?_
     refine wpl_nil ?_
     refine ex_then ?_
     refine wpc_ret ?_
     refine retv2 (.inl rfl) rfl (rv_agg Try.underlying27 rfl Try.ti27 rfl (fun w h => h.atB) (St.c_length (by first | rfl | exact hs.len))) (rv_tmp rfl) ?_
     exact fun w h => ⟨(b18, nl, b13.2.2), by rw [hsy]; exact ⟨by show SV b18 (s.dk ++ s.pd).length; first | exact p18 | (rw [List.length_append]; exact p18), SV.nil, by show SV b13.2.2 (durT s.ks s.ks.length).length; rw [durT_len]; exact q3⟩, by rw [hsy]; rfl, h.below, by rw [hsy]; exact sync_rows (m := s.dk.length + s.pd.length) (by first | rfl | rw [List.length_append]) (h.sub SubC.h .nil)⟩

set_option maxRecDepth 100000 in
theorem refSync (s : St) (dv pv kv : Value) (w : World) (hs : StS w.cell? s dv pv kv)  :
    Calls Try.prog 12 [.agg (s.c dv pv kv).toArray].toArray w (GivesP w (fun x : V3 => (syncF s).1.sv x) (fun x => .tuple #[stV (syncF s).1 x, .int .i64 (syncF s).2]) (fun x => [dRow x.1 (syncF s).1.dk, dRow x.2.1 (syncF s).1.pd, kRow x.2.2 (syncF s).1.ks]) (fun _ => [])) := by
  have sdv := hs.d.sv
  have spv := hs.p.sv
  have skv := hs.k.sv
  have l1hs := hs.ld
  have l2hs := hs.lp
  have l3hs := hs.lk
  refine enter (m := 40) (R := Mem w [] [] []) Try.func12 rfl rfl (Nat.le_of_ble_eq_true rfl) (Mem.start w) ?_
  refine wpc_seq ?_
  refine wpc_region ?_
  refine wpl_t (t_box rfl (s.c dv pv kv) rfl) rfl (fun b1 => ?_)
  refine wpl_t (t_alloc Try.ti27 (St.z.c nl nl nl) rfl) rfl (fun b2 => ?_)
  refine wpl_q (q_pure rfl) rfl ?_
  refine wpl_nil ?_
  refine ex_then ?_
  refine wpc_seq ?_
  refine wpc_seq ?_
  refine wpc_region ?_
  refine wpl_q (q_ldN Try.underlying27 rfl Try.ti27 rfl (St.c_length hs.len)) rfl ?_
  refine wpl_t (t_pur Try.hb39 rfl fun w h => refUp _ _ _ _ _ w (by first | exact StS.old h hs | exact ⟨hs.len, h.seenV, h.seenV, h.seenV, by omega, by omega, by omega⟩)) rfl (fun b7 => ?_)
  refine wpl_q (q_pure rfl) rfl ?_
  refine wpl_nil ?_
  refine ex_then ?_
  refine wpc_cond rfl (fun hc8 => ?_) (fun hc8 => ?_)
  ·
   simp only [bne_iff_ne, ne_eq] at hc8
   refine wpc_seq ?_
   refine wpc_region ?_
   refine wpl_q (q_build (cs := St.z.c nl nl nl) rfl built_st0) rfl ?_
   refine wpl_q (q_ldN Try.underlying27 rfl Try.ti27 rfl (St.c_length hs.len)) rfl ?_
   refine wpl_t (t_pur Try.hb39 rfl fun w h => refUp _ _ _ _ _ w (by first | exact StS.old h hs | exact ⟨hs.len, h.seenV, h.seenV, h.seenV, by omega, by omega, by omega⟩)) rfl (fun b11 => ?_)
   refine wpl_t0 (t_stA Try.ti27 rfl rfl (St.c_length (by first | exact hs.len | rfl)) (by first | exact St.c_one SV.nil SV.nil SV.nil) (by first | exact St.c_length hs.len | exact St.c_length rfl)) (fun _ => ?_)
   refine wpl_q (q_pure rfl) rfl ?_
   refine wpl_nil ?_
   refine ex_then ?_
   refine wpc_ret ?_
   refine ex_then_ret ?_
   refine retv2 (.inl rfl) rfl (rv_agg Try.underlying27 rfl Try.ti27 rfl (fun w h => h.atB) (St.c_length (by first | rfl | exact hs.len))) (rv_tmp rfl) ?_
   exact fun w h => ⟨(nl, nl, nl), by rw [sy1 hc8]; exact zSV, by rw [sy1 hc8]; first | done | rfl, h.below, by rw [sy1 hc8]; exact (zRows h).made SubC.h .nil⟩
  ·
   simp only [bne_eq_false_iff_eq] at hc8
   have hsy := sy2 hc8
   refine wpc_skip ?_
   refine ex_then ?_
   refine wpc_seq ?_
   refine wpc_region ?_
   refine wpl_q (q_ldN Try.underlying27 rfl Try.ti27 rfl (St.c_length hs.len)) rfl ?_
   refine wpl_tp (t_callP3 Try.hb10 rfl fun w h => refTwin s dv pv kv w (by first | exact StS.old h hs | exact ⟨hs.len, h.seenV, h.seenV, h.seenV, by omega, by omega, by omega⟩)) rfl (fun b13 p13 => ?_)
   have q3 : SV b13.2.2 s.ks.length := p13.2.2
   have q1 : SV b13.1 s.dk.length := p13.1
   have q2 : SV b13.2.1 s.pd.length := p13.2.1
   refine wpl_t (t_alloc Try.ti27 (St.z.c nl nl nl) rfl) rfl (fun b4 => ?_)
   refine wpl_t0 (t_stA Try.ti27 rfl rfl (St.c_length (by first | exact hs.len | rfl)) (by first | exact St.c_one SV.nil SV.nil SV.nil | exact St.c_one p13.1 p13.2.1 p13.2.2) (by first | exact St.c_length hs.len | exact St.c_length rfl)) (fun _ => ?_)
   refine wpl_nil ?_
   refine ex_then ?_
   refine wpc_seq ?_
   refine wpc_region ?_
   refine wpl_q (q_field Try.underlying27 rfl Try.ti24 rfl rfl _ rfl) rfl ?_
   refine wpl_q (q_ld Try.underlying24 rfl rfl (by first | exact St.c_b hs.len | exact St.c_u hs.len | exact St.c_d hs.len | exact St.c_p hs.len | exact St.c_k hs.len)) rfl ?_
   refine wpl_q (q_field Try.underlying27 rfl Try.ti24 rfl rfl _ rfl) rfl ?_
   refine wpl_q (q_ld Try.underlying24 rfl rfl (by first | exact St.c_b hs.len | exact St.c_u hs.len | exact St.c_d hs.len | exact St.c_p hs.len | exact St.c_k hs.len)) rfl ?_
   refine wpl_tp (t_callP1 Try.hb40 rfl fun w h => join_ dv s.dk pv s.pd w (h.seen_old hs.d) (h.seen_old hs.p) (by omega) (by omega)) rfl (fun b18 p18 => ?_)
   refine wpl_q (q_field Try.underlying27 rfl Try.ti24 rfl rfl _ rfl) rfl ?_
   refine wpl_t0 (t_st1 Try.ti24 rfl rfl (SV.one (by first | assumption | exact SV.nil | exact SV.slv (by assumption) (by omega) (by omega) | exact arv_sv (by first | decide | (simp only [maxLen]; omega)))) (St.c_lt hs.len (by decide)) _ (by first | exact St.s_d hs.len _ | exact St.s_p hs.len _ | exact St.s_k hs.len _)) (fun _ => ?_)
   refine wpl_nil ?_
   refine ex_then ?_
   refine wpc_seq ?_
   refine wpc_region ?_
   refine wpl_q (q_field Try.underlying27 rfl Try.ti24 rfl rfl _ rfl) rfl ?_
   refine wpl_t0 (t_st1 Try.ti24 rfl rfl (SV.one (by first | assumption | exact SV.nil | exact SV.slv (by assumption) (by omega) (by omega) | exact arv_sv (by first | decide | (simp only [maxLen]; omega)))) (St.c_lt hs.len (by decide)) _ (by first | exact St.s_d hs.len _ | exact St.s_p hs.len _ | exact St.s_k hs.len _)) (fun _ => ?_)
   refine wpl_nil ?_
   refine ex_then ?_
   refine wpc_seq ?_
   refine wpc_seq ?_
   refine wpc_region ?_
   refine wpl_q (q_pure rfl) rfl ?_
   refine wpl_nil ?_
   refine ex_then ?_
   refine wpc_block ?_
   refine wpc_loopc (ι := { x : Nat // (x ≤ s.ks.length) }) [(2, _), (4, _)] (fun x Lc => (5, .int .i64 ((x.1 : Nat) : Int)) :: Lc) (fun x => Mem w [] [.row b18 (s.dk ++ s.pd).length 5 1 (v8s (s.dk ++ s.pd)), .blk b4 27 (s.c b18 nl b13.2.2), .row b13.2.2 s.ks.length 66 6 (kcs (durT s.ks x.1)), .blk b2 27 (St.z.c nl nl nl)] []) (fun x => s.ks.length - x.1) ⟨0, (Nat.zero_le _)⟩ (by repeat (first | exact trivial | refine ⟨rfl, ?_⟩)) ?_ ?_
   ·
    exact fun w h => by dsimp only; rw [durT_0]; exact h.sub SubC.h SubC.h
   ·
    rintro ⟨i, hi0⟩; try dsimp only
    have hi0 : i ≤ s.ks.length := hi0
    refine wpc_seq ?_
    refine wpc_seq ?_
    refine wpc_region ?_
    refine wpl_q (q_pure rfl) rfl ?_
    refine wpl_q (q_field Try.underlying27 rfl Try.ti25 rfl rfl _ rfl) rfl ?_
    refine wpl_q (q_ld Try.underlying25 rfl rfl (by first | exact St.c_b hs.len | exact St.c_u hs.len | exact St.c_d hs.len | exact St.c_p hs.len | exact St.c_k hs.len)) rfl ?_
    refine wpl_q (q_lenW Try.underlying25 rfl (by first | assumption | exact SV.nil | exact SV.slv (by assumption) (by omega) (by omega) | exact arv_sv (by first | decide | (simp only [maxLen]; omega)))) rfl ?_
    refine wpl_q (q_pure rfl) rfl ?_
    refine wpl_nil ?_
    refine ex_then ?_
    refine wpc_cond rfl (fun hc25 => ?_) (fun hc25 => ?_)
    ·
     simp only [decide_eq_true_eq] at hc25
     have hik : i < s.ks.length := by omega
     have hid : i < (durT s.ks i).length := by rw [durT_len]; exact hik
     have hkl := kcs_length (durT s.ks i)
     have hdl := durT_len s.ks i
     refine wpc_skip ?_
     refine ex_then ?_
     refine wpc_seq ?_
     refine wpc_block ?_
     refine wpc_draw 11 (by kernel_rfl) (fun _ h => h.drew) ?_
     refine wpd_p 0 rfl (by kernel_rfl) trivial (q_field Try.underlying27 rfl Try.ti25 rfl rfl _ rfl) rfl sk0 ?_
     refine wpd_q 1 rfl (by kernel_rfl) trivial (q_ld Try.underlying25 rfl rfl (by first | exact St.c_b hs.len | exact St.c_u hs.len | exact St.c_d hs.len | exact St.c_p hs.len | exact St.c_k hs.len)) rfl (fun _ h => h) ?_
     refine wpd_p 2 rfl (by kernel_rfl) trivial (q_pure rfl) rfl sk0 ?_
     refine wpd_p 3 rfl (by kernel_rfl) trivial (q_field Try.underlying27 rfl Try.ti25 rfl rfl _ rfl) rfl sk0 ?_
     refine wpd_q 4 rfl (by kernel_rfl) trivial (q_ld Try.underlying25 rfl rfl (by first | exact St.c_b hs.len | exact St.c_u hs.len | exact St.c_d hs.len | exact St.c_p hs.len | exact St.c_k hs.len)) rfl (fun _ h => h) ?_
     refine wpd_p 5 rfl (by kernel_rfl) trivial (q_pure rfl) rfl sk0 ?_
     refine wpd_p 6 rfl (by kernel_rfl) trivial (q_idxW Try.underlying25 Try.ti66 rfl rfl (by first | assumption | exact SV.nil | exact SV.slv (by assumption) (by omega) (by omega) | exact arv_sv (by first | decide | (simp only [maxLen]; omega))) (by first | omega | (simp only [maxLen]; omega) | (simp only [List.length_append, List.length_cons, List.length_nil, List.length_take, maxLen]; omega) | (simp only [List.length_append, List.length_cons, List.length_nil, List.length_take]; omega))) rfl sk0 ?_
     refine wpd_p 7 rfl (by kernel_rfl) trivial (q_fieldPo 4 Try.underlying66 rfl Try.ti3 rfl rfl rfl) rfl sk0 ?_
     refine wpd_q 8 rfl (by kernel_rfl) trivial (q_ldWF Try.underlying3 rfl rfl (fun w h => (show Seen w.cell? b13.2.2 s.ks.length 6 (kcs (durT s.ks i)) from h.seenV)) (kcs_get (v := .int .i64 (s.ks.getD i KE.z).ak) hid (by rw [durT_get hik]; rfl))) rfl (fun _ h => h) ?_
     refine wpd_p 9 rfl (by kernel_rfl) trivial (q_idxW Try.underlying25 Try.ti66 rfl rfl (by first | assumption | exact SV.nil | exact SV.slv (by assumption) (by omega) (by omega) | exact arv_sv (by first | decide | (simp only [maxLen]; omega))) (by first | omega | (simp only [maxLen]; omega) | (simp only [List.length_append, List.length_cons, List.length_nil, List.length_take, maxLen]; omega) | (simp only [List.length_append, List.length_cons, List.length_nil, List.length_take]; omega))) rfl sk0 ?_
     refine wpd_p 10 rfl (by kernel_rfl) trivial (q_fieldPo 3 Try.underlying66 rfl Try.ti3 rfl rfl rfl) rfl sk0 ?_
     refine wpd_t0 11 rfl (by kernel_rfl) trivial (t_stWF Try.ti3 rfl rfl rfl (by omega) (kcs (durT s.ks (i + 1))) (durT_set hik)) (fun _ => skk rfl) (fun _ => ?_)
     refine wpd_done (by kernel_rfl) ?_
     refine ex_block ?_
     refine ex_then ?_
     refine wpc_region ?_
     refine wpl_q (q_pure rfl) rfl ?_
     refine wpl_q (q_addN (b := 1) rfl rfl (by first | omega | (simp only [maxLen]; omega) | (simp only [List.length_append, List.length_cons, List.length_nil, List.length_take, maxLen]; omega) | (simp only [List.length_append, List.length_cons, List.length_nil, List.length_take]; omega))) rfl ?_
     refine wpl_q (q_pure rfl) rfl ?_
     refine wpl_nil ?_
     refine ex_again ⟨i + 1, (by omega)⟩ ?_ ?_ ?_
     ·
      exact (by repeat (first | exact trivial | refine ⟨rfl, ?_⟩))
     ·
      exact fun w h => by first | exact h | exact h.sub SubC.h SubC.h | exact h.sub (by repeat (first | exact Sub.nil | exact Sub.refl _ | with_reducible refine Sub.keep ?_ | refine Sub.drop ?_)) (by repeat (first | exact Sub.nil | exact Sub.refl _ | with_reducible refine Sub.keep ?_ | refine Sub.drop ?_))
     ·
      (show s.ks.length - (i + 1) < s.ks.length - i); omega
    ·
     simp only [decide_eq_false_iff_not] at hc25
     obtain rfl : i = s.ks.length := by omega
     refine wpc_exit ?_
     refine ex_then_exit ?_
     refine ex_then_exit ?_
     refine ex_block_hit ?_
     refine ex_then ?_
     refine wpc_seq ?_
     refine wpc_region ?_
     refine wpl_q (q_ldN Try.underlying27 rfl Try.ti27 rfl (St.c_length hs.len)) rfl ?_
     refine wpl_t0 (t_stA Try.ti27 rfl rfl (St.c_length (by first | exact hs.len | rfl)) (by first | exact St.c_one SV.nil SV.nil SV.nil | exact St.c_one p18 SV.nil q3) (by first | exact St.c_length hs.len | exact St.c_length rfl)) (fun _ => ?_)
     refine wpl_q (q_pure rfl) rfl ?_
     refine wpl_nil ?_
     refine ex_then ?_
     refine wpc_ret ?_
     refine retv2 (.inl rfl) rfl (rv_agg Try.underlying27 rfl Try.ti27 rfl (fun w h => h.atB) (St.c_length (by first | rfl | exact hs.len))) (rv_tmp rfl) ?_
     exact fun w h => ⟨(b18, nl, b13.2.2), by rw [hsy]; exact ⟨by show SV b18 (s.dk ++ s.pd).length; first | exact p18 | (rw [List.length_append]; exact p18), SV.nil, by show SV b13.2.2 (durT s.ks s.ks.length).length; rw [durT_len]; exact q3⟩, by rw [hsy]; rfl, h.below, by rw [hsy]; exact sync_rows (m := (s.dk ++ s.pd).length) (by first | rfl | rw [List.length_append]) (h.sub SubC.h .nil)⟩

set_option maxRecDepth 100000 in
theorem crash (s : St) (dv pv kv : Value) (k : Int) (w : World) (hs : StS w.cell? s dv pv kv)  :
    Calls Try.prog 13 [.agg (s.c dv pv kv).toArray, .int .i64 k].toArray w (GivesP w (fun x : V3 => (crashF s k).1.sv x) (fun x => .tuple #[stV (crashF s k).1 x, .int .i64 (crashF s k).2]) (fun x => [dRow x.1 (crashF s k).1.dk, dRow x.2.1 (crashF s k).1.pd, kRow x.2.2 (crashF s k).1.ks]) (fun _ => [])) := by
  have sdv := hs.d.sv
  have spv := hs.p.sv
  have skv := hs.k.sv
  have l1hs := hs.ld
  have l2hs := hs.lp
  have l3hs := hs.lk
  refine enter (m := 38) (R := Mem w [] [] []) Try.func13 rfl rfl (Nat.le_of_ble_eq_true rfl) (Mem.start w) ?_
  refine wpc_seq ?_
  refine wpc_region ?_
  refine wpl_t (t_box rfl (s.c dv pv kv) rfl) rfl (fun b2 => ?_)
  refine wpl_t (t_alloc Try.ti27 (St.z.c nl nl nl) rfl) rfl (fun b4 => ?_)
  refine wpl_q (q_pure rfl) rfl ?_
  refine wpl_nil ?_
  refine ex_then ?_
  refine wpc_seq ?_
  refine wpc_region ?_
  refine wpl_q (q_ldN Try.underlying27 rfl Try.ti27 rfl (St.c_length hs.len)) rfl ?_
  refine wpl_t (t_pur Try.hb37 rfl fun w h => up_ _ _ _ _ _ w (by first | exact StS.old h hs | exact ⟨hs.len, h.seenV, h.seenV, h.seenV, by omega, by omega, by omega⟩)) rfl (fun b8 => ?_)
  refine wpl_q (q_pure rfl) rfl ?_
  refine wpl_nil ?_
  refine ex_then ?_
  refine wpc_seq ?_
  refine wpc_block ?_
  refine wpc_seq ?_
  refine wpc_region ?_
  refine wpl_q (q_pure rfl) rfl ?_
  refine wpl_q (q_pure rfl) rfl ?_
  refine wpl_q (q_pure rfl) rfl ?_
  refine wpl_nil ?_
  refine ex_then ?_
  refine wpc_cond rfl (fun hc9 => ?_) (fun hc9 => ?_)
  ·
   simp only [bne_iff_ne, ne_eq] at hc9
   refine wpc_seq ?_
   refine wpc_region ?_
   refine wpl_q (q_build (cs := St.z.c nl nl nl) rfl built_st0) rfl ?_
   refine wpl_q (q_pure rfl) rfl ?_
   refine wpl_t0 (t_stA Try.ti27 rfl rfl (St.c_length (by first | exact hs.len | rfl)) (by first | exact St.c_one SV.nil SV.nil SV.nil) (by first | exact St.c_length hs.len | exact St.c_length rfl)) (fun _ => ?_)
   refine wpl_q (q_pure rfl) rfl ?_
   refine wpl_nil ?_
   refine ex_then ?_
   refine wpc_ret ?_
   refine ex_block_ret ?_
   refine ex_then_ret ?_
   refine retv2 (.inl rfl) rfl (rv_agg Try.underlying27 rfl Try.ti27 rfl (fun w h => h.atB) (St.c_length (by first | rfl | exact hs.len))) (rv_tmp rfl) ?_
   exact fun w h => ⟨(nl, nl, nl), by rw [ch1 hc9]; exact zSV, by rw [ch1 hc9]; first | done | rfl, h.below, by rw [ch1 hc9]; exact (zRows h).made SubC.h .nil⟩
  ·
   simp only [bne_eq_false_iff_eq] at hc9
   refine wpc_seq ?_
   refine wpc_region ?_
   refine wpl_q (q_pure rfl) rfl ?_
   refine wpl_q (q_pure rfl) rfl ?_
   refine wpl_q (q_pure rfl) rfl ?_
   refine wpl_bool2 17 16 rfl rfl (fun hb17 => ?_) (fun hb17 => ?_)
   ·
    try simp only [decide_eq_true_eq] at hb17
    refine wpl_off rfl rfl rfl rfl ?_
    refine wpl_off rfl rfl rfl rfl ?_
    refine wpl_off rfl rfl rfl rfl ?_
    refine wpl_off rfl rfl rfl rfl ?_
    refine wpl_off rfl rfl rfl rfl ?_
    refine wpl_q (q_pure rfl) rfl ?_
    refine wpl_q (q_pure rfl) rfl ?_
    refine wpl_nil ?_
    refine ex_then ?_
    refine wpc_cond_t rfl ?_
    refine wpc_seq ?_
    refine wpc_region ?_
    refine wpl_q (q_build (cs := St.z.c nl nl nl) rfl built_st0) rfl ?_
    refine wpl_t0 (t_stA Try.ti27 rfl rfl (St.c_length (by first | exact hs.len | rfl)) (by first | exact St.c_one SV.nil SV.nil SV.nil) (by first | exact St.c_length hs.len | exact St.c_length rfl)) (fun _ => ?_)
    refine wpl_q (q_pure rfl) rfl ?_
    refine wpl_nil ?_
    refine ex_then ?_
    refine wpc_ret ?_
    refine ex_block_ret ?_
    refine ex_then_ret ?_
    refine retv2 (.inl rfl) rfl (rv_agg Try.underlying27 rfl Try.ti27 rfl (fun w h => h.atB) (St.c_length (by first | rfl | exact hs.len))) (rv_tmp rfl) ?_
    exact fun w h => ⟨(nl, nl, nl), by rw [ch2 hc9 (.inl hb17)]; exact zSV, by rw [ch2 hc9 (.inl hb17)]; first | done | rfl, h.below, by rw [ch2 hc9 (.inl hb17)]; exact (zRows h).made SubC.h .nil⟩
   ·
    try simp only [decide_eq_false_iff_not] at hb17
    refine wpl_on rfl rfl ?_
    refine wpl_q (q_pure rfl) rfl ?_
    refine wpl_on rfl rfl ?_
    refine wpl_q (q_field Try.underlying27 rfl Try.ti24 rfl rfl _ rfl) rfl ?_
    refine wpl_on rfl rfl ?_
    refine wpl_q (q_ld Try.underlying24 rfl rfl (by first | exact St.c_b hs.len | exact St.c_u hs.len | exact St.c_d hs.len | exact St.c_p hs.len | exact St.c_k hs.len)) rfl ?_
    refine wpl_on rfl rfl ?_
    refine wpl_q (q_lenW Try.underlying24 rfl (by first | assumption | exact SV.nil | exact SV.slv (by assumption) (by omega) (by omega) | exact arv_sv (by first | decide | (simp only [maxLen]; omega)))) rfl ?_
    refine wpl_on rfl rfl ?_
    refine wpl_q (q_pure rfl) rfl ?_
    refine wpl_q (q_pure rfl) rfl ?_
    refine wpl_q (q_pure rfl) rfl ?_
    refine wpl_nil ?_
    refine ex_then ?_
    refine wpc_cond rfl (fun hc14 => ?_) (fun hc14 => ?_)
    ·
     try simp only [decide_eq_true_eq, gt_iff_lt] at hc14
     refine wpc_seq ?_
     refine wpc_region ?_
     refine wpl_q (q_build (cs := St.z.c nl nl nl) rfl built_st0) rfl ?_
     refine wpl_t0 (t_stA Try.ti27 rfl rfl (St.c_length (by first | exact hs.len | rfl)) (by first | exact St.c_one SV.nil SV.nil SV.nil) (by first | exact St.c_length hs.len | exact St.c_length rfl)) (fun _ => ?_)
     refine wpl_q (q_pure rfl) rfl ?_
     refine wpl_nil ?_
     refine ex_then ?_
     refine wpc_ret ?_
     refine ex_block_ret ?_
     refine ex_then_ret ?_
     refine retv2 (.inl rfl) rfl (rv_agg Try.underlying27 rfl Try.ti27 rfl (fun w h => h.atB) (St.c_length (by first | rfl | exact hs.len))) (rv_tmp rfl) ?_
     exact fun w h => ⟨(nl, nl, nl), by rw [ch2 hc9 (.inr hc14)]; exact zSV, by rw [ch2 hc9 (.inr hc14)]; first | done | rfl, h.below, by rw [ch2 hc9 (.inr hc14)]; exact (zRows h).made SubC.h .nil⟩
    ·
     simp only [decide_eq_false_iff_not, gt_iff_lt] at hc14
     have hk0 : 0 ≤ k := by omega
     obtain ⟨m, rfl⟩ := Int.eq_ofNat_of_zero_le hk0
     have hmp : m ≤ s.pd.length := by omega
     have hch := ch3 hc9 hmp
     have htl := tk_le s.pd m
     refine wpc_skip ?_
     refine ex_block ?_
     refine ex_then ?_
     refine wpc_seq ?_
     refine wpc_draw 9 (by kernel_rfl) (fun _ h => h.drew) ?_
     refine wpd_p 0 rfl (by kernel_rfl) trivial (q_field Try.underlying27 rfl Try.ti24 rfl rfl _ rfl) rfl sk0 ?_
     refine wpd_q 1 rfl (by kernel_rfl) trivial (q_ld Try.underlying24 rfl rfl (by first | exact St.c_b hs.len | exact St.c_u hs.len | exact St.c_d hs.len | exact St.c_p hs.len | exact St.c_k hs.len)) rfl (fun _ h => h) ?_
     refine wpd_p 2 rfl (by kernel_rfl) trivial (q_field Try.underlying27 rfl Try.ti24 rfl rfl _ rfl) rfl sk0 ?_
     refine wpd_q 3 rfl (by kernel_rfl) trivial (q_ld Try.underlying24 rfl rfl (by first | exact St.c_b hs.len | exact St.c_u hs.len | exact St.c_d hs.len | exact St.c_p hs.len | exact St.c_k hs.len)) rfl (fun _ h => h) ?_
     refine wpd_p 4 rfl (by kernel_rfl) trivial (q_pure rfl) rfl sk0 ?_
     refine wpd_p 5 rfl (by kernel_rfl) trivial (q_slWh Try.underlying24 Try.ti5 rfl rfl (by first | assumption | exact SV.nil | exact SV.slv (by assumption) (by omega) (by omega) | exact arv_sv (by first | decide | (simp only [maxLen]; omega))) (by omega)) rfl sk0 ?_
     refine wpd_tp 6 rfl (by kernel_rfl) trivial (t_bsV [dv, slv pv 0 m 1] Try.underlying98 Try.ti24 rfl rfl (by decide) (by decide) rfl (by first | exact v8s_one _ | exact v32s_one _ | exact v64s_one _ | exact vis_one _ | exact vns_one _ | exact v16s_one _ | (intro u hu; simp at hu; rcases hu with h | h <;> subst h <;> rfl) | (intro u hu; simp only [List.mem_cons, List.not_mem_nil, or_false] at hu; subst hu; exact SV.one (by assumption)) | (intro u hu; simp only [List.mem_cons, List.not_mem_nil, or_false] at hu; rcases hu with rfl <;> exact SV.one (by first | assumption | exact SV.nil | exact SV.slv (by assumption) (by omega) (by omega))) | (intro u hu; simp only [List.mem_cons, List.not_mem_nil, or_false] at hu; rcases hu with rfl | rfl <;> exact SV.one (by first | assumption | exact SV.nil | exact SV.slv (by assumption) (by omega) (by omega))) | (intro u hu; simp only [List.mem_cons, List.not_mem_nil, or_false] at hu; rcases hu with rfl | rfl | rfl <;> exact SV.one (by first | assumption | exact SV.nil | exact SV.slv (by assumption) (by omega) (by omega))) | (intro u hu; simp only [List.mem_cons, List.not_mem_nil, or_false] at hu; rcases hu with rfl | rfl | rfl | rfl <;> exact SV.one (by first | assumption | exact SV.nil | exact SV.slv (by assumption) (by omega) (by omega))) | (simp [Value.oneCell']; done))) rfl (fun _ => (fun w h => .inr (h.sub SubC.h SubC.h))) (fun b31 p31 => ?_)
     refine wpd_tp 7 rfl (by kernel_rfl) trivial (t_callP1 Try.hb41 rfl fun w h => concat2 _ dv (slv pv 0 m 1) s.dk (s.pd.take m) w (partsK2 h.seenV (h.seen_old hs.d) (show Seen w.cell? (slv pv 0 m 1) (s.pd.take m).length 1 (v8s (s.pd.take m)) from Seen.re8 (Seen.slv8 (h.seen_old hs.p) 0 m (by omega) (by omega)))) (by rw [List.length_append]; omega)) rfl (fun _ => (fun w h => .inr (h.sub SubC.h SubC.h))) (fun b32 p32 => ?_)
     refine wpd_p 8 rfl (by kernel_rfl) trivial (q_field Try.underlying27 rfl Try.ti24 rfl rfl _ rfl) rfl (fun w h => .inr (h.sub SubC.h SubC.h)) ?_
     refine wpd_t0 9 rfl (by kernel_rfl) trivial (t_st1 Try.ti24 rfl rfl (SV.one (by first | assumption | exact SV.nil | exact SV.slv (by assumption) (by omega) (by omega) | exact arv_sv (by first | decide | (simp only [maxLen]; omega)))) (St.c_lt hs.len (by decide)) _ (by first | exact St.s_d hs.len _ | exact St.s_p hs.len _ | exact St.s_k hs.len _)) (fun _ => skk rfl) (fun _ => ?_)
     refine wpd_done (by kernel_rfl) ?_
     refine ex_then ?_
     refine wpc_seq ?_
     refine wpc_region ?_
     refine wpl_q (q_field Try.underlying27 rfl Try.ti4 rfl rfl _ rfl) rfl ?_
     refine wpl_t0 (t_st1 Try.ti4 rfl rfl rfl (St.c_lt (s := s) hs.len (by decide)) _ (St.s_u hs.len false)) (fun _ => ?_)
     refine wpl_q (q_field Try.underlying27 rfl Try.ti24 rfl rfl _ rfl) rfl ?_
     refine wpl_t0 (t_st1 Try.ti24 rfl rfl (SV.one (by first | assumption | exact SV.nil | exact SV.slv (by assumption) (by omega) (by omega) | exact arv_sv (by first | decide | (simp only [maxLen]; omega)))) (St.c_lt (s := ({ s with up := false } : St)) hs.len (by decide)) _ (St.s_p (s := ({ s with up := false } : St)) hs.len nl)) (fun _ => ?_)
     refine wpl_q (q_field Try.underlying27 rfl Try.ti25 rfl rfl _ rfl) rfl ?_
     refine wpl_t0 (t_st1 Try.ti25 rfl rfl (SV.one (by first | assumption | exact SV.nil | exact SV.slv (by assumption) (by omega) (by omega) | exact arv_sv (by first | decide | (simp only [maxLen]; omega)))) (St.c_lt (s := ({ s with up := false } : St)) hs.len (by decide)) _ (St.s_k (s := ({ s with up := false } : St)) hs.len nl)) (fun _ => ?_)
     refine wpl_nil ?_
     refine ex_then ?_
     refine wpc_seq ?_
     refine wpc_region ?_
     refine wpl_q (q_ldN Try.underlying27 rfl Try.ti27 rfl (St.c_length (s := { s with up := false }) hs.len)) rfl ?_
     refine wpl_t0 (t_stA Try.ti27 rfl rfl (St.c_length (by first | exact hs.len | rfl)) (by first | exact St.c_one SV.nil SV.nil SV.nil | exact St.c_one p32 SV.nil SV.nil) (by first | exact St.c_length hs.len | exact St.c_length rfl)) (fun _ => ?_)
     refine wpl_q (q_pure rfl) rfl ?_
     refine wpl_nil ?_
     refine ex_then ?_
     refine wpc_ret ?_
     refine retv2 (.inl rfl) rfl (rv_agg Try.underlying27 rfl Try.ti27 rfl (fun w h => h.atB) (St.c_length (by first | rfl | exact hs.len))) (rv_tmp rfl) ?_
     exact fun w h => ⟨(b32, nl, nl), by rw [hch]; exact ⟨p32, SV.nil, SV.nil⟩, by rw [hch]; rfl, h.below, by rw [hch]; exact (nilTwo (h.sub SubC.h .nil)).made (Sub.refl _) .nil⟩

set_option maxRecDepth 100000 in
theorem refCrash (s : St) (dv pv kv : Value) (k : Int) (w : World) (hs : StS w.cell? s dv pv kv)  :
    Calls Try.prog 14 [.agg (s.c dv pv kv).toArray, .int .i64 k].toArray w (GivesP w (fun x : V3 => (crashF s k).1.sv x) (fun x => .tuple #[stV (crashF s k).1 x, .int .i64 (crashF s k).2]) (fun x => [dRow x.1 (crashF s k).1.dk, dRow x.2.1 (crashF s k).1.pd, kRow x.2.2 (crashF s k).1.ks]) (fun _ => [])) := by
  have sdv := hs.d.sv
  have spv := hs.p.sv
  have skv := hs.k.sv
  have l1hs := hs.ld
  have l2hs := hs.lp
  have l3hs := hs.lk
  refine enter (m := 34) (R := Mem w [] [] []) Try.func14 rfl rfl (Nat.le_of_ble_eq_true rfl) (Mem.start w) ?_
  refine wpc_seq ?_
  refine wpc_region ?_
  refine wpl_t (t_box rfl (s.c dv pv kv) rfl) rfl (fun b2 => ?_)
  refine wpl_t (t_alloc Try.ti27 (St.z.c nl nl nl) rfl) rfl (fun b4 => ?_)
  refine wpl_q (q_pure rfl) rfl ?_
  refine wpl_nil ?_
  refine ex_then ?_
  refine wpc_seq ?_
  refine wpc_seq ?_
  refine wpc_region ?_
  refine wpl_q (q_ldN Try.underlying27 rfl Try.ti27 rfl (St.c_length hs.len)) rfl ?_
  refine wpl_t (t_pur Try.hb39 rfl fun w h => refUp _ _ _ _ _ w (by first | exact StS.old h hs | exact ⟨hs.len, h.seenV, h.seenV, h.seenV, by omega, by omega, by omega⟩)) rfl (fun b7 => ?_)
  refine wpl_q (q_pure rfl) rfl ?_
  refine wpl_nil ?_
  refine ex_then ?_
  refine wpc_cond rfl (fun hc8 => ?_) (fun hc8 => ?_)
  ·
   simp only [bne_iff_ne, ne_eq] at hc8
   refine wpc_seq ?_
   refine wpc_region ?_
   refine wpl_q (q_build (cs := St.z.c nl nl nl) rfl built_st0) rfl ?_
   refine wpl_q (q_ldN Try.underlying27 rfl Try.ti27 rfl (St.c_length hs.len)) rfl ?_
   refine wpl_t (t_pur Try.hb39 rfl fun w h => refUp _ _ _ _ _ w (by first | exact StS.old h hs | exact ⟨hs.len, h.seenV, h.seenV, h.seenV, by omega, by omega, by omega⟩)) rfl (fun b11 => ?_)
   refine wpl_t0 (t_stA Try.ti27 rfl rfl (St.c_length (by first | exact hs.len | rfl)) (by first | exact St.c_one SV.nil SV.nil SV.nil) (by first | exact St.c_length hs.len | exact St.c_length rfl)) (fun _ => ?_)
   refine wpl_q (q_pure rfl) rfl ?_
   refine wpl_nil ?_
   refine ex_then ?_
   refine wpc_ret ?_
   refine ex_then_ret ?_
   refine retv2 (.inl rfl) rfl (rv_agg Try.underlying27 rfl Try.ti27 rfl (fun w h => h.atB) (St.c_length (by first | rfl | exact hs.len))) (rv_tmp rfl) ?_
   exact fun w h => ⟨(nl, nl, nl), by rw [ch1 hc8]; exact zSV, by rw [ch1 hc8]; first | done | rfl, h.below, by rw [ch1 hc8]; exact (zRows h).made SubC.h .nil⟩
  ·
   simp only [bne_eq_false_iff_eq] at hc8
   refine wpc_skip ?_
   refine ex_then ?_
   refine wpc_seq ?_
   refine wpc_seq ?_
   refine wpc_region ?_
   refine wpl_q (q_pure rfl) rfl ?_
   refine wpl_q (q_pure rfl) rfl ?_
   refine wpl_q (q_pure rfl) rfl ?_
   refine wpl_bool2 14 13 rfl rfl (fun hb14 => ?_) (fun hb14 => ?_)
   ·
    try simp only [decide_eq_true_eq] at hb14
    refine wpl_off rfl rfl rfl rfl ?_
    refine wpl_off rfl rfl rfl rfl ?_
    refine wpl_off rfl rfl rfl rfl ?_
    refine wpl_off rfl rfl rfl rfl ?_
    refine wpl_off rfl rfl rfl rfl ?_
    refine wpl_q (q_pure rfl) rfl ?_
    refine wpl_nil ?_
    refine ex_then ?_
    refine wpc_cond_t rfl ?_
    refine wpc_seq ?_
    refine wpc_region ?_
    refine wpl_q (q_build (cs := St.z.c nl nl nl) rfl built_st0) rfl ?_
    refine wpl_t0 (t_stA Try.ti27 rfl rfl (St.c_length (by first | exact hs.len | rfl)) (by first | exact St.c_one SV.nil SV.nil SV.nil) (by first | exact St.c_length hs.len | exact St.c_length rfl)) (fun _ => ?_)
    refine wpl_q (q_pure rfl) rfl ?_
    refine wpl_nil ?_
    refine ex_then ?_
    refine wpc_ret ?_
    refine ex_then_ret ?_
    refine retv2 (.inl rfl) rfl (rv_agg Try.underlying27 rfl Try.ti27 rfl (fun w h => h.atB) (St.c_length (by first | rfl | exact hs.len))) (rv_tmp rfl) ?_
    exact fun w h => ⟨(nl, nl, nl), by rw [ch2 hc8 (.inl hb14)]; exact zSV, by rw [ch2 hc8 (.inl hb14)]; first | done | rfl, h.below, by rw [ch2 hc8 (.inl hb14)]; exact (zRows h).made SubC.h .nil⟩
   ·
    try simp only [decide_eq_false_iff_not] at hb14
    refine wpl_on rfl rfl ?_
    refine wpl_q (q_pure rfl) rfl ?_
    refine wpl_on rfl rfl ?_
    refine wpl_q (q_field Try.underlying27 rfl Try.ti24 rfl rfl _ rfl) rfl ?_
    refine wpl_on rfl rfl ?_
    refine wpl_q (q_ld Try.underlying24 rfl rfl (by first | exact St.c_b hs.len | exact St.c_u hs.len | exact St.c_d hs.len | exact St.c_p hs.len | exact St.c_k hs.len)) rfl ?_
    refine wpl_on rfl rfl ?_
    refine wpl_q (q_lenW Try.underlying24 rfl (by first | assumption | exact SV.nil | exact SV.slv (by assumption) (by omega) (by omega) | exact arv_sv (by first | decide | (simp only [maxLen]; omega)))) rfl ?_
    refine wpl_on rfl rfl ?_
    refine wpl_q (q_pure rfl) rfl ?_
    refine wpl_q (q_pure rfl) rfl ?_
    refine wpl_nil ?_
    refine ex_then ?_
    refine wpc_cond rfl (fun hc20 => ?_) (fun hc20 => ?_)
    ·
     try simp only [decide_eq_true_eq, gt_iff_lt] at hc20
     refine wpc_seq ?_
     refine wpc_region ?_
     refine wpl_q (q_build (cs := St.z.c nl nl nl) rfl built_st0) rfl ?_
     refine wpl_t0 (t_stA Try.ti27 rfl rfl (St.c_length (by first | exact hs.len | rfl)) (by first | exact St.c_one SV.nil SV.nil SV.nil) (by first | exact St.c_length hs.len | exact St.c_length rfl)) (fun _ => ?_)
     refine wpl_q (q_pure rfl) rfl ?_
     refine wpl_nil ?_
     refine ex_then ?_
     refine wpc_ret ?_
     refine ex_then_ret ?_
     refine retv2 (.inl rfl) rfl (rv_agg Try.underlying27 rfl Try.ti27 rfl (fun w h => h.atB) (St.c_length (by first | rfl | exact hs.len))) (rv_tmp rfl) ?_
     exact fun w h => ⟨(nl, nl, nl), by rw [ch2 hc8 (.inr hc20)]; exact zSV, by rw [ch2 hc8 (.inr hc20)]; first | done | rfl, h.below, by rw [ch2 hc8 (.inr hc20)]; exact (zRows h).made SubC.h .nil⟩
    ·
     simp only [decide_eq_false_iff_not, gt_iff_lt] at hc20
     have hk0 : 0 ≤ k := by omega
     obtain ⟨m, rfl⟩ := Int.eq_ofNat_of_zero_le hk0
     have hmp : m ≤ s.pd.length := by omega
     have hch := ch3 hc8 hmp
     have htl := tk_le s.pd m
     refine wpc_skip ?_
     refine ex_then ?_
     refine wpc_seq ?_
     refine wpc_draw 12 (by kernel_rfl) (fun _ h => h.drew) ?_
     refine wpd_p 0 rfl (by kernel_rfl) trivial (q_field Try.underlying27 rfl Try.ti23 rfl rfl _ rfl) rfl sk0 ?_
     refine wpd_q 1 rfl (by kernel_rfl) trivial (q_ldP Try.underlying23 rfl Try.ti23 rfl (v8s s.ms) (St.c_m hs.len) (by rw [v8s_length]; exact hs.len)) rfl (fun _ h => h) ?_
     refine wpd_p 2 rfl (by kernel_rfl) trivial (q_field Try.underlying27 rfl Try.ti3 rfl rfl _ rfl) rfl sk0 ?_
     refine wpd_q 3 rfl (by kernel_rfl) trivial (q_ld Try.underlying3 rfl rfl (by first | exact St.c_b hs.len | exact St.c_u hs.len | exact St.c_d hs.len | exact St.c_p hs.len | exact St.c_k hs.len)) rfl (fun _ h => h) ?_
     refine wpd_p 4 rfl (by kernel_rfl) trivial (q_field Try.underlying27 rfl Try.ti24 rfl rfl _ rfl) rfl sk0 ?_
     refine wpd_q 5 rfl (by kernel_rfl) trivial (q_ld Try.underlying24 rfl rfl (by first | exact St.c_b hs.len | exact St.c_u hs.len | exact St.c_d hs.len | exact St.c_p hs.len | exact St.c_k hs.len)) rfl (fun _ h => h) ?_
     refine wpd_p 6 rfl (by kernel_rfl) trivial (q_field Try.underlying27 rfl Try.ti24 rfl rfl _ rfl) rfl sk0 ?_
     refine wpd_q 7 rfl (by kernel_rfl) trivial (q_ld Try.underlying24 rfl rfl (by first | exact St.c_b hs.len | exact St.c_u hs.len | exact St.c_d hs.len | exact St.c_p hs.len | exact St.c_k hs.len)) rfl (fun _ h => h) ?_
     refine wpd_p 8 rfl (by kernel_rfl) trivial (q_pure rfl) rfl sk0 ?_
     refine wpd_p 9 rfl (by kernel_rfl) trivial (q_slWh Try.underlying24 Try.ti5 rfl rfl (by first | assumption | exact SV.nil | exact SV.slv (by assumption) (by omega) (by omega) | exact arv_sv (by first | decide | (simp only [maxLen]; omega))) (by omega)) rfl sk0 ?_
     refine wpd_tp 10 rfl (by kernel_rfl) trivial (t_callP1 Try.hb40 rfl fun w h => join_ dv s.dk (slv pv 0 m 1) (s.pd.take m) w (h.seen_old hs.d) (show Seen w.cell? (slv pv 0 m 1) (s.pd.take m).length 1 (v8s (s.pd.take m)) from Seen.re8 (Seen.slv8 (h.seen_old hs.p) 0 m (by omega) (by omega))) (by omega) (by omega)) rfl (fun _ => (fun w h => .inr (h.sub SubC.h SubC.h))) (fun b32 p32 => ?_)
     refine wpd_p 11 rfl (by kernel_rfl) trivial (q_build (cs := (⟨s.ms, s.bt, false, [], [], []⟩ : St).c b32 nl nl) rfl (built_st4 p32 s.ms s.bt hs.len)) rfl (fun w h => .inr (h.sub SubC.h SubC.h)) ?_
     refine wpd_t0 12 rfl (by kernel_rfl) trivial (t_stA Try.ti27 rfl rfl (St.c_length (by first | exact hs.len | rfl)) (by first | exact St.c_one SV.nil SV.nil SV.nil | exact St.c_one p32 SV.nil SV.nil) (by first | exact St.c_length hs.len | exact St.c_length rfl)) (fun _ => skk rfl) (fun _ => ?_)
     refine wpd_p 13 rfl (by kernel_rfl) trivial (q_pure rfl) rfl (skk rfl) ?_
     refine wpd_done (by kernel_rfl) ?_
     refine ex_then ?_
     refine wpc_ret ?_
     refine retv2 (.inl rfl) rfl (rv_agg Try.underlying27 rfl Try.ti27 rfl (fun w h => h.atB) (St.c_length (by first | rfl | exact hs.len))) (rv_tmp rfl) ?_
     exact fun w h => ⟨(b32, nl, nl), by rw [hch]; exact ⟨p32, SV.nil, SV.nil⟩, by rw [hch]; rfl, h.below, by rw [hch]; exact (nilTwo (h.sub SubC.h .nil)).made (Sub.refl _) .nil⟩

end Go.Proofs.Ytoaeklbenmlooaa
