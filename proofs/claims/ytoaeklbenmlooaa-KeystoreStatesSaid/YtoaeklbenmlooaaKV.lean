/- The law KeystoreCalls returns true. -/
import Derived.Test.YtoaeklbenmlooaaKU
namespace Go.Proofs.Ytoaeklbenmlooaa
set_option linter.unusedSimpArgs false
set_option linter.unusedVariables false
open Go Go.PL Go.RowKit

theorem newF_len {m : List UInt8} {n : Int} (h : m.length = 32) : (newF m n).1.ms.length = 32 := by
  unfold newF; split
  · rfl
  · exact h
theorem newF_nil (m : List UInt8) (n : Int) : (newF m n).1.dk = [] ∧ (newF m n).1.pd = [] ∧ (newF m n).1.ks = [] := by
  unfold newF; split <;> exact ⟨rfl, rfl, rfl⟩
theorem reserveF_len {s : St} {id : UInt32} (h : s.ms.length = 32) : (reserveF s id).1.ms.length = 32 := by
  unfold reserveF; split
  · rfl
  · split
    · rfl
    · exact writeF_len h
theorem dropF_len {s : St} {id : UInt32} (h : s.ms.length = 32) : (dropF s id).1.ms.length = 32 := by
  unfold dropF; split
  · rfl
  · exact writeF_len h
structure Bd (s : St) : Prop where
  d : s.dk.length ≤ 1200
  p : s.pd.length ≤ 1200
  k : s.ks.length ≤ 30
theorem zBd : Bd St.z := ⟨by decide, by decide, by decide⟩
theorem writeF_bd {s : St} {bs : List UInt8} (h1 : s.dk.length ≤ 1200) (h3 : s.ks.length ≤ 30) (hb : bs.length ≤ 10) : Bd (writeF s bs).1 := by
  unfold writeF; split
  · exact zBd
  · exact ⟨h1, by show (s.pd ++ bs).length ≤ 1200; rw [List.length_append]; omega, h3⟩
theorem createF_bd {s : St} {id : UInt32} {ht : Int} (h1 : s.dk.length ≤ 1200) (h3 : s.ks.length ≤ 20) : Bd (createF s id ht).1 := by
  unfold createF
  split
  · exact zBd
  · split
    · exact zBd
    · split
      · exact zBd
      · split
        · exact zBd
        · exact writeF_bd h1 (by show (s.ks ++ [_]).length ≤ 30; rw [List.length_append, List.length_singleton]; omega) (by rw [recB_length]; decide)
theorem reserveF_bd {s : St} {id : UInt32} (h1 : s.dk.length ≤ 1200) (h3 : s.ks.length ≤ 20) : Bd (reserveF s id).1 := by
  unfold reserveF; split
  · exact zBd
  · split
    · exact zBd
    · exact writeF_bd h1 (by show (s.ks.set _ _).length ≤ 30; rw [List.length_set]; omega) (by rw [recB_length]; decide)
theorem dropF_bd {s : St} {id : UInt32} (h1 : s.dk.length ≤ 1200) (h3 : s.ks.length ≤ 20) : Bd (dropF s id).1 := by
  unfold dropF; split
  · exact zBd
  · exact writeF_bd h1 (by show (s.ks.set _ _).length ≤ 30; rw [List.length_set]; omega) (by rw [recB_length]; decide)
theorem seenN {r : Rd} {xs : List UInt8} (h : xs = []) : Seen r nl xs.length 1 (v8s xs) := by subst h; exact seen_nil _ _
theorem seenNk {r : Rd} {ks : List KE} (h : ks = []) : Seen r nl ks.length 6 (kcs ks) := by subst h; exact seen_nil _ _

set_option maxRecDepth 100000 in
theorem lawCalls (s : St) (dv pv kv : Value) (id : UInt32) (n : Int) (w : World) (hln : s.ms.length = 32) (hd : Seen w.cell? dv s.dk.length 1 (v8s s.dk)) (hp : Seen w.cell? pv s.pd.length 1 (v8s s.pd)) (hk : Seen w.cell? kv s.ks.length 6 (kcs s.ks))  :
    Calls Try.prog 4 [.agg (s.c dv pv kv).toArray, .int .u32 id.toNat, .int .i64 n].toArray w (Pur w (.bool true)) := by
  refine enter (m := 138) (R := Mem w [] [] []) Try.func4 rfl rfl (Nat.le_of_ble_eq_true rfl) (Mem.start w) ?_
  refine wpc_seq ?_
  refine wpc_region ?_
  refine wpl_t (t_box rfl (s.c dv pv kv) rfl) rfl (fun b3 => ?_)
  refine wpl_q (q_pure rfl) rfl ?_
  refine wpl_nil ?_
  refine ex_then ?_
  refine wpc_seq ?_
  refine wpc_seq ?_
  refine wpc_region ?_
  refine wpl_q (q_ldN Try.underlying27 rfl Try.ti27 rfl (St.c_length hln)) rfl ?_
  refine wpl_t (t_pur Try.hb9 rfl fun w h => refGreat s dv pv kv w hln hd.sv hp.sv hk.sv) rfl (fun b26 => ?_)
  refine wpl_nil ?_
  refine ex_then ?_
  refine wpc_cond rfl (fun hc26 => ?_) (fun hc26 => ?_)
  ·
    refine wpc_seq ?_
    refine wpc_region ?_
    refine wpl_q (q_pure rfl) rfl ?_
    refine wpl_nil ?_
    refine ex_then ?_
    refine wpc_ret ?_
    refine ex_then_ret ?_
    refine ret1 (.inl rfl) rfl rfl ?_
    exact fun w h => ⟨rfl, h.below⟩
  ·
    have hg := great_f hc26
    have hs : StS w.cell? s dv pv kv := ⟨hln, hd, hp, hk, by omega, by omega, by omega⟩
    refine wpc_skip ?_
    refine ex_then ?_
    refine wpc_seq ?_
    refine wpc_region ?_
    refine wpl_q (q_ldN Try.underlying27 rfl Try.ti27 rfl (St.c_length hln)) rfl ?_
    refine wpl_tp (t_callP3 Try.hb10 rfl fun w h => refTwin s dv pv kv w (by first | exact StS.old h hs | exact ⟨hs.len, h.seenV, h.seenV, h.seenV, by omega, by omega, by omega⟩)) rfl (fun b28 p28 => ?_)
    refine wpl_t (t_alloc Try.ti27 (St.z.c nl nl nl) rfl) rfl (fun b7 => ?_)
    refine wpl_t0 (t_stA Try.ti27 rfl rfl (St.c_length (by first | exact hs.len | exact createF_len hs.len | exact reserveF_len hs.len | exact dropF_len hs.len | exact newF_len hs.len)) (by first | exact St.c_one SV.nil SV.nil SV.nil | exact St.c_one p33.1 p33.2.1 p33.2.2 | exact St.c_one p40.1 p40.2.1 p40.2.2 | exact St.c_one p46.1 p46.2.1 p46.2.2 | exact St.c_one p52.1 p52.2.1 p52.2.2 | exact St.c_one p58.1 p58.2.1 p58.2.2 | exact St.c_one p64.1 p64.2.1 p64.2.2 | exact St.c_one p28.1 p28.2.1 p28.2.2) (by first | exact St.c_length hs.len | exact St.c_length rfl)) (fun _ => ?_)
    refine wpl_nil ?_
    refine ex_then ?_
    refine wpc_seq ?_
    refine wpc_region ?_
    refine wpl_q (q_ldN Try.underlying27 rfl Try.ti27 rfl (St.c_length hln)) rfl ?_
    refine wpl_q (q_pure rfl) rfl ?_
    refine wpl_q (q_pure rfl) rfl ?_
    refine wpl_tp (t_callP3 Try.hb21 rfl fun w h => create s b28.1 b28.2.1 b28.2.2 id n w ⟨hs.len, h.seenV, h.seenV, h.seenV, hs.ld, hs.lp, hs.lk⟩) rfl (fun b33 p33 => ?_)
    refine wpl_q (q_pure rfl) rfl ?_
    refine wpl_q (q_pure rfl) rfl ?_
    refine wpl_q (q_pure rfl) rfl ?_
    refine wpl_t (t_alloc Try.ti27 (St.z.c nl nl nl) rfl) rfl (fun b8 => ?_)
    refine wpl_t0 (t_stA Try.ti27 rfl rfl (St.c_length (by first | exact hs.len | exact createF_len hs.len | exact reserveF_len hs.len | exact dropF_len hs.len | exact newF_len hs.len)) (by first | exact St.c_one SV.nil SV.nil SV.nil | exact St.c_one p33.1 p33.2.1 p33.2.2 | exact St.c_one p40.1 p40.2.1 p40.2.2 | exact St.c_one p46.1 p46.2.1 p46.2.2 | exact St.c_one p52.1 p52.2.1 p52.2.2 | exact St.c_one p58.1 p58.2.1 p58.2.2 | exact St.c_one p64.1 p64.2.1 p64.2.2 | exact St.c_one p28.1 p28.2.1 p28.2.2) (by first | exact St.c_length hs.len | exact St.c_length rfl)) (fun _ => ?_)
    refine wpl_q (q_pure rfl) rfl ?_
    refine wpl_nil ?_
    refine ex_then ?_
    refine wpc_seq ?_
    refine wpc_region ?_
    refine wpl_q (q_ldN Try.underlying27 rfl Try.ti27 rfl (St.c_length hln)) rfl ?_
    refine wpl_q (q_pure rfl) rfl ?_
    refine wpl_q (q_pure rfl) rfl ?_
    refine wpl_tp (t_callP3 Try.hb22 rfl fun w h => refCreate s dv pv kv id n w (StS.old h hs)) rfl (fun b40 p40 => ?_)
    refine wpl_q (q_pure rfl) rfl ?_
    refine wpl_q (q_pure rfl) rfl ?_
    refine wpl_q (q_pure rfl) rfl ?_
    refine wpl_t (t_alloc Try.ti27 (St.z.c nl nl nl) rfl) rfl (fun b10 => ?_)
    refine wpl_t0 (t_stA Try.ti27 rfl rfl (St.c_length (by first | exact hs.len | exact createF_len hs.len | exact reserveF_len hs.len | exact dropF_len hs.len | exact newF_len hs.len)) (by first | exact St.c_one SV.nil SV.nil SV.nil | exact St.c_one p33.1 p33.2.1 p33.2.2 | exact St.c_one p40.1 p40.2.1 p40.2.2 | exact St.c_one p46.1 p46.2.1 p46.2.2 | exact St.c_one p52.1 p52.2.1 p52.2.2 | exact St.c_one p58.1 p58.2.1 p58.2.2 | exact St.c_one p64.1 p64.2.1 p64.2.2 | exact St.c_one p28.1 p28.2.1 p28.2.2) (by first | exact St.c_length hs.len | exact St.c_length rfl)) (fun _ => ?_)
    refine wpl_q (q_pure rfl) rfl ?_
    refine wpl_nil ?_
    refine ex_then ?_
    refine wpc_seq ?_
    refine wpc_region ?_
    refine wpl_q (q_ldN Try.underlying27 rfl Try.ti27 rfl (St.c_length hln)) rfl ?_
    refine wpl_q (q_pure rfl) rfl ?_
    refine wpl_tp (t_callP3 Try.hb23 rfl fun w h => reserve s b28.1 b28.2.1 b28.2.2 id w ⟨hs.len, h.seenV, h.seenV, h.seenV, hs.ld, hs.lp, hs.lk⟩) rfl (fun b46 p46 => ?_)
    refine wpl_q (q_pure rfl) rfl ?_
    refine wpl_q (q_pure rfl) rfl ?_
    refine wpl_q (q_pure rfl) rfl ?_
    refine wpl_t (t_alloc Try.ti27 (St.z.c nl nl nl) rfl) rfl (fun b12 => ?_)
    refine wpl_t0 (t_stA Try.ti27 rfl rfl (St.c_length (by first | exact hs.len | exact createF_len hs.len | exact reserveF_len hs.len | exact dropF_len hs.len | exact newF_len hs.len)) (by first | exact St.c_one SV.nil SV.nil SV.nil | exact St.c_one p33.1 p33.2.1 p33.2.2 | exact St.c_one p40.1 p40.2.1 p40.2.2 | exact St.c_one p46.1 p46.2.1 p46.2.2 | exact St.c_one p52.1 p52.2.1 p52.2.2 | exact St.c_one p58.1 p58.2.1 p58.2.2 | exact St.c_one p64.1 p64.2.1 p64.2.2 | exact St.c_one p28.1 p28.2.1 p28.2.2) (by first | exact St.c_length hs.len | exact St.c_length rfl)) (fun _ => ?_)
    refine wpl_q (q_pure rfl) rfl ?_
    refine wpl_nil ?_
    refine ex_then ?_
    refine wpc_seq ?_
    refine wpc_region ?_
    refine wpl_q (q_ldN Try.underlying27 rfl Try.ti27 rfl (St.c_length hln)) rfl ?_
    refine wpl_q (q_pure rfl) rfl ?_
    refine wpl_tp (t_callP3 Try.hb24 rfl fun w h => refReserve s dv pv kv id w (StS.old h hs)) rfl (fun b52 p52 => ?_)
    refine wpl_q (q_pure rfl) rfl ?_
    refine wpl_q (q_pure rfl) rfl ?_
    refine wpl_q (q_pure rfl) rfl ?_
    refine wpl_t (t_alloc Try.ti27 (St.z.c nl nl nl) rfl) rfl (fun b14 => ?_)
    refine wpl_t0 (t_stA Try.ti27 rfl rfl (St.c_length (by first | exact hs.len | exact createF_len hs.len | exact reserveF_len hs.len | exact dropF_len hs.len | exact newF_len hs.len)) (by first | exact St.c_one SV.nil SV.nil SV.nil | exact St.c_one p33.1 p33.2.1 p33.2.2 | exact St.c_one p40.1 p40.2.1 p40.2.2 | exact St.c_one p46.1 p46.2.1 p46.2.2 | exact St.c_one p52.1 p52.2.1 p52.2.2 | exact St.c_one p58.1 p58.2.1 p58.2.2 | exact St.c_one p64.1 p64.2.1 p64.2.2 | exact St.c_one p28.1 p28.2.1 p28.2.2) (by first | exact St.c_length hs.len | exact St.c_length rfl)) (fun _ => ?_)
    refine wpl_q (q_pure rfl) rfl ?_
    refine wpl_nil ?_
    refine ex_then ?_
    refine wpc_seq ?_
    refine wpc_region ?_
    refine wpl_q (q_ldN Try.underlying27 rfl Try.ti27 rfl (St.c_length hln)) rfl ?_
    refine wpl_q (q_pure rfl) rfl ?_
    refine wpl_tp (t_callP3 Try.hb25 rfl fun w h => drop_ s b28.1 b28.2.1 b28.2.2 id w ⟨hs.len, h.seenV, h.seenV, h.seenV, hs.ld, hs.lp, hs.lk⟩) rfl (fun b58 p58 => ?_)
    refine wpl_q (q_pure rfl) rfl ?_
    refine wpl_q (q_pure rfl) rfl ?_
    refine wpl_q (q_pure rfl) rfl ?_
    refine wpl_t (t_alloc Try.ti27 (St.z.c nl nl nl) rfl) rfl (fun b16 => ?_)
    refine wpl_t0 (t_stA Try.ti27 rfl rfl (St.c_length (by first | exact hs.len | exact createF_len hs.len | exact reserveF_len hs.len | exact dropF_len hs.len | exact newF_len hs.len)) (by first | exact St.c_one SV.nil SV.nil SV.nil | exact St.c_one p33.1 p33.2.1 p33.2.2 | exact St.c_one p40.1 p40.2.1 p40.2.2 | exact St.c_one p46.1 p46.2.1 p46.2.2 | exact St.c_one p52.1 p52.2.1 p52.2.2 | exact St.c_one p58.1 p58.2.1 p58.2.2 | exact St.c_one p64.1 p64.2.1 p64.2.2 | exact St.c_one p28.1 p28.2.1 p28.2.2) (by first | exact St.c_length hs.len | exact St.c_length rfl)) (fun _ => ?_)
    refine wpl_q (q_pure rfl) rfl ?_
    refine wpl_nil ?_
    refine ex_then ?_
    refine wpc_seq ?_
    refine wpc_region ?_
    refine wpl_q (q_ldN Try.underlying27 rfl Try.ti27 rfl (St.c_length hln)) rfl ?_
    refine wpl_q (q_pure rfl) rfl ?_
    refine wpl_tp (t_callP3 Try.hb26 rfl fun w h => refDrop s dv pv kv id w (StS.old h hs)) rfl (fun b64 p64 => ?_)
    refine wpl_q (q_pure rfl) rfl ?_
    refine wpl_q (q_pure rfl) rfl ?_
    refine wpl_q (q_pure rfl) rfl ?_
    refine wpl_t (t_alloc Try.ti27 (St.z.c nl nl nl) rfl) rfl (fun b18 => ?_)
    refine wpl_t0 (t_stA Try.ti27 rfl rfl (St.c_length (by first | exact hs.len | exact createF_len hs.len | exact reserveF_len hs.len | exact dropF_len hs.len | exact newF_len hs.len)) (by first | exact St.c_one SV.nil SV.nil SV.nil | exact St.c_one p33.1 p33.2.1 p33.2.2 | exact St.c_one p40.1 p40.2.1 p40.2.2 | exact St.c_one p46.1 p46.2.1 p46.2.2 | exact St.c_one p52.1 p52.2.1 p52.2.2 | exact St.c_one p58.1 p58.2.1 p58.2.2 | exact St.c_one p64.1 p64.2.1 p64.2.2 | exact St.c_one p28.1 p28.2.1 p28.2.2) (by first | exact St.c_length hs.len | exact St.c_length rfl)) (fun _ => ?_)
    refine wpl_q (q_pure rfl) rfl ?_
    refine wpl_nil ?_
    refine ex_then ?_
    refine wpc_seq ?_
    refine wpc_region ?_
    refine wpl_q (q_field Try.underlying27 rfl Try.ti23 rfl rfl _ rfl) rfl ?_
    refine wpl_q (q_ldP Try.underlying23 rfl Try.ti23 rfl (v8s s.ms) (St.c_m hs.len) (by rw [v8s_length]; exact hs.len)) rfl ?_
    refine wpl_q (q_pure rfl) rfl ?_
    refine wpl_t (t_pur Try.hb27 rfl fun w h => new_ s.ms n w hs.len) rfl (fun b71 => ?_)
    refine wpl_q (q_pure rfl) rfl ?_
    refine wpl_q (q_pure rfl) rfl ?_
    refine wpl_q (q_pure rfl) rfl ?_
    refine wpl_t (t_alloc Try.ti27 (St.z.c nl nl nl) rfl) rfl (fun b20 => ?_)
    refine wpl_t0 (t_stA Try.ti27 rfl rfl (St.c_length (by first | exact hs.len | exact createF_len hs.len | exact reserveF_len hs.len | exact dropF_len hs.len | exact newF_len hs.len)) (by first | exact St.c_one SV.nil SV.nil SV.nil | exact St.c_one p33.1 p33.2.1 p33.2.2 | exact St.c_one p40.1 p40.2.1 p40.2.2 | exact St.c_one p46.1 p46.2.1 p46.2.2 | exact St.c_one p52.1 p52.2.1 p52.2.2 | exact St.c_one p58.1 p58.2.1 p58.2.2 | exact St.c_one p64.1 p64.2.1 p64.2.2 | exact St.c_one p28.1 p28.2.1 p28.2.2) (by first | exact St.c_length hs.len | exact St.c_length rfl)) (fun _ => ?_)
    refine wpl_q (q_pure rfl) rfl ?_
    refine wpl_nil ?_
    refine ex_then ?_
    refine wpc_seq ?_
    refine wpc_region ?_
    refine wpl_q (q_field Try.underlying27 rfl Try.ti23 rfl rfl _ rfl) rfl ?_
    refine wpl_q (q_ldP Try.underlying23 rfl Try.ti23 rfl (v8s s.ms) (St.c_m hs.len) (by rw [v8s_length]; exact hs.len)) rfl ?_
    refine wpl_q (q_pure rfl) rfl ?_
    refine wpl_t (t_pur Try.hb28 rfl fun w h => refNew s.ms n w hs.len) rfl (fun b78 => ?_)
    refine wpl_q (q_pure rfl) rfl ?_
    refine wpl_q (q_pure rfl) rfl ?_
    refine wpl_q (q_pure rfl) rfl ?_
    refine wpl_t (t_alloc Try.ti27 (St.z.c nl nl nl) rfl) rfl (fun b22 => ?_)
    refine wpl_t0 (t_stA Try.ti27 rfl rfl (St.c_length (by first | exact hs.len | exact createF_len hs.len | exact reserveF_len hs.len | exact dropF_len hs.len | exact newF_len hs.len)) (by first | exact St.c_one SV.nil SV.nil SV.nil | exact St.c_one p33.1 p33.2.1 p33.2.2 | exact St.c_one p40.1 p40.2.1 p40.2.2 | exact St.c_one p46.1 p46.2.1 p46.2.2 | exact St.c_one p52.1 p52.2.1 p52.2.2 | exact St.c_one p58.1 p58.2.1 p58.2.2 | exact St.c_one p64.1 p64.2.1 p64.2.2 | exact St.c_one p28.1 p28.2.1 p28.2.2) (by first | exact St.c_length hs.len | exact St.c_length rfl)) (fun _ => ?_)
    refine wpl_q (q_pure rfl) rfl ?_
    refine wpl_nil ?_
    refine ex_then ?_
    refine wpc_seq ?_
    refine wpc_region ?_
    refine wpl_q (q_ldN Try.underlying27 rfl Try.ti27 rfl (St.c_length (createF_len hs.len))) rfl ?_
    refine wpl_q (q_ldN Try.underlying27 rfl Try.ti27 rfl (St.c_length (createF_len hs.len))) rfl ?_
    refine wpl_t (t_pur (v := .bool true) Try.hb19 rfl fun w h => refSame_ (createF s id n).1 b33.1 b33.2.1 b33.2.2 b40.1 b40.2.1 b40.2.2 w (createF_len hs.len) h.seenV h.seenV h.seenV h.seenV h.seenV h.seenV) rfl (fun b83 => ?_)
    refine wpl_q (q_pure rfl) rfl ?_
    refine wpl_on rfl rfl ?_
    refine wpl_q (q_pure rfl) rfl ?_
    refine wpl_on rfl rfl ?_
    refine wpl_q (q_pure rfl) rfl ?_
    refine wpl_on rfl rfl ?_
    refine wpl_q (q_pure rfl) rfl ?_
    refine wpl_q (q_pure rfl) rfl ?_
    refine wpl_q (q_tru (q_pure rfl) (by simp)) rfl ?_
    refine wpl_on rfl rfl ?_
    refine wpl_q (q_ldN Try.underlying27 rfl Try.ti27 rfl (St.c_length (reserveF_len hs.len))) rfl ?_
    refine wpl_on rfl rfl ?_
    refine wpl_q (q_ldN Try.underlying27 rfl Try.ti27 rfl (St.c_length (reserveF_len hs.len))) rfl ?_
    refine wpl_on rfl rfl ?_
    refine wpl_t (t_pur (v := .bool true) Try.hb19 rfl fun w h => refSame_ (reserveF s id).1 b46.1 b46.2.1 b46.2.2 b52.1 b52.2.1 b52.2.2 w (reserveF_len hs.len) h.seenV h.seenV h.seenV h.seenV h.seenV h.seenV) rfl (fun b92 => ?_)
    refine wpl_q (q_pure rfl) rfl ?_
    refine wpl_q (q_pure rfl) rfl ?_
    refine wpl_on rfl rfl ?_
    refine wpl_q (q_pure rfl) rfl ?_
    refine wpl_on rfl rfl ?_
    refine wpl_q (q_pure rfl) rfl ?_
    refine wpl_on rfl rfl ?_
    refine wpl_q (q_pure rfl) rfl ?_
    refine wpl_q (q_pure rfl) rfl ?_
    refine wpl_q (q_tru (q_pure rfl) (by simp)) rfl ?_
    refine wpl_on rfl rfl ?_
    refine wpl_q (q_ldN Try.underlying27 rfl Try.ti27 rfl (St.c_length (dropF_len hs.len))) rfl ?_
    refine wpl_on rfl rfl ?_
    refine wpl_q (q_ldN Try.underlying27 rfl Try.ti27 rfl (St.c_length (dropF_len hs.len))) rfl ?_
    refine wpl_on rfl rfl ?_
    refine wpl_t (t_pur (v := .bool true) Try.hb19 rfl fun w h => refSame_ (dropF s id).1 b58.1 b58.2.1 b58.2.2 b64.1 b64.2.1 b64.2.2 w (dropF_len hs.len) h.seenV h.seenV h.seenV h.seenV h.seenV h.seenV) rfl (fun b102 => ?_)
    refine wpl_q (q_pure rfl) rfl ?_
    refine wpl_q (q_pure rfl) rfl ?_
    refine wpl_on rfl rfl ?_
    refine wpl_q (q_pure rfl) rfl ?_
    refine wpl_on rfl rfl ?_
    refine wpl_q (q_pure rfl) rfl ?_
    refine wpl_on rfl rfl ?_
    refine wpl_q (q_pure rfl) rfl ?_
    refine wpl_q (q_pure rfl) rfl ?_
    refine wpl_q (q_tru (q_pure rfl) (by simp)) rfl ?_
    refine wpl_on rfl rfl ?_
    refine wpl_q (q_ldN Try.underlying27 rfl Try.ti27 rfl (St.c_length (newF_len hs.len))) rfl ?_
    refine wpl_on rfl rfl ?_
    refine wpl_q (q_ldN Try.underlying27 rfl Try.ti27 rfl (St.c_length (newF_len hs.len))) rfl ?_
    refine wpl_on rfl rfl ?_
    refine wpl_t (t_pur (v := .bool true) Try.hb19 rfl fun w h => refSame_ (newF s.ms n).1 nl nl nl nl nl nl w (newF_len hs.len) (seenN (newF_nil _ _).1) (seenN (newF_nil _ _).2.1) (seenNk (newF_nil _ _).2.2) (seenN (newF_nil _ _).1) (seenN (newF_nil _ _).2.1) (seenNk (newF_nil _ _).2.2)) rfl (fun b112 => ?_)
    refine wpl_q (q_pure rfl) rfl ?_
    refine wpl_q (q_pure rfl) rfl ?_
    refine wpl_on rfl rfl ?_
    refine wpl_q (q_pure rfl) rfl ?_
    refine wpl_on rfl rfl ?_
    refine wpl_q (q_pure rfl) rfl ?_
    refine wpl_on rfl rfl ?_
    refine wpl_q (q_pure rfl) rfl ?_
    refine wpl_q (q_pure rfl) rfl ?_
    refine wpl_q (q_pure rfl) rfl ?_
    refine wpl_nil ?_
    refine ex_then ?_
    refine wpc_seq ?_
    refine wpc_region ?_
    refine wpl_q (q_ldN Try.underlying27 rfl Try.ti27 rfl (St.c_length (createF_len hs.len))) rfl ?_
    refine wpl_tp (t_callFp [.blk b16 27 ((dropF s id).1.c b58.1 b58.2.1 b58.2.2), dRow b58.1 (dropF s id).1.dk, dRow b58.2.1 (dropF s id).1.pd, kRow b58.2.2 (dropF s id).1.ks, .blk b12 27 ((reserveF s id).1.c b46.1 b46.2.1 b46.2.2), dRow b46.1 (reserveF s id).1.dk, dRow b46.2.1 (reserveF s id).1.pd, kRow b46.2.2 (reserveF s id).1.ks, .blk b8 27 ((createF s id n).1.c b33.1 b33.2.1 b33.2.2), dRow b33.1 (createF s id n).1.dk, dRow b33.2.1 (createF s id n).1.pd, kRow b33.2.2 (createF s id n).1.ks, .blk b7 27 (s.c b28.1 b28.2.1 b28.2.2), dRow b28.1 s.dk, dRow b28.2.1 s.pd, kRow b28.2.2 s.ks, .blk b3 27 (s.c dv pv kv)] [dRow b33.1 (createF s id n).1.dk, dRow b33.2.1 (createF s id n).1.pd, kRow b33.2.2 (createF s id n).1.ks] [.blk b16 27 ((dropF s id).1.c b58.1 b58.2.1 b58.2.2), dRow b58.1 (dropF s id).1.dk, dRow b58.2.1 (dropF s id).1.pd, kRow b58.2.2 (dropF s id).1.ks, .blk b12 27 ((reserveF s id).1.c b46.1 b46.2.1 b46.2.2), dRow b46.1 (reserveF s id).1.dk, dRow b46.2.1 (reserveF s id).1.pd, kRow b46.2.2 (reserveF s id).1.ks, .blk b8 27 ((createF s id n).1.c b33.1 b33.2.1 b33.2.2), .blk b7 27 (s.c b28.1 b28.2.1 b28.2.2), dRow b28.1 s.dk, dRow b28.2.1 s.pd, kRow b28.2.2 s.ks, .blk b3 27 (s.c dv pv kv)] (fun x => [dRow b33.1 x.1, dRow b33.2.1 x.2.1, kRow b33.2.2 x.2.2, .blk b16 27 ((dropF s id).1.c b58.1 b58.2.1 b58.2.2), dRow b58.1 (dropF s id).1.dk, dRow b58.2.1 (dropF s id).1.pd, kRow b58.2.2 (dropF s id).1.ks, .blk b12 27 ((reserveF s id).1.c b46.1 b46.2.1 b46.2.2), dRow b46.1 (reserveF s id).1.dk, dRow b46.2.1 (reserveF s id).1.pd, kRow b46.2.2 (reserveF s id).1.ks, .blk b8 27 ((createF s id n).1.c b33.1 b33.2.1 b33.2.2), .blk b7 27 (s.c b28.1 b28.2.1 b28.2.2), dRow b28.1 s.dk, dRow b28.2.1 s.pd, kRow b28.2.2 s.ks, .blk b3 27 (s.c dv pv kv)]) (by repeat (first | exact Sub.nil | exact Sub.refl _ | with_reducible refine Sub.keep ?_ | refine Sub.drop ?_)) (List.perm_append_comm_assoc (α := Ent) [.blk b16 27 ((dropF s id).1.c b58.1 b58.2.1 b58.2.2), dRow b58.1 (dropF s id).1.dk, dRow b58.2.1 (dropF s id).1.pd, kRow b58.2.2 (dropF s id).1.ks, .blk b12 27 ((reserveF s id).1.c b46.1 b46.2.1 b46.2.2), dRow b46.1 (reserveF s id).1.dk, dRow b46.2.1 (reserveF s id).1.pd, kRow b46.2.2 (reserveF s id).1.ks, .blk b8 27 ((createF s id n).1.c b33.1 b33.2.1 b33.2.2)] [dRow b33.1 (createF s id n).1.dk, dRow b33.2.1 (createF s id n).1.pd, kRow b33.2.2 (createF s id n).1.ks] [.blk b7 27 (s.c b28.1 b28.2.1 b28.2.2), dRow b28.1 s.dk, dRow b28.2.1 s.pd, kRow b28.2.2 s.ks, .blk b3 27 (s.c dv pv kv)]) (fun _ => rfl) Try.hb20 rfl fun w h h2 => spoil (createF s id n).1 b33.1 b33.2.1 b33.2.2 w h2 (createF_len hs.len) p33 (createF_bd hs.ld hg.2.2).d (createF_bd hs.ld hg.2.2).p (createF_bd hs.ld hg.2.2).k) rfl (fun b120 p120 => ?_)
    refine wpl_nil ?_
    refine ex_then ?_
    refine wpc_seq ?_
    refine wpc_region ?_
    refine wpl_q (q_ldN Try.underlying27 rfl Try.ti27 rfl (St.c_length (reserveF_len hs.len))) rfl ?_
    refine wpl_tp (t_callFp [.blk b16 27 ((dropF s id).1.c b58.1 b58.2.1 b58.2.2), dRow b58.1 (dropF s id).1.dk, dRow b58.2.1 (dropF s id).1.pd, kRow b58.2.2 (dropF s id).1.ks, .blk b12 27 ((reserveF s id).1.c b46.1 b46.2.1 b46.2.2), dRow b46.1 (reserveF s id).1.dk, dRow b46.2.1 (reserveF s id).1.pd, kRow b46.2.2 (reserveF s id).1.ks, .blk b7 27 (s.c b28.1 b28.2.1 b28.2.2), dRow b28.1 s.dk, dRow b28.2.1 s.pd, kRow b28.2.2 s.ks, .blk b3 27 (s.c dv pv kv)] [dRow b46.1 (reserveF s id).1.dk, dRow b46.2.1 (reserveF s id).1.pd, kRow b46.2.2 (reserveF s id).1.ks] [.blk b16 27 ((dropF s id).1.c b58.1 b58.2.1 b58.2.2), dRow b58.1 (dropF s id).1.dk, dRow b58.2.1 (dropF s id).1.pd, kRow b58.2.2 (dropF s id).1.ks, .blk b12 27 ((reserveF s id).1.c b46.1 b46.2.1 b46.2.2), .blk b7 27 (s.c b28.1 b28.2.1 b28.2.2), dRow b28.1 s.dk, dRow b28.2.1 s.pd, kRow b28.2.2 s.ks, .blk b3 27 (s.c dv pv kv)] (fun x => [dRow b46.1 x.1, dRow b46.2.1 x.2.1, kRow b46.2.2 x.2.2, .blk b16 27 ((dropF s id).1.c b58.1 b58.2.1 b58.2.2), dRow b58.1 (dropF s id).1.dk, dRow b58.2.1 (dropF s id).1.pd, kRow b58.2.2 (dropF s id).1.ks, .blk b12 27 ((reserveF s id).1.c b46.1 b46.2.1 b46.2.2), .blk b7 27 (s.c b28.1 b28.2.1 b28.2.2), dRow b28.1 s.dk, dRow b28.2.1 s.pd, kRow b28.2.2 s.ks, .blk b3 27 (s.c dv pv kv)]) (by repeat (first | exact Sub.nil | exact Sub.refl _ | with_reducible refine Sub.keep ?_ | refine Sub.drop ?_)) (List.perm_append_comm_assoc (α := Ent) [.blk b16 27 ((dropF s id).1.c b58.1 b58.2.1 b58.2.2), dRow b58.1 (dropF s id).1.dk, dRow b58.2.1 (dropF s id).1.pd, kRow b58.2.2 (dropF s id).1.ks, .blk b12 27 ((reserveF s id).1.c b46.1 b46.2.1 b46.2.2)] [dRow b46.1 (reserveF s id).1.dk, dRow b46.2.1 (reserveF s id).1.pd, kRow b46.2.2 (reserveF s id).1.ks] [.blk b7 27 (s.c b28.1 b28.2.1 b28.2.2), dRow b28.1 s.dk, dRow b28.2.1 s.pd, kRow b28.2.2 s.ks, .blk b3 27 (s.c dv pv kv)]) (fun _ => rfl) Try.hb20 rfl fun w h h2 => spoil (reserveF s id).1 b46.1 b46.2.1 b46.2.2 w h2 (reserveF_len hs.len) p46 (reserveF_bd hs.ld hg.2.2).d (reserveF_bd hs.ld hg.2.2).p (reserveF_bd hs.ld hg.2.2).k) rfl (fun b122 p122 => ?_)
    refine wpl_nil ?_
    refine ex_then ?_
    refine wpc_seq ?_
    refine wpc_region ?_
    refine wpl_q (q_ldN Try.underlying27 rfl Try.ti27 rfl (St.c_length (dropF_len hs.len))) rfl ?_
    refine wpl_tp (t_callFp [.blk b16 27 ((dropF s id).1.c b58.1 b58.2.1 b58.2.2), dRow b58.1 (dropF s id).1.dk, dRow b58.2.1 (dropF s id).1.pd, kRow b58.2.2 (dropF s id).1.ks, .blk b7 27 (s.c b28.1 b28.2.1 b28.2.2), dRow b28.1 s.dk, dRow b28.2.1 s.pd, kRow b28.2.2 s.ks, .blk b3 27 (s.c dv pv kv)] [dRow b58.1 (dropF s id).1.dk, dRow b58.2.1 (dropF s id).1.pd, kRow b58.2.2 (dropF s id).1.ks] [.blk b16 27 ((dropF s id).1.c b58.1 b58.2.1 b58.2.2), .blk b7 27 (s.c b28.1 b28.2.1 b28.2.2), dRow b28.1 s.dk, dRow b28.2.1 s.pd, kRow b28.2.2 s.ks, .blk b3 27 (s.c dv pv kv)] (fun x => [dRow b58.1 x.1, dRow b58.2.1 x.2.1, kRow b58.2.2 x.2.2, .blk b16 27 ((dropF s id).1.c b58.1 b58.2.1 b58.2.2), .blk b7 27 (s.c b28.1 b28.2.1 b28.2.2), dRow b28.1 s.dk, dRow b28.2.1 s.pd, kRow b28.2.2 s.ks, .blk b3 27 (s.c dv pv kv)]) (by repeat (first | exact Sub.nil | exact Sub.refl _ | with_reducible refine Sub.keep ?_ | refine Sub.drop ?_)) (List.perm_append_comm_assoc (α := Ent) [.blk b16 27 ((dropF s id).1.c b58.1 b58.2.1 b58.2.2)] [dRow b58.1 (dropF s id).1.dk, dRow b58.2.1 (dropF s id).1.pd, kRow b58.2.2 (dropF s id).1.ks] [.blk b7 27 (s.c b28.1 b28.2.1 b28.2.2), dRow b28.1 s.dk, dRow b28.2.1 s.pd, kRow b28.2.2 s.ks, .blk b3 27 (s.c dv pv kv)]) (fun _ => rfl) Try.hb20 rfl fun w h h2 => spoil (dropF s id).1 b58.1 b58.2.1 b58.2.2 w h2 (dropF_len hs.len) p58 (dropF_bd hs.ld hg.2.2).d (dropF_bd hs.ld hg.2.2).p (dropF_bd hs.ld hg.2.2).k) rfl (fun b124 p124 => ?_)
    refine wpl_nil ?_
    refine ex_then ?_
    refine wpc_seq ?_
    refine wpc_draw 14 (by kernel_rfl) (fun _ h => h.drew) ?_
    refine wpd_p 0 rfl (by kernel_rfl) trivial (q_pure rfl) rfl sk0 ?_
    refine wpd_p 1 rfl (by kernel_rfl) trivial (q_tru (q_pure rfl) (by simp)) rfl sk0 ?_
    refine wpd_q 2 rfl (by kernel_rfl) ⟨_, rfl, rfl⟩ (q_ldN Try.underlying27 rfl Try.ti27 rfl (St.c_length hln)) rfl (fun _ h => h) ?_
    refine wpd_q 3 rfl (by kernel_rfl) ⟨_, rfl, rfl⟩ (q_ldN Try.underlying27 rfl Try.ti27 rfl (St.c_length hln)) rfl (fun _ h => h) ?_
    refine wpd_t 4 rfl (by kernel_rfl) ⟨_, rfl, rfl⟩ (t_pur (v := .bool true) Try.hb19 rfl fun w h => refSame_ s b28.1 b28.2.1 b28.2.2 dv pv kv w hs.len h.seenV h.seenV h.seenV (h.seen_old hd) (h.seen_old hp) (h.seen_old hk)) rfl (fun _ => sk0) (fun b129 => ?_)
    refine wpd_p 5 rfl (by kernel_rfl) trivial (q_pure rfl) rfl sk0 ?_
    refine wpd_p 6 rfl (by kernel_rfl) trivial (q_pure rfl) rfl sk0 ?_
    refine wpd_q 7 rfl (by kernel_rfl) ⟨_, rfl, rfl⟩ (q_ldN Try.underlying27 rfl Try.ti27 rfl (St.c_length hln)) rfl (fun _ h => h) ?_
    refine wpd_q 9 rfl (by kernel_rfl) ⟨_, rfl, rfl⟩ (q_ldN Try.underlying27 rfl Try.ti27 rfl (St.c_length hln)) rfl (fun _ h => h) ?_
    refine wpd_t 8 rfl (by kernel_rfl) ⟨_, rfl, rfl⟩ (t_pur Try.hb29 rfl fun w h => check s b28.1 b28.2.1 b28.2.2 w ⟨hs.len, h.seenV, h.seenV, h.seenV, hs.ld, hs.lp, hs.lk⟩) rfl (fun _ => sk0) (fun b133 => ?_)
    refine wpd_t 10 rfl (by kernel_rfl) ⟨_, rfl, rfl⟩ (t_pur Try.hb30 rfl fun w h => refCheck18 s dv pv kv w (StS.old h hs)) rfl (fun _ => sk0) (fun b135 => ?_)
    refine wpd_p 11 rfl (by kernel_rfl) ⟨_, rfl, rfl⟩ (q_pure rfl) rfl sk0 ?_
    refine wpd_p 12 rfl (by kernel_rfl) trivial (q_pure rfl) rfl sk0 ?_
    refine wpd_p 13 rfl (by kernel_rfl) trivial (q_pure rfl) rfl sk0 ?_
    refine wpd_done (by kernel_rfl) ?_
    refine ex_then ?_
    refine wpc_ret ?_
    refine ret1 (.inl rfl) rfl rfl ?_
    exact fun w h => ⟨by simp, h.below⟩

end Go.Proofs.Ytoaeklbenmlooaa
