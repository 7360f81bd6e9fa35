/- The law KeystoreStates returns true. -/
import Derived.Test.YtoaeklbenmlooaaKY
namespace Go.Proofs.Ytoaeklbenmlooaa
set_option linter.unusedSimpArgs false
set_option linter.unusedVariables false
open Go Go.PL Go.RowKit

theorem syncF_len {s : St} (h : s.ms.length = 32) : (syncF s).1.ms.length = 32 := by
  unfold syncF; split
  · rfl
  · exact h
theorem crashF_len {s : St} {k : Int} (h : s.ms.length = 32) : (crashF s k).1.ms.length = 32 := by
  unfold crashF; split
  · rfl
  · split
    · rfl
    · exact h
theorem openF_len {s : St} (h : s.ms.length = 32) : (openF s).1.ms.length = 32 := by
  unfold openF; split
  · rfl
  · exact h
theorem takeF_len {s : St} {id : UInt32} (h : s.ms.length = 32) : (takeF s id).2.1.ms.length = 32 := by
  unfold takeF; split
  · rfl
  · split
    · rfl
    · split
      · rfl
      · exact h
theorem upF_len {s : St} {is : Bool} (h : upF s is = 0) : s.dk.length + s.pd.length ≤ 1000 := (upF_ok h).1.2.2.1
theorem syncF_bd {s : St} (h1 : s.dk.length ≤ 1200) (h3 : s.ks.length ≤ 20) : Bd (syncF s).1 := by
  unfold syncF; split
  · exact zBd
  · rename_i hu
    have := upF_len (Decidable.not_not.1 hu)
    exact ⟨by show (s.dk ++ s.pd).length ≤ 1200; rw [List.length_append]; omega, Nat.zero_le 1200, by show (durT s.ks s.ks.length).length ≤ 30; rw [durT_len]; omega⟩
theorem crashF_bd {s : St} {k : Int} (h1 : s.dk.length ≤ 1200) (h3 : s.ks.length ≤ 20) : Bd (crashF s k).1 := by
  unfold crashF; split
  · exact zBd
  · rename_i hu
    have := upF_len (Decidable.not_not.1 hu)
    split
    · exact zBd
    · exact ⟨by show (s.dk ++ s.pd.take k.toNat).length ≤ 1200; rw [List.length_append, List.length_take]; omega, Nat.zero_le 1200, Nat.zero_le 30⟩
theorem openF_bd {s : St} (h1 : s.dk.length ≤ 1200) (h3 : s.ks.length ≤ 20) : Bd (openF s).1 := by
  unfold openF; split
  · exact zBd
  · rename_i hu
    have := upF_len (Decidable.not_not.1 hu)
    have hk := (scanR_ok s.dk).1
    exact ⟨by show (s.dk.take _).length ≤ 1200; rw [List.length_take]; omega, by show s.pd.length ≤ 1200; omega, by show (scanR s.dk).1.length ≤ 30; omega⟩
theorem takeF_bd {s : St} {id : UInt32} (h1 : s.dk.length ≤ 1200) (h2 : s.pd.length ≤ 1200) (h3 : s.ks.length ≤ 20) : Bd (takeF s id).2.1 := by
  unfold takeF; split
  · exact zBd
  · split
    · exact zBd
    · split
      · exact zBd
      · exact ⟨h1, h2, by show (s.ks.set _ _).length ≤ 30; rw [List.length_set]; omega⟩
theorem openF_pd {s : St} : (openF s).1.pd = [] := by
  unfold openF; split
  · rfl
  · rename_i hu; show s.pd = []; exact open_pd (Decidable.not_not.1 hu)
theorem openP_sv {s : St} {pv : Value} (h : SV pv s.pd.length) : SV (openP s pv) (openF s).1.pd.length := by
  by_cases hu : upF s false = 0
  · rw [op2 hu, op2p hu]; exact h
  · rw [op1 hu, op1p hu]; exact SV.nil
theorem openP_seen {r : Rd} {s : St} {pv : Value} (h : Seen r pv s.pd.length 1 (v8s s.pd)) : Seen r (openP s pv) (openF s).1.pd.length 1 (v8s (openF s).1.pd) := by
  by_cases hu : upF s false = 0
  · rw [op2 hu, op2p hu]; exact h
  · rw [op1 hu, op1p hu]; exact seen_nil _ _

set_option maxRecDepth 100000 in
theorem spoil2 (s : St) (dv pv kv : Value) (w : World) (hb : Mem w (nums [dRow dv s.dk, kRow kv s.ks]) [dRow dv s.dk, kRow kv s.ks] [] w) (hln : s.ms.length = 32) (sdv : SV dv s.dk.length) (spv : SV pv s.pd.length) (skv : SV kv s.ks.length) (hp0 : s.pd.length = 0) (hld : s.dk.length ≤ 1200) (hlk : s.ks.length ≤ 30)  :
    Calls Try.prog 20 [.agg (s.c dv pv kv).toArray].toArray w (GivesA w [dRow dv s.dk, kRow kv s.ks] (fun x : List UInt8 × List KE => x.1.length = s.dk.length ∧ x.2.length = s.ks.length) (fun _ => .tuple #[]) (fun x => [dRow dv x.1, kRow kv x.2])) := by
  refine enter (m := 39) (R := Mem w (nums [dRow dv s.dk, kRow kv s.ks]) [dRow dv s.dk, kRow kv s.ks] []) Try.func20 rfl rfl (Nat.le_of_ble_eq_true rfl) hb ?_
  refine wpc_seq ?_
  refine wpc_region ?_
  refine wpl_t (t_box rfl (s.c dv pv kv) rfl) rfl (fun b1 => ?_)
  refine wpl_nil ?_
  refine ex_then ?_
  refine wpc_seq ?_
  refine wpc_seq ?_
  refine wpc_region ?_
  refine wpl_q (q_pure rfl) rfl ?_
  refine wpl_nil ?_
  refine ex_then ?_
  refine wpc_block ?_
  refine wpc_loopc (ι := { x : Nat × List UInt8 // (x.1 ≤ s.dk.length) ∧ (x.2.length = s.dk.length) }) [(1, _)] (fun x Lc => (2, .int .i64 ((x.1.1 : Nat) : Int)) :: Lc) (fun x => Mem w (nums [dRow dv s.dk, kRow kv s.ks]) [.blk b1 27 (s.c dv pv kv), .row dv s.dk.length 5 1 (v8s x.1.2), kRow kv s.ks] []) (fun x => s.dk.length - x.1.1) ⟨(0, s.dk), ⟨Nat.zero_le _, rfl⟩⟩ (by repeat (first | exact trivial | refine ⟨rfl, ?_⟩)) ?_ ?_
  · exact fun w h => h
  · rintro ⟨⟨i, xs⟩, ⟨hi0, hi1⟩⟩; try dsimp only
    have hi0 : i ≤ s.dk.length := hi0; have hi1 : xs.length = s.dk.length := hi1
    refine wpc_seq ?_
    refine wpc_seq ?_
    refine wpc_region ?_
    refine wpl_q (q_pure rfl) rfl ?_
    refine wpl_q (q_field Try.underlying27 rfl Try.ti24 rfl rfl _ rfl) rfl ?_
    refine wpl_q (q_ld Try.underlying24 rfl rfl (by first | exact St.c_b hln | exact St.c_u hln | exact St.c_d hln | exact St.c_p hln | exact St.c_k hln)) rfl ?_
    refine wpl_q (q_lenW Try.underlying24 rfl (by first | assumption | exact SV.nil | exact SV.slv (by assumption) (by omega) (by omega) | exact arv_sv (by first | decide | (simp only [maxLen]; omega)))) rfl ?_
    refine wpl_q (q_pure rfl) rfl ?_
    refine wpl_nil ?_
    refine ex_then ?_
    refine wpc_cond rfl (fun hc9 => ?_) (fun hc9 => ?_)
    ·
      simp only [decide_eq_true_eq] at hc9
      refine wpc_skip ?_
      refine ex_then ?_
      refine wpc_seq ?_
      refine wpc_block ?_
      refine wpc_region ?_
      refine wpl_q (q_field Try.underlying27 rfl Try.ti24 rfl rfl _ rfl) rfl ?_
      refine wpl_q (q_ld Try.underlying24 rfl rfl (by first | exact St.c_b hln | exact St.c_u hln | exact St.c_d hln | exact St.c_p hln | exact St.c_k hln)) rfl ?_
      refine wpl_q (q_pure rfl) rfl ?_
      refine wpl_q (q_idxW1 Try.underlying24 Try.ti5 rfl rfl (by first | assumption | exact SV.nil | exact SV.slv (by assumption) (by omega) (by omega) | exact arv_sv (by first | decide | (simp only [maxLen]; omega))) (by first | omega | (simp only [maxLen]; omega) | (simp only [List.length_append, List.length_cons, List.length_nil, List.length_take, maxLen]; omega) | (simp only [List.length_append, List.length_cons, List.length_nil, List.length_take]; omega))) rfl ?_
      refine wpl_t0 (t_stW Try.ti5 rfl rfl rfl (by first | decide | omega | exact Nat.zero_lt_one | (simp; omega) | (simp; done) | (simp only [v8s_length, v32s_length, vis_length, vns_length, v64s_length]; omega)) _ (set77 xs i)) (fun _ => ?_)
      refine wpl_nil ?_
      refine ex_block ?_
      refine ex_then ?_
      refine wpc_region ?_
      refine wpl_q (q_pure rfl) rfl ?_
      refine wpl_q (q_addN (b := 1) rfl rfl (by first | omega | (simp only [maxLen]; omega) | (simp only [List.length_append, List.length_cons, List.length_nil, List.length_take, maxLen]; omega) | (simp only [List.length_append, List.length_cons, List.length_nil, List.length_take]; omega))) rfl ?_
      refine wpl_q (q_pure rfl) rfl ?_
      refine wpl_nil ?_
      refine ex_again ⟨(i + 1, xs.set i 77), ⟨by omega, by rw [List.length_set]; exact hi1⟩⟩ ?_ ?_ ?_
      · exact (by repeat (first | exact trivial | refine ⟨rfl, ?_⟩))
      · exact fun w h => by first | exact h | exact h.sub (by repeat (first | exact Sub.nil | exact Sub.refl _ | with_reducible refine Sub.keep ?_ | refine Sub.drop ?_)) (by repeat (first | exact Sub.nil | exact Sub.refl _ | with_reducible refine Sub.keep ?_ | refine Sub.drop ?_))
      · (show s.dk.length - (i + 1) < s.dk.length - i); omega
    ·
      simp only [decide_eq_false_iff_not] at hc9
      have hx1 := hi1
      refine wpc_exit ?_
      refine ex_then_exit ?_
      refine ex_then_exit ?_
      refine ex_block_hit ?_
      refine ex_then ?_
      refine wpc_seq ?_
      refine wpc_seq ?_
      refine wpc_region ?_
      refine wpl_q (q_pure rfl) rfl ?_
      refine wpl_nil ?_
      refine ex_then ?_
      refine wpc_block ?_
      refine wpc_loopc (ι := { x : Nat // (x ≤ s.pd.length) }) [(1, _)] (fun x Lc => (3, .int .i64 ((x.1 : Nat) : Int)) :: Lc) (fun x => Mem w (nums [dRow dv s.dk, kRow kv s.ks]) [.blk b1 27 (s.c dv pv kv), .row dv s.dk.length 5 1 (v8s xs), kRow kv s.ks] []) (fun x => s.pd.length - x.1) ⟨0, (Nat.zero_le _)⟩ (by repeat (first | exact trivial | refine ⟨rfl, ?_⟩)) ?_ ?_
      · exact fun w h => h
      · rintro ⟨i, hi0⟩; try dsimp only
        have hi0 : i ≤ s.pd.length := hi0
        refine wpc_seq ?_
        refine wpc_seq ?_
        refine wpc_region ?_
        refine wpl_q (q_pure rfl) rfl ?_
        refine wpl_q (q_field Try.underlying27 rfl Try.ti24 rfl rfl _ rfl) rfl ?_
        refine wpl_q (q_ld Try.underlying24 rfl rfl (by first | exact St.c_b hln | exact St.c_u hln | exact St.c_d hln | exact St.c_p hln | exact St.c_k hln)) rfl ?_
        refine wpl_q (q_lenW Try.underlying24 rfl (by first | assumption | exact SV.nil | exact SV.slv (by assumption) (by omega) (by omega) | exact arv_sv (by first | decide | (simp only [maxLen]; omega)))) rfl ?_
        refine wpl_q (q_pure rfl) rfl ?_
        refine wpl_nil ?_
        refine ex_then ?_
        refine wpc_cond rfl (fun hc20 => ?_) (fun hc20 => ?_)
        ·
          simp only [decide_eq_true_eq] at hc20; omega
        ·
          refine wpc_exit ?_
          refine ex_then_exit ?_
          refine ex_then_exit ?_
          refine ex_block_hit ?_
          refine ex_then ?_
          refine wpc_seq ?_
          refine wpc_region ?_
          refine wpl_q (q_pure rfl) rfl ?_
          refine wpl_nil ?_
          refine ex_then ?_
          refine wpc_block ?_
          refine wpc_loopc (ι := { x : Nat × List KE // (x.1 ≤ s.ks.length) ∧ (x.2.length = s.ks.length) }) [(1, _)] (fun x Lc => (4, .int .i64 ((x.1.1 : Nat) : Int)) :: Lc) (fun x => Mem w (nums [dRow dv s.dk, kRow kv s.ks]) [.blk b1 27 (s.c dv pv kv), .row dv s.dk.length 5 1 (v8s xs), .row kv s.ks.length 66 6 (kcs x.1.2)] []) (fun x => s.ks.length - x.1.1) ⟨(0, s.ks), ⟨Nat.zero_le _, rfl⟩⟩ (by repeat (first | exact trivial | refine ⟨rfl, ?_⟩)) ?_ ?_
          · exact fun w h => h
          · rintro ⟨⟨i, ks⟩, ⟨hi0, hi1⟩⟩; try dsimp only
            have hi0 : i ≤ s.ks.length := hi0; have hi1 : ks.length = s.ks.length := hi1
            refine wpc_seq ?_
            refine wpc_seq ?_
            refine wpc_region ?_
            refine wpl_q (q_pure rfl) rfl ?_
            refine wpl_q (q_field Try.underlying27 rfl Try.ti25 rfl rfl _ rfl) rfl ?_
            refine wpl_q (q_ld Try.underlying25 rfl rfl (by first | exact St.c_b hln | exact St.c_u hln | exact St.c_d hln | exact St.c_p hln | exact St.c_k hln)) rfl ?_
            refine wpl_q (q_lenW Try.underlying25 rfl (by first | assumption | exact SV.nil | exact SV.slv (by assumption) (by omega) (by omega) | exact arv_sv (by first | decide | (simp only [maxLen]; omega)))) rfl ?_
            refine wpl_q (q_pure rfl) rfl ?_
            refine wpl_nil ?_
            refine ex_then ?_
            refine wpc_cond rfl (fun hc31 => ?_) (fun hc31 => ?_)
            ·
              simp only [decide_eq_true_eq] at hc31
              have hkl := kcs_length ks
              have hik : i < ks.length := by omega
              refine wpc_skip ?_
              refine ex_then ?_
              refine wpc_seq ?_
              refine wpc_block ?_
              refine wpc_region ?_
              refine wpl_q (q_field Try.underlying27 rfl Try.ti25 rfl rfl _ rfl) rfl ?_
              refine wpl_q (q_ld Try.underlying25 rfl rfl (by first | exact St.c_b hln | exact St.c_u hln | exact St.c_d hln | exact St.c_p hln | exact St.c_k hln)) rfl ?_
              refine wpl_q (q_pure rfl) rfl ?_
              refine wpl_q (q_idxW Try.underlying25 Try.ti66 rfl rfl (by first | assumption | exact SV.nil | exact SV.slv (by assumption) (by omega) (by omega) | exact arv_sv (by first | decide | (simp only [maxLen]; omega))) (by first | omega | (simp only [maxLen]; omega) | (simp only [List.length_append, List.length_cons, List.length_nil, List.length_take, maxLen]; omega) | (simp only [List.length_append, List.length_cons, List.length_nil, List.length_take]; omega))) rfl ?_
              refine wpl_q (q_fieldPo 2 Try.underlying66 rfl Try.ti3 rfl rfl rfl) rfl ?_
              refine wpl_t0 (t_stWF Try.ti3 rfl rfl rfl (by omega) (kcs (ks.set i { ks.getD i KE.z with nx := 77 })) (kcs_set _ hik rfl (by decide))) (fun _ => ?_)
              refine wpl_nil ?_
              refine ex_block ?_
              refine ex_then ?_
              refine wpc_region ?_
              refine wpl_q (q_pure rfl) rfl ?_
              refine wpl_q (q_addN (b := 1) rfl rfl (by first | omega | (simp only [maxLen]; omega) | (simp only [List.length_append, List.length_cons, List.length_nil, List.length_take, maxLen]; omega) | (simp only [List.length_append, List.length_cons, List.length_nil, List.length_take]; omega))) rfl ?_
              refine wpl_q (q_pure rfl) rfl ?_
              refine wpl_nil ?_
              refine ex_again ⟨(i + 1, ks.set i { ks.getD i KE.z with nx := 77 }), ⟨by omega, by rw [List.length_set]; exact hi1⟩⟩ ?_ ?_ ?_
              · exact (by repeat (first | exact trivial | refine ⟨rfl, ?_⟩))
              · exact fun w h => by first | exact h | exact h.sub (by repeat (first | exact Sub.nil | exact Sub.refl _ | with_reducible refine Sub.keep ?_ | refine Sub.drop ?_)) (by repeat (first | exact Sub.nil | exact Sub.refl _ | with_reducible refine Sub.keep ?_ | refine Sub.drop ?_))
              · (show s.ks.length - (i + 1) < s.ks.length - i); omega
            ·
              simp only [decide_eq_false_iff_not] at hc31
              refine wpc_exit ?_
              refine ex_then_exit ?_
              refine ex_then_exit ?_
              refine ex_block_hit ?_
              refine ret0 (.inr rfl) rfl ?_
              exact fun w h => ⟨(xs, ks), ⟨hx1, hi1⟩, rfl, by dsimp only; rw [dRow_len dv hx1, kRow_len kv hi1]; exact h.sub (by repeat (first | exact Sub.nil | exact Sub.refl _ | with_reducible refine Sub.keep ?_ | refine Sub.drop ?_)) .nil⟩

set_option maxRecDepth 100000 in
theorem lawStates (s : St) (dv pv kv : Value) (id : UInt32) (n : Int) (w : World) (hln : s.ms.length = 32) (hd : Seen w.cell? dv s.dk.length 1 (v8s s.dk)) (hp : Seen w.cell? pv s.pd.length 1 (v8s s.pd)) (hk : Seen w.cell? kv s.ks.length 6 (kcs s.ks))  :
    Calls Try.prog 3 [.agg (s.c dv pv kv).toArray, .int .u32 id.toNat, .int .i64 n].toArray w (Pur w (.bool true)) := by
  refine enter (m := 134) (R := Mem w [] [] []) Try.func3 rfl rfl (Nat.le_of_ble_eq_true rfl) (Mem.start w) ?_
  refine wpc_seq ?_
  refine wpc_region ?_
  refine wpl_t (t_box rfl (s.c dv pv kv) rfl) rfl (fun b3 => ?_)
  refine wpl_q (q_pure rfl) rfl ?_
  refine wpl_nil ?_
  refine ex_then ?_
  refine wpc_seq ?_
  refine wpc_seq ?_
  refine wpc_region ?_
  refine wpl_q (q_ldN Try.underlying27 rfl Try.ti27 rfl (St.c_length hln)) rfl ?_
  refine wpl_t (t_pur Try.hb9 rfl fun w h => refGreat s dv pv kv w hln hd.sv hp.sv hk.sv) rfl (fun b30 => ?_)
  refine wpl_nil ?_
  refine ex_then ?_
  refine wpc_cond rfl (fun hc28 => ?_) (fun hc28 => ?_)
  ·
    refine wpc_seq ?_
    refine wpc_region ?_
    refine wpl_q (q_pure rfl) rfl ?_
    refine wpl_nil ?_
    refine ex_then ?_
    refine wpc_ret ?_
    refine ex_then_ret ?_
    refine ret1 (.inl rfl) rfl rfl ?_
    exact fun w h => ⟨rfl, h.below⟩
  ·
    have hg := great_f hc28
    have hs : StS w.cell? s dv pv kv := ⟨hln, hd, hp, hk, by omega, by omega, by omega⟩
    refine wpc_skip ?_
    refine ex_then ?_
    refine wpc_seq ?_
    refine wpc_region ?_
    refine wpl_q (q_ldN Try.underlying27 rfl Try.ti27 rfl (St.c_length hln)) rfl ?_
    refine wpl_tp (t_callP3 Try.hb10 rfl fun w h => refTwin s dv pv kv w (by first | exact StS.old h hs | exact ⟨hs.len, h.seenV, h.seenV, h.seenV, by omega, by omega, by omega⟩)) rfl (fun b30 p30 => ?_)
    refine wpl_t (t_alloc Try.ti27 (St.z.c nl nl nl) rfl) rfl (fun b7 => ?_)
    refine wpl_t0 (t_stA Try.ti27 rfl rfl (St.c_length (by first | exact hs.len | exact syncF_len hs.len | exact crashF_len hs.len | exact openF_len hs.len | exact takeF_len hs.len)) (by first | exact St.c_one SV.nil SV.nil SV.nil | exact St.c_one p33.1 p33.2.1 p33.2.2 | exact St.c_one p38.1 p38.2.1 p38.2.2 | exact St.c_one p44.1 p44.2.1 p44.2.2 | exact St.c_one p50.1 p50.2.1 p50.2.2 | exact St.c_one p60.1 p60.2.1 p60.2.2 | exact St.c_one p66.1 p66.2.1 p66.2.2 | exact St.c_one p73.1 p73.2.1 p73.2.2 | exact St.c_one p30.1 p30.2.1 p30.2.2 | exact St.c_one p55.1 (openP_sv p30.2.1) p55.2) (by first | exact St.c_length hs.len | exact St.c_length rfl)) (fun _ => ?_)
    refine wpl_nil ?_
    refine ex_then ?_
    refine wpc_seq ?_
    refine wpc_region ?_
    refine wpl_q (q_ldN Try.underlying27 rfl Try.ti27 rfl (St.c_length hln)) rfl ?_
    refine wpl_tp (t_callP3 Try.hb11 rfl fun w h => sync s b30.1 b30.2.1 b30.2.2 w ⟨hs.len, h.seenV, h.seenV, h.seenV, hs.ld, hs.lp, hs.lk⟩) rfl (fun b33 p33 => ?_)
    refine wpl_q (q_pure rfl) rfl ?_
    refine wpl_q (q_pure rfl) rfl ?_
    refine wpl_q (q_pure rfl) rfl ?_
    refine wpl_t (t_alloc Try.ti27 (St.z.c nl nl nl) rfl) rfl (fun b8 => ?_)
    refine wpl_t0 (t_stA Try.ti27 rfl rfl (St.c_length (by first | exact hs.len | exact syncF_len hs.len | exact crashF_len hs.len | exact openF_len hs.len | exact takeF_len hs.len)) (by first | exact St.c_one SV.nil SV.nil SV.nil | exact St.c_one p33.1 p33.2.1 p33.2.2 | exact St.c_one p38.1 p38.2.1 p38.2.2 | exact St.c_one p44.1 p44.2.1 p44.2.2 | exact St.c_one p50.1 p50.2.1 p50.2.2 | exact St.c_one p60.1 p60.2.1 p60.2.2 | exact St.c_one p66.1 p66.2.1 p66.2.2 | exact St.c_one p73.1 p73.2.1 p73.2.2 | exact St.c_one p30.1 p30.2.1 p30.2.2 | exact St.c_one p55.1 (openP_sv p30.2.1) p55.2) (by first | exact St.c_length hs.len | exact St.c_length rfl)) (fun _ => ?_)
    refine wpl_q (q_pure rfl) rfl ?_
    refine wpl_nil ?_
    refine ex_then ?_
    refine wpc_seq ?_
    refine wpc_region ?_
    refine wpl_q (q_ldN Try.underlying27 rfl Try.ti27 rfl (St.c_length hln)) rfl ?_
    refine wpl_tp (t_callP3 Try.hb12 rfl fun w h => refSync s dv pv kv w (StS.old h hs)) rfl (fun b38 p38 => ?_)
    refine wpl_q (q_pure rfl) rfl ?_
    refine wpl_q (q_pure rfl) rfl ?_
    refine wpl_q (q_pure rfl) rfl ?_
    refine wpl_t (t_alloc Try.ti27 (St.z.c nl nl nl) rfl) rfl (fun b10 => ?_)
    refine wpl_t0 (t_stA Try.ti27 rfl rfl (St.c_length (by first | exact hs.len | exact syncF_len hs.len | exact crashF_len hs.len | exact openF_len hs.len | exact takeF_len hs.len)) (by first | exact St.c_one SV.nil SV.nil SV.nil | exact St.c_one p33.1 p33.2.1 p33.2.2 | exact St.c_one p38.1 p38.2.1 p38.2.2 | exact St.c_one p44.1 p44.2.1 p44.2.2 | exact St.c_one p50.1 p50.2.1 p50.2.2 | exact St.c_one p60.1 p60.2.1 p60.2.2 | exact St.c_one p66.1 p66.2.1 p66.2.2 | exact St.c_one p73.1 p73.2.1 p73.2.2 | exact St.c_one p30.1 p30.2.1 p30.2.2 | exact St.c_one p55.1 (openP_sv p30.2.1) p55.2) (by first | exact St.c_length hs.len | exact St.c_length rfl)) (fun _ => ?_)
    refine wpl_q (q_pure rfl) rfl ?_
    refine wpl_nil ?_
    refine ex_then ?_
    refine wpc_seq ?_
    refine wpc_region ?_
    refine wpl_q (q_ldN Try.underlying27 rfl Try.ti27 rfl (St.c_length hln)) rfl ?_
    refine wpl_q (q_pure rfl) rfl ?_
    refine wpl_tp (t_callP3 Try.hb13 rfl fun w h => crash s b30.1 b30.2.1 b30.2.2 n w ⟨hs.len, h.seenV, h.seenV, h.seenV, hs.ld, hs.lp, hs.lk⟩) rfl (fun b44 p44 => ?_)
    refine wpl_q (q_pure rfl) rfl ?_
    refine wpl_q (q_pure rfl) rfl ?_
    refine wpl_q (q_pure rfl) rfl ?_
    refine wpl_t (t_alloc Try.ti27 (St.z.c nl nl nl) rfl) rfl (fun b12 => ?_)
    refine wpl_t0 (t_stA Try.ti27 rfl rfl (St.c_length (by first | exact hs.len | exact syncF_len hs.len | exact crashF_len hs.len | exact openF_len hs.len | exact takeF_len hs.len)) (by first | exact St.c_one SV.nil SV.nil SV.nil | exact St.c_one p33.1 p33.2.1 p33.2.2 | exact St.c_one p38.1 p38.2.1 p38.2.2 | exact St.c_one p44.1 p44.2.1 p44.2.2 | exact St.c_one p50.1 p50.2.1 p50.2.2 | exact St.c_one p60.1 p60.2.1 p60.2.2 | exact St.c_one p66.1 p66.2.1 p66.2.2 | exact St.c_one p73.1 p73.2.1 p73.2.2 | exact St.c_one p30.1 p30.2.1 p30.2.2 | exact St.c_one p55.1 (openP_sv p30.2.1) p55.2) (by first | exact St.c_length hs.len | exact St.c_length rfl)) (fun _ => ?_)
    refine wpl_q (q_pure rfl) rfl ?_
    refine wpl_nil ?_
    refine ex_then ?_
    refine wpc_seq ?_
    refine wpc_region ?_
    refine wpl_q (q_ldN Try.underlying27 rfl Try.ti27 rfl (St.c_length hln)) rfl ?_
    refine wpl_q (q_pure rfl) rfl ?_
    refine wpl_tp (t_callP3 Try.hb14 rfl fun w h => refCrash s dv pv kv n w (StS.old h hs)) rfl (fun b50 p50 => ?_)
    refine wpl_q (q_pure rfl) rfl ?_
    refine wpl_q (q_pure rfl) rfl ?_
    refine wpl_q (q_pure rfl) rfl ?_
    refine wpl_t (t_alloc Try.ti27 (St.z.c nl nl nl) rfl) rfl (fun b14 => ?_)
    refine wpl_t0 (t_stA Try.ti27 rfl rfl (St.c_length (by first | exact hs.len | exact syncF_len hs.len | exact crashF_len hs.len | exact openF_len hs.len | exact takeF_len hs.len)) (by first | exact St.c_one SV.nil SV.nil SV.nil | exact St.c_one p33.1 p33.2.1 p33.2.2 | exact St.c_one p38.1 p38.2.1 p38.2.2 | exact St.c_one p44.1 p44.2.1 p44.2.2 | exact St.c_one p50.1 p50.2.1 p50.2.2 | exact St.c_one p60.1 p60.2.1 p60.2.2 | exact St.c_one p66.1 p66.2.1 p66.2.2 | exact St.c_one p73.1 p73.2.1 p73.2.2 | exact St.c_one p30.1 p30.2.1 p30.2.2 | exact St.c_one p55.1 (openP_sv p30.2.1) p55.2) (by first | exact St.c_length hs.len | exact St.c_length rfl)) (fun _ => ?_)
    refine wpl_q (q_pure rfl) rfl ?_
    refine wpl_nil ?_
    refine ex_then ?_
    refine wpc_seq ?_
    refine wpc_region ?_
    refine wpl_q (q_ldN Try.underlying27 rfl Try.ti27 rfl (St.c_length hln)) rfl ?_
    refine wpl_tp (t_callP2 Try.hb15 rfl fun w h => open_ s b30.1 b30.2.1 b30.2.2 w ⟨hs.len, h.seenV, h.seenV, h.seenV, hs.ld, hs.lp, hs.lk⟩) rfl (fun b55 p55 => ?_)
    refine wpl_q (q_pure rfl) rfl ?_
    refine wpl_q (q_pure rfl) rfl ?_
    refine wpl_q (q_pure rfl) rfl ?_
    refine wpl_t (t_alloc Try.ti27 (St.z.c nl nl nl) rfl) rfl (fun b16 => ?_)
    refine wpl_t0 (t_stA Try.ti27 rfl rfl (St.c_length (by first | exact hs.len | exact syncF_len hs.len | exact crashF_len hs.len | exact openF_len hs.len | exact takeF_len hs.len)) (by first | exact St.c_one SV.nil SV.nil SV.nil | exact St.c_one p33.1 p33.2.1 p33.2.2 | exact St.c_one p38.1 p38.2.1 p38.2.2 | exact St.c_one p44.1 p44.2.1 p44.2.2 | exact St.c_one p50.1 p50.2.1 p50.2.2 | exact St.c_one p60.1 p60.2.1 p60.2.2 | exact St.c_one p66.1 p66.2.1 p66.2.2 | exact St.c_one p73.1 p73.2.1 p73.2.2 | exact St.c_one p30.1 p30.2.1 p30.2.2 | exact St.c_one p55.1 (openP_sv p30.2.1) p55.2) (by first | exact St.c_length hs.len | exact St.c_length rfl)) (fun _ => ?_)
    refine wpl_q (q_pure rfl) rfl ?_
    refine wpl_nil ?_
    refine ex_then ?_
    refine wpc_seq ?_
    refine wpc_region ?_
    refine wpl_q (q_ldN Try.underlying27 rfl Try.ti27 rfl (St.c_length hln)) rfl ?_
    refine wpl_tp (t_callP3 Try.hb16 rfl fun w h => refOpen s dv pv kv w (StS.old h hs)) rfl (fun b60 p60 => ?_)
    refine wpl_q (q_pure rfl) rfl ?_
    refine wpl_q (q_pure rfl) rfl ?_
    refine wpl_q (q_pure rfl) rfl ?_
    refine wpl_t (t_alloc Try.ti27 (St.z.c nl nl nl) rfl) rfl (fun b18 => ?_)
    refine wpl_t0 (t_stA Try.ti27 rfl rfl (St.c_length (by first | exact hs.len | exact syncF_len hs.len | exact crashF_len hs.len | exact openF_len hs.len | exact takeF_len hs.len)) (by first | exact St.c_one SV.nil SV.nil SV.nil | exact St.c_one p33.1 p33.2.1 p33.2.2 | exact St.c_one p38.1 p38.2.1 p38.2.2 | exact St.c_one p44.1 p44.2.1 p44.2.2 | exact St.c_one p50.1 p50.2.1 p50.2.2 | exact St.c_one p60.1 p60.2.1 p60.2.2 | exact St.c_one p66.1 p66.2.1 p66.2.2 | exact St.c_one p73.1 p73.2.1 p73.2.2 | exact St.c_one p30.1 p30.2.1 p30.2.2 | exact St.c_one p55.1 (openP_sv p30.2.1) p55.2) (by first | exact St.c_length hs.len | exact St.c_length rfl)) (fun _ => ?_)
    refine wpl_q (q_pure rfl) rfl ?_
    refine wpl_nil ?_
    refine ex_then ?_
    refine wpc_seq ?_
    refine wpc_region ?_
    refine wpl_q (q_ldN Try.underlying27 rfl Try.ti27 rfl (St.c_length hln)) rfl ?_
    refine wpl_q (q_pure rfl) rfl ?_
    refine wpl_tp (t_callP3 Try.hb17 rfl fun w h => take_ s b30.1 b30.2.1 b30.2.2 id w ⟨hs.len, h.seenV, h.seenV, h.seenV, hs.ld, hs.lp, hs.lk⟩) rfl (fun b66 p66 => ?_)
    refine wpl_q (q_pure rfl) rfl ?_
    refine wpl_q (q_pure rfl) rfl ?_
    refine wpl_q (q_pure rfl) rfl ?_
    refine wpl_q (q_pure rfl) rfl ?_
    refine wpl_t (t_alloc Try.ti27 (St.z.c nl nl nl) rfl) rfl (fun b21 => ?_)
    refine wpl_q (q_pure rfl) rfl ?_
    refine wpl_t0 (t_stA Try.ti27 rfl rfl (St.c_length (by first | exact hs.len | exact syncF_len hs.len | exact crashF_len hs.len | exact openF_len hs.len | exact takeF_len hs.len)) (by first | exact St.c_one SV.nil SV.nil SV.nil | exact St.c_one p33.1 p33.2.1 p33.2.2 | exact St.c_one p38.1 p38.2.1 p38.2.2 | exact St.c_one p44.1 p44.2.1 p44.2.2 | exact St.c_one p50.1 p50.2.1 p50.2.2 | exact St.c_one p60.1 p60.2.1 p60.2.2 | exact St.c_one p66.1 p66.2.1 p66.2.2 | exact St.c_one p73.1 p73.2.1 p73.2.2 | exact St.c_one p30.1 p30.2.1 p30.2.2 | exact St.c_one p55.1 (openP_sv p30.2.1) p55.2) (by first | exact St.c_length hs.len | exact St.c_length rfl)) (fun _ => ?_)
    refine wpl_q (q_pure rfl) rfl ?_
    refine wpl_nil ?_
    refine ex_then ?_
    refine wpc_seq ?_
    refine wpc_region ?_
    refine wpl_q (q_ldN Try.underlying27 rfl Try.ti27 rfl (St.c_length hln)) rfl ?_
    refine wpl_q (q_pure rfl) rfl ?_
    refine wpl_tp (t_callP3 Try.hb18 rfl fun w h => refTake s dv pv kv id w (StS.old h hs)) rfl (fun b73 p73 => ?_)
    refine wpl_q (q_pure rfl) rfl ?_
    refine wpl_q (q_pure rfl) rfl ?_
    refine wpl_q (q_pure rfl) rfl ?_
    refine wpl_q (q_pure rfl) rfl ?_
    refine wpl_t (t_alloc Try.ti27 (St.z.c nl nl nl) rfl) rfl (fun b24 => ?_)
    refine wpl_q (q_pure rfl) rfl ?_
    refine wpl_t0 (t_stA Try.ti27 rfl rfl (St.c_length (by first | exact hs.len | exact syncF_len hs.len | exact crashF_len hs.len | exact openF_len hs.len | exact takeF_len hs.len)) (by first | exact St.c_one SV.nil SV.nil SV.nil | exact St.c_one p33.1 p33.2.1 p33.2.2 | exact St.c_one p38.1 p38.2.1 p38.2.2 | exact St.c_one p44.1 p44.2.1 p44.2.2 | exact St.c_one p50.1 p50.2.1 p50.2.2 | exact St.c_one p60.1 p60.2.1 p60.2.2 | exact St.c_one p66.1 p66.2.1 p66.2.2 | exact St.c_one p73.1 p73.2.1 p73.2.2 | exact St.c_one p30.1 p30.2.1 p30.2.2 | exact St.c_one p55.1 (openP_sv p30.2.1) p55.2) (by first | exact St.c_length hs.len | exact St.c_length rfl)) (fun _ => ?_)
    refine wpl_q (q_pure rfl) rfl ?_
    refine wpl_nil ?_
    refine ex_then ?_
    refine wpc_seq ?_
    refine wpc_region ?_
    refine wpl_q (q_ldN Try.underlying27 rfl Try.ti27 rfl (St.c_length (syncF_len hs.len))) rfl ?_
    refine wpl_q (q_ldN Try.underlying27 rfl Try.ti27 rfl (St.c_length (syncF_len hs.len))) rfl ?_
    refine wpl_t (t_pur (v := .bool true) Try.hb19 rfl fun w h => refSame_ (syncF s).1 b33.1 b33.2.1 b33.2.2 b38.1 b38.2.1 b38.2.2 w (syncF_len hs.len) h.seenV h.seenV h.seenV h.seenV h.seenV h.seenV) rfl (fun b79 => ?_)
    refine wpl_q (q_pure rfl) rfl ?_
    refine wpl_on rfl rfl ?_
    refine wpl_q (q_pure rfl) rfl ?_
    refine wpl_on rfl rfl ?_
    refine wpl_q (q_pure rfl) rfl ?_
    refine wpl_on rfl rfl ?_
    refine wpl_q (q_pure rfl) rfl ?_
    refine wpl_q (q_pure rfl) rfl ?_
    refine wpl_q (q_tru (q_pure rfl) (by simp)) rfl ?_
    refine wpl_on rfl rfl ?_
    refine wpl_q (q_ldN Try.underlying27 rfl Try.ti27 rfl (St.c_length (crashF_len hs.len))) rfl ?_
    refine wpl_on rfl rfl ?_
    refine wpl_q (q_ldN Try.underlying27 rfl Try.ti27 rfl (St.c_length (crashF_len hs.len))) rfl ?_
    refine wpl_on rfl rfl ?_
    refine wpl_t (t_pur (v := .bool true) Try.hb19 rfl fun w h => refSame_ (crashF s n).1 b44.1 b44.2.1 b44.2.2 b50.1 b50.2.1 b50.2.2 w (crashF_len hs.len) h.seenV h.seenV h.seenV h.seenV h.seenV h.seenV) rfl (fun b88 => ?_)
    refine wpl_q (q_pure rfl) rfl ?_
    refine wpl_q (q_pure rfl) rfl ?_
    refine wpl_on rfl rfl ?_
    refine wpl_q (q_pure rfl) rfl ?_
    refine wpl_on rfl rfl ?_
    refine wpl_q (q_pure rfl) rfl ?_
    refine wpl_on rfl rfl ?_
    refine wpl_q (q_pure rfl) rfl ?_
    refine wpl_q (q_pure rfl) rfl ?_
    refine wpl_q (q_tru (q_pure rfl) (by simp)) rfl ?_
    refine wpl_on rfl rfl ?_
    refine wpl_q (q_ldN Try.underlying27 rfl Try.ti27 rfl (St.c_length (openF_len hs.len))) rfl ?_
    refine wpl_on rfl rfl ?_
    refine wpl_q (q_ldN Try.underlying27 rfl Try.ti27 rfl (St.c_length (openF_len hs.len))) rfl ?_
    refine wpl_on rfl rfl ?_
    refine wpl_t (t_pur (v := .bool true) Try.hb19 rfl fun w h => refSame_ (openF s).1 b55.1 (openP s b30.2.1) b55.2 b60.1 b60.2.1 b60.2.2 w (openF_len hs.len) h.seenV (openP_seen h.seenV) h.seenV h.seenV h.seenV h.seenV) rfl (fun b98 => ?_)
    refine wpl_q (q_pure rfl) rfl ?_
    refine wpl_q (q_pure rfl) rfl ?_
    refine wpl_on rfl rfl ?_
    refine wpl_q (q_pure rfl) rfl ?_
    refine wpl_on rfl rfl ?_
    refine wpl_q (q_pure rfl) rfl ?_
    refine wpl_on rfl rfl ?_
    refine wpl_q (q_pure rfl) rfl ?_
    refine wpl_q (q_pure rfl) rfl ?_
    refine wpl_q (q_tru (q_pure rfl) (by simp)) rfl ?_
    refine wpl_on rfl rfl ?_
    refine wpl_q (q_pure rfl) rfl ?_
    refine wpl_on rfl rfl ?_
    refine wpl_q (q_pure rfl) rfl ?_
    refine wpl_on rfl rfl ?_
    refine wpl_q (q_pure rfl) rfl ?_
    refine wpl_q (q_pure rfl) rfl ?_
    refine wpl_q (q_tru (q_pure rfl) (by simp)) rfl ?_
    refine wpl_on rfl rfl ?_
    refine wpl_q (q_ldN Try.underlying27 rfl Try.ti27 rfl (St.c_length (takeF_len hs.len))) rfl ?_
    refine wpl_on rfl rfl ?_
    refine wpl_q (q_ldN Try.underlying27 rfl Try.ti27 rfl (St.c_length (takeF_len hs.len))) rfl ?_
    refine wpl_on rfl rfl ?_
    refine wpl_t (t_pur (v := .bool true) Try.hb19 rfl fun w h => refSame_ (takeF s id).2.1 b66.1 b66.2.1 b66.2.2 b73.1 b73.2.1 b73.2.2 w (takeF_len hs.len) h.seenV h.seenV h.seenV h.seenV h.seenV h.seenV) rfl (fun b113 => ?_)
    refine wpl_q (q_pure rfl) rfl ?_
    refine wpl_q (q_pure rfl) rfl ?_
    refine wpl_on rfl rfl ?_
    refine wpl_q (q_pure rfl) rfl ?_
    refine wpl_on rfl rfl ?_
    refine wpl_q (q_pure rfl) rfl ?_
    refine wpl_on rfl rfl ?_
    refine wpl_q (q_pure rfl) rfl ?_
    refine wpl_q (q_pure rfl) rfl ?_
    refine wpl_q (q_pure rfl) rfl ?_
    refine wpl_nil ?_
    refine ex_then ?_
    refine wpc_seq ?_
    refine wpc_region ?_
    refine wpl_q (q_ldN Try.underlying27 rfl Try.ti27 rfl (St.c_length (syncF_len hs.len))) rfl ?_
    refine wpl_tp (t_callFp [.blk b21 27 ((takeF s id).2.1.c b66.1 b66.2.1 b66.2.2), dRow b66.1 (takeF s id).2.1.dk, dRow b66.2.1 (takeF s id).2.1.pd, kRow b66.2.2 (takeF s id).2.1.ks, .blk b16 27 ((openF s).1.c b55.1 (openP s b30.2.1) b55.2), dRow b55.1 (openF s).1.dk, kRow b55.2 (openF s).1.ks, .blk b12 27 ((crashF s n).1.c b44.1 b44.2.1 b44.2.2), dRow b44.1 (crashF s n).1.dk, dRow b44.2.1 (crashF s n).1.pd, kRow b44.2.2 (crashF s n).1.ks, .blk b8 27 ((syncF s).1.c b33.1 b33.2.1 b33.2.2), dRow b33.1 (syncF s).1.dk, dRow b33.2.1 (syncF s).1.pd, kRow b33.2.2 (syncF s).1.ks, .blk b7 27 (s.c b30.1 b30.2.1 b30.2.2), dRow b30.1 s.dk, dRow b30.2.1 s.pd, kRow b30.2.2 s.ks, .blk b3 27 (s.c dv pv kv)] [dRow b33.1 (syncF s).1.dk, dRow b33.2.1 (syncF s).1.pd, kRow b33.2.2 (syncF s).1.ks] [.blk b21 27 ((takeF s id).2.1.c b66.1 b66.2.1 b66.2.2), dRow b66.1 (takeF s id).2.1.dk, dRow b66.2.1 (takeF s id).2.1.pd, kRow b66.2.2 (takeF s id).2.1.ks, .blk b16 27 ((openF s).1.c b55.1 (openP s b30.2.1) b55.2), dRow b55.1 (openF s).1.dk, kRow b55.2 (openF s).1.ks, .blk b12 27 ((crashF s n).1.c b44.1 b44.2.1 b44.2.2), dRow b44.1 (crashF s n).1.dk, dRow b44.2.1 (crashF s n).1.pd, kRow b44.2.2 (crashF s n).1.ks, .blk b8 27 ((syncF s).1.c b33.1 b33.2.1 b33.2.2), .blk b7 27 (s.c b30.1 b30.2.1 b30.2.2), dRow b30.1 s.dk, dRow b30.2.1 s.pd, kRow b30.2.2 s.ks, .blk b3 27 (s.c dv pv kv)] (fun x => [dRow b33.1 x.1, dRow b33.2.1 x.2.1, kRow b33.2.2 x.2.2, .blk b21 27 ((takeF s id).2.1.c b66.1 b66.2.1 b66.2.2), dRow b66.1 (takeF s id).2.1.dk, dRow b66.2.1 (takeF s id).2.1.pd, kRow b66.2.2 (takeF s id).2.1.ks, .blk b16 27 ((openF s).1.c b55.1 (openP s b30.2.1) b55.2), dRow b55.1 (openF s).1.dk, kRow b55.2 (openF s).1.ks, .blk b12 27 ((crashF s n).1.c b44.1 b44.2.1 b44.2.2), dRow b44.1 (crashF s n).1.dk, dRow b44.2.1 (crashF s n).1.pd, kRow b44.2.2 (crashF s n).1.ks, .blk b8 27 ((syncF s).1.c b33.1 b33.2.1 b33.2.2), .blk b7 27 (s.c b30.1 b30.2.1 b30.2.2), dRow b30.1 s.dk, dRow b30.2.1 s.pd, kRow b30.2.2 s.ks, .blk b3 27 (s.c dv pv kv)]) (by repeat (first | exact Sub.nil | exact Sub.refl _ | with_reducible refine Sub.keep ?_ | refine Sub.drop ?_)) (List.perm_append_comm_assoc (α := Ent) [.blk b21 27 ((takeF s id).2.1.c b66.1 b66.2.1 b66.2.2), dRow b66.1 (takeF s id).2.1.dk, dRow b66.2.1 (takeF s id).2.1.pd, kRow b66.2.2 (takeF s id).2.1.ks, .blk b16 27 ((openF s).1.c b55.1 (openP s b30.2.1) b55.2), dRow b55.1 (openF s).1.dk, kRow b55.2 (openF s).1.ks, .blk b12 27 ((crashF s n).1.c b44.1 b44.2.1 b44.2.2), dRow b44.1 (crashF s n).1.dk, dRow b44.2.1 (crashF s n).1.pd, kRow b44.2.2 (crashF s n).1.ks, .blk b8 27 ((syncF s).1.c b33.1 b33.2.1 b33.2.2)] [dRow b33.1 (syncF s).1.dk, dRow b33.2.1 (syncF s).1.pd, kRow b33.2.2 (syncF s).1.ks] [.blk b7 27 (s.c b30.1 b30.2.1 b30.2.2), dRow b30.1 s.dk, dRow b30.2.1 s.pd, kRow b30.2.2 s.ks, .blk b3 27 (s.c dv pv kv)]) (fun _ => rfl) Try.hb20 rfl fun w h h2 => spoil (syncF s).1 b33.1 b33.2.1 b33.2.2 w h2 (syncF_len hs.len) p33 (syncF_bd hs.ld hg.2.2).d (syncF_bd hs.ld hg.2.2).p (syncF_bd hs.ld hg.2.2).k) rfl (fun b121 p121 => ?_)
    refine wpl_nil ?_
    refine ex_then ?_
    refine wpc_seq ?_
    refine wpc_region ?_
    refine wpl_q (q_ldN Try.underlying27 rfl Try.ti27 rfl (St.c_length (crashF_len hs.len))) rfl ?_
    refine wpl_tp (t_callFp [.blk b21 27 ((takeF s id).2.1.c b66.1 b66.2.1 b66.2.2), dRow b66.1 (takeF s id).2.1.dk, dRow b66.2.1 (takeF s id).2.1.pd, kRow b66.2.2 (takeF s id).2.1.ks, .blk b16 27 ((openF s).1.c b55.1 (openP s b30.2.1) b55.2), dRow b55.1 (openF s).1.dk, kRow b55.2 (openF s).1.ks, .blk b12 27 ((crashF s n).1.c b44.1 b44.2.1 b44.2.2), dRow b44.1 (crashF s n).1.dk, dRow b44.2.1 (crashF s n).1.pd, kRow b44.2.2 (crashF s n).1.ks, .blk b7 27 (s.c b30.1 b30.2.1 b30.2.2), dRow b30.1 s.dk, dRow b30.2.1 s.pd, kRow b30.2.2 s.ks, .blk b3 27 (s.c dv pv kv)] [dRow b44.1 (crashF s n).1.dk, dRow b44.2.1 (crashF s n).1.pd, kRow b44.2.2 (crashF s n).1.ks] [.blk b21 27 ((takeF s id).2.1.c b66.1 b66.2.1 b66.2.2), dRow b66.1 (takeF s id).2.1.dk, dRow b66.2.1 (takeF s id).2.1.pd, kRow b66.2.2 (takeF s id).2.1.ks, .blk b16 27 ((openF s).1.c b55.1 (openP s b30.2.1) b55.2), dRow b55.1 (openF s).1.dk, kRow b55.2 (openF s).1.ks, .blk b12 27 ((crashF s n).1.c b44.1 b44.2.1 b44.2.2), .blk b7 27 (s.c b30.1 b30.2.1 b30.2.2), dRow b30.1 s.dk, dRow b30.2.1 s.pd, kRow b30.2.2 s.ks, .blk b3 27 (s.c dv pv kv)] (fun x => [dRow b44.1 x.1, dRow b44.2.1 x.2.1, kRow b44.2.2 x.2.2, .blk b21 27 ((takeF s id).2.1.c b66.1 b66.2.1 b66.2.2), dRow b66.1 (takeF s id).2.1.dk, dRow b66.2.1 (takeF s id).2.1.pd, kRow b66.2.2 (takeF s id).2.1.ks, .blk b16 27 ((openF s).1.c b55.1 (openP s b30.2.1) b55.2), dRow b55.1 (openF s).1.dk, kRow b55.2 (openF s).1.ks, .blk b12 27 ((crashF s n).1.c b44.1 b44.2.1 b44.2.2), .blk b7 27 (s.c b30.1 b30.2.1 b30.2.2), dRow b30.1 s.dk, dRow b30.2.1 s.pd, kRow b30.2.2 s.ks, .blk b3 27 (s.c dv pv kv)]) (by repeat (first | exact Sub.nil | exact Sub.refl _ | with_reducible refine Sub.keep ?_ | refine Sub.drop ?_)) (List.perm_append_comm_assoc (α := Ent) [.blk b21 27 ((takeF s id).2.1.c b66.1 b66.2.1 b66.2.2), dRow b66.1 (takeF s id).2.1.dk, dRow b66.2.1 (takeF s id).2.1.pd, kRow b66.2.2 (takeF s id).2.1.ks, .blk b16 27 ((openF s).1.c b55.1 (openP s b30.2.1) b55.2), dRow b55.1 (openF s).1.dk, kRow b55.2 (openF s).1.ks, .blk b12 27 ((crashF s n).1.c b44.1 b44.2.1 b44.2.2)] [dRow b44.1 (crashF s n).1.dk, dRow b44.2.1 (crashF s n).1.pd, kRow b44.2.2 (crashF s n).1.ks] [.blk b7 27 (s.c b30.1 b30.2.1 b30.2.2), dRow b30.1 s.dk, dRow b30.2.1 s.pd, kRow b30.2.2 s.ks, .blk b3 27 (s.c dv pv kv)]) (fun _ => rfl) Try.hb20 rfl fun w h h2 => spoil (crashF s n).1 b44.1 b44.2.1 b44.2.2 w h2 (crashF_len hs.len) p44 (crashF_bd hs.ld hg.2.2).d (crashF_bd hs.ld hg.2.2).p (crashF_bd hs.ld hg.2.2).k) rfl (fun b123 p123 => ?_)
    refine wpl_nil ?_
    refine ex_then ?_
    refine wpc_seq ?_
    refine wpc_region ?_
    refine wpl_q (q_ldN Try.underlying27 rfl Try.ti27 rfl (St.c_length (openF_len hs.len))) rfl ?_
    refine wpl_tp (t_callFp [.blk b21 27 ((takeF s id).2.1.c b66.1 b66.2.1 b66.2.2), dRow b66.1 (takeF s id).2.1.dk, dRow b66.2.1 (takeF s id).2.1.pd, kRow b66.2.2 (takeF s id).2.1.ks, .blk b16 27 ((openF s).1.c b55.1 (openP s b30.2.1) b55.2), dRow b55.1 (openF s).1.dk, kRow b55.2 (openF s).1.ks, .blk b7 27 (s.c b30.1 b30.2.1 b30.2.2), dRow b30.1 s.dk, dRow b30.2.1 s.pd, kRow b30.2.2 s.ks, .blk b3 27 (s.c dv pv kv)] [dRow b55.1 (openF s).1.dk, kRow b55.2 (openF s).1.ks] [.blk b21 27 ((takeF s id).2.1.c b66.1 b66.2.1 b66.2.2), dRow b66.1 (takeF s id).2.1.dk, dRow b66.2.1 (takeF s id).2.1.pd, kRow b66.2.2 (takeF s id).2.1.ks, .blk b16 27 ((openF s).1.c b55.1 (openP s b30.2.1) b55.2), .blk b7 27 (s.c b30.1 b30.2.1 b30.2.2), dRow b30.1 s.dk, dRow b30.2.1 s.pd, kRow b30.2.2 s.ks, .blk b3 27 (s.c dv pv kv)] (fun x => [dRow b55.1 x.1, kRow b55.2 x.2, .blk b21 27 ((takeF s id).2.1.c b66.1 b66.2.1 b66.2.2), dRow b66.1 (takeF s id).2.1.dk, dRow b66.2.1 (takeF s id).2.1.pd, kRow b66.2.2 (takeF s id).2.1.ks, .blk b16 27 ((openF s).1.c b55.1 (openP s b30.2.1) b55.2), .blk b7 27 (s.c b30.1 b30.2.1 b30.2.2), dRow b30.1 s.dk, dRow b30.2.1 s.pd, kRow b30.2.2 s.ks, .blk b3 27 (s.c dv pv kv)]) (by repeat (first | exact Sub.nil | exact Sub.refl _ | with_reducible refine Sub.keep ?_ | refine Sub.drop ?_)) (List.perm_append_comm_assoc (α := Ent) [.blk b21 27 ((takeF s id).2.1.c b66.1 b66.2.1 b66.2.2), dRow b66.1 (takeF s id).2.1.dk, dRow b66.2.1 (takeF s id).2.1.pd, kRow b66.2.2 (takeF s id).2.1.ks, .blk b16 27 ((openF s).1.c b55.1 (openP s b30.2.1) b55.2)] [dRow b55.1 (openF s).1.dk, kRow b55.2 (openF s).1.ks] [.blk b7 27 (s.c b30.1 b30.2.1 b30.2.2), dRow b30.1 s.dk, dRow b30.2.1 s.pd, kRow b30.2.2 s.ks, .blk b3 27 (s.c dv pv kv)]) (fun _ => rfl) Try.hb20 rfl fun w h h2 => spoil2 (openF s).1 b55.1 (openP s b30.2.1) b55.2 w h2 (openF_len hs.len) p55.1 (openP_sv p30.2.1) p55.2 (by rw [openF_pd]; rfl) (openF_bd hs.ld hg.2.2).d (openF_bd hs.ld hg.2.2).k) rfl (fun b125 p125 => ?_)
    refine wpl_nil ?_
    refine ex_then ?_
    refine wpc_seq ?_
    refine wpc_region ?_
    refine wpl_q (q_ldN Try.underlying27 rfl Try.ti27 rfl (St.c_length (takeF_len hs.len))) rfl ?_
    refine wpl_tp (t_callFp [.blk b21 27 ((takeF s id).2.1.c b66.1 b66.2.1 b66.2.2), dRow b66.1 (takeF s id).2.1.dk, dRow b66.2.1 (takeF s id).2.1.pd, kRow b66.2.2 (takeF s id).2.1.ks, .blk b7 27 (s.c b30.1 b30.2.1 b30.2.2), dRow b30.1 s.dk, dRow b30.2.1 s.pd, kRow b30.2.2 s.ks, .blk b3 27 (s.c dv pv kv)] [dRow b66.1 (takeF s id).2.1.dk, dRow b66.2.1 (takeF s id).2.1.pd, kRow b66.2.2 (takeF s id).2.1.ks] [.blk b21 27 ((takeF s id).2.1.c b66.1 b66.2.1 b66.2.2), .blk b7 27 (s.c b30.1 b30.2.1 b30.2.2), dRow b30.1 s.dk, dRow b30.2.1 s.pd, kRow b30.2.2 s.ks, .blk b3 27 (s.c dv pv kv)] (fun x => [dRow b66.1 x.1, dRow b66.2.1 x.2.1, kRow b66.2.2 x.2.2, .blk b21 27 ((takeF s id).2.1.c b66.1 b66.2.1 b66.2.2), .blk b7 27 (s.c b30.1 b30.2.1 b30.2.2), dRow b30.1 s.dk, dRow b30.2.1 s.pd, kRow b30.2.2 s.ks, .blk b3 27 (s.c dv pv kv)]) (by repeat (first | exact Sub.nil | exact Sub.refl _ | with_reducible refine Sub.keep ?_ | refine Sub.drop ?_)) (List.perm_append_comm_assoc (α := Ent) [.blk b21 27 ((takeF s id).2.1.c b66.1 b66.2.1 b66.2.2)] [dRow b66.1 (takeF s id).2.1.dk, dRow b66.2.1 (takeF s id).2.1.pd, kRow b66.2.2 (takeF s id).2.1.ks] [.blk b7 27 (s.c b30.1 b30.2.1 b30.2.2), dRow b30.1 s.dk, dRow b30.2.1 s.pd, kRow b30.2.2 s.ks, .blk b3 27 (s.c dv pv kv)]) (fun _ => rfl) Try.hb20 rfl fun w h h2 => spoil (takeF s id).2.1 b66.1 b66.2.1 b66.2.2 w h2 (takeF_len hs.len) p66 (takeF_bd hs.ld hs.lp hg.2.2).d (takeF_bd hs.ld hs.lp hg.2.2).p (takeF_bd hs.ld hs.lp hg.2.2).k) rfl (fun b127 p127 => ?_)
    refine wpl_nil ?_
    refine ex_then ?_
    refine wpc_seq ?_
    refine wpc_region ?_
    refine wpl_q (q_pure rfl) rfl ?_
    refine wpl_q (q_tru (q_pure rfl) (by simp)) rfl ?_
    refine wpl_on rfl rfl ?_
    refine wpl_q (q_ldN Try.underlying27 rfl Try.ti27 rfl (St.c_length hln)) rfl ?_
    refine wpl_on rfl rfl ?_
    refine wpl_q (q_ldN Try.underlying27 rfl Try.ti27 rfl (St.c_length hln)) rfl ?_
    refine wpl_on rfl rfl ?_
    refine wpl_t (t_pur (v := .bool true) Try.hb19 rfl fun w h => refSame_ s b30.1 b30.2.1 b30.2.2 dv pv kv w hs.len h.seenV h.seenV h.seenV (h.seen_old hd) (h.seen_old hp) (h.seen_old hk)) rfl (fun b132 => ?_)
    refine wpl_q (q_pure rfl) rfl ?_
    refine wpl_q (q_pure rfl) rfl ?_
    refine wpl_nil ?_
    refine ex_then ?_
    refine wpc_ret ?_
    refine ret1 (.inl rfl) rfl rfl ?_
    exact fun w h => ⟨by first | rfl | simp, h.below⟩

end Go.Proofs.Ytoaeklbenmlooaa
