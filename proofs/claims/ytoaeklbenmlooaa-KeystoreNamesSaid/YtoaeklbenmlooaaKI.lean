/- Bytes put together. -/
import Derived.Test.YtoaeklbenmlooaaKG
namespace Go.Proofs.Ytoaeklbenmlooaa
set_option linter.unusedSimpArgs false
set_option linter.unusedVariables false
open Go Go.PL Go.RowKit

theorem slv_nil (sz : Nat) : slv (.slice none 0 0) 0 0 sz = .slice none 0 0 := rfl
theorem mem_trim0 {w0 w : World} {Ln : List Nat} {M : List Ent} {v : Value} {m : Nat} {e : TypeId} {sz : Nat} {xs : List Value} (h : Mem w0 Ln (.row v m e sz xs :: M) [] w) (hm : 0 < m) : Mem w0 Ln (.row (slv v 0 0 sz) 0 e sz [] :: M) [] w := by
  have ho := h.own _ (List.mem_cons_self ..)
  obtain ⟨hl, ho | ⟨g, cap, cur, rfl, hb, hg, hn, hc, hs, ht⟩⟩ := ho
  · omega
  have e1 : slv (.slice (some ⟨g, 0, none⟩) m cap) 0 0 sz = .slice (some ⟨g, 0, none⟩) 0 cap := by simp [slv, sliced]; intro _; rfl
  rw [e1]
  refine ⟨h.os, h.tape, h.output, h.size, h.old, fun e he => ?_, fun e he => ?_, ?_, by simp⟩
  · rcases List.mem_cons.1 he with rfl | he
    · exact ⟨by simp, .inr ⟨g, cap, cur, rfl, hb, hg, Nat.zero_le _, hc, hs, by simp⟩⟩
    · exact h.own _ (List.mem_cons_of_mem _ he)
  · rcases List.mem_cons.1 he with rfl | he
    · exact fun k hk => h.new (.row (.slice (some ⟨g, 0, none⟩) m cap) m e sz xs) (List.mem_cons_self ..) k hk
    · exact h.new _ (List.mem_cons_of_mem _ he)
  · have := h.apart
    rw [List.pairwise_cons] at this ⊢
    exact ⟨fun f hf k hk => this.1 f hf k hk, this.2⟩
def PartsK (r : Rd) (v : Value) (ps : List (Value × List UInt8)) : Prop := Seen r v ps.length 1 (ps.map Prod.fst) ∧ ∀ q ∈ ps, Seen r q.1 q.2.length 1 (v8s q.2)
def flatK (ps : List (Value × List UInt8)) (i : Nat) : List UInt8 := ((ps.take i).map Prod.snd).flatten
theorem flatK_succ (ps : List (Value × List UInt8)) (i : Nat) (h : i < ps.length) : flatK ps (i + 1) = flatK ps i ++ (ps.getD i (undef, [])).2 := by
  unfold flatK
  rw [List.take_add_one, List.getD_eq_getElem?_getD, List.getElem?_eq_getElem h, List.map_append, List.flatten_append]
  show _ ++ ([(ps[i]).2] : List (List UInt8)).flatten = _ ++ (ps[i]).2
  simp
theorem flatK_le (ps : List (Value × List UInt8)) (i : Nat) (h : i < ps.length) : (flatK ps i).length + (ps.getD i (undef, [])).2.length ≤ (flatK ps ps.length).length := by
  have e : flatK ps ps.length = flatK ps (i + 1) ++ ((ps.drop (i + 1)).map Prod.snd).flatten := by
    unfold flatK
    rw [← List.flatten_append, ← List.map_append, List.take_append_drop, List.take_length]
  rw [e, flatK_succ ps i h, List.length_append, List.length_append]; omega
theorem flatK_2 (a b : Value × List UInt8) : flatK [a, b] [a, b].length = a.2 ++ b.2 := by simp [flatK]
theorem getD_memK (ps : List (Value × List UInt8)) (i : Nat) (h : i < ps.length) : ps.getD i (undef, []) ∈ ps := by
  rw [List.getD_eq_getElem?_getD, List.getElem?_eq_getElem h]; exact List.getElem_mem h
theorem fst_get (ps : List (Value × List UInt8)) (i : Nat) (h : i < ps.length) : (ps.map Prod.fst)[i]? = some (ps.getD i (undef, [])).1 := by
  rw [List.getElem?_map, List.getD_eq_getElem?_getD, List.getElem?_eq_getElem h]; rfl

set_option maxRecDepth 100000 in
theorem grow (n : Nat) (w : World)  (hn : n ≤ 100000) :
    Calls Try.prog 59 [.slice none 0 0, .int .i64 ((n : Nat) : Int)].toArray w (GivesP w (fun v => SV v 0) (fun v => v) (fun v => [.row v 0 5 1 []]) (fun _ => [])) := by
  refine enter (m := 27) (R := Mem w [] [] []) Try.func59 rfl rfl (Nat.le_of_ble_eq_true rfl) (Mem.start w) ?_
  refine wpc_seq ?_
  refine wpc_region ?_
  refine wpl_q (q_pure rfl) rfl ?_
  refine wpl_nil ?_
  refine ex_then ?_
  refine wpc_seq ?_
  refine wpc_seq ?_
  refine wpc_region ?_
  refine wpl_q (q_pure rfl) rfl ?_
  refine wpl_q (q_pure rfl) rfl ?_
  refine wpl_nil ?_
  refine ex_then ?_
  refine wpc_cond rfl (fun hc6 => ?_) (fun hc6 => ?_)
  ·
   simp only [decide_eq_true_eq] at hc6; omega
  ·
   refine wpc_skip ?_
   refine ex_then ?_
   refine wpc_seq ?_
   refine wpc_seq ?_
   refine wpc_region ?_
   refine wpl_q (q_pure rfl) rfl ?_
   refine wpl_q (q_pure rfl) rfl ?_
   refine wpl_q (q_capW Try.underlying24 rfl) rfl ?_
   refine wpl_q (q_pure rfl) rfl ?_
   refine wpl_q (q_lenW Try.underlying24 rfl (by first | assumption | exact SV.nil | exact SV.slv (by assumption) (by omega) (by omega) | exact arv_sv (by first | decide | (simp only [maxLen]; omega)))) rfl ?_
   first | refine wpl_q (qop_eq (q_pure rfl) (congrArg (Value.int .i64) (wk_i64 (by omega) (by omega)))) rfl ?_ | refine wpl_q (q_pure rfl) rfl ?_
   first | refine wpl_q (qop_eq (q_pure rfl) (congrArg (Value.int .i64) (wk_i64 (by omega) (by omega)))) rfl ?_ | refine wpl_q (q_pure rfl) rfl ?_
   refine wpl_q (q_pure rfl) rfl ?_
   refine wpl_re 1 rfl (show _ = Value.int .i64 ((n : Nat) : Int) from congrArg (Value.int .i64) (by omega)) ?_
   refine wpl_nil ?_
   refine ex_then ?_
   refine wpc_seq ?_
   refine wpc_region ?_
   refine wpl_q (q_pure rfl) rfl ?_
   refine wpl_q (q_pure rfl) rfl ?_
   refine wpl_nil ?_
   refine ex_then ?_
   refine wpc_cond rfl (fun hc16 => ?_) (fun hc16 => ?_)
   ·
    simp only [decide_eq_true_eq, gt_iff_lt] at hc16
    have h0 : 0 < n := by omega
    refine wpc_region ?_
    refine wpl_q (q_pure rfl) rfl ?_
    refine wpl_q (q_pure rfl) rfl ?_
    refine wpl_q (q_capW Try.underlying24 rfl) rfl ?_
    refine wpl_q (q_slWh Try.underlying24 Try.ti5 rfl rfl (by first | assumption | exact SV.nil | exact SV.slv (by assumption) (by omega) (by omega) | exact arv_sv (by first | decide | (simp only [maxLen]; omega))) (by omega)) rfl ?_
    refine wpl_q (q_pure rfl) rfl ?_
    refine wpl_tp (t_apZ Try.underlying24 Try.underlying3 Try.ti5 rfl (by decide) rfl rfl h0 (by simp only [maxLen]; omega) (by omega) _ rfl) rfl (fun b22 p22 => ?_)
    refine wpl_q (q_pure rfl) rfl ?_
    refine wpl_q (q_lenW Try.underlying24 rfl (by first | assumption | exact SV.nil | exact SV.slv (by assumption) (by omega) (by omega) | exact arv_sv (by first | decide | (simp only [maxLen]; omega)))) rfl ?_
    refine wpl_q (q_slWh Try.underlying24 Try.ti5 rfl rfl (by first | assumption | exact SV.nil | exact SV.slv (by assumption) (by omega) (by omega) | exact arv_sv (by first | decide | (simp only [maxLen]; omega))) (by omega)) rfl ?_
    refine wpl_q (q_pure rfl) rfl ?_
    refine wpl_nil ?_
    refine ex_then ?_
    refine wpc_seq ?_
    refine wpc_region ?_
    refine wpl_q (q_pure rfl) rfl ?_
    refine wpl_q (q_pure rfl) rfl ?_
    refine wpl_nil ?_
    refine ex_then ?_
    refine wpc_ret ?_
    refine ret1 (.inl rfl) rfl rfl ?_
    exact fun w h => ⟨slv b22 0 0 1, SV.slv (l := 0) (k := 0) (sz := 1) p22 (by omega) (by omega), rfl, h.below, (mem_trim0 h h0).made SubC.h .nil⟩
   ·
    simp only [decide_eq_false_iff_not, gt_iff_lt] at hc16
    refine wpc_skip ?_
    refine ex_then ?_
    refine wpc_seq ?_
    refine wpc_region ?_
    refine wpl_q (q_pure rfl) rfl ?_
    refine wpl_q (q_pure rfl) rfl ?_
    refine wpl_nil ?_
    refine ex_then ?_
    refine wpc_ret ?_
    refine ret1 (.inl rfl) rfl rfl ?_
    exact fun w h => ⟨.slice none 0 0, SV.nil, rfl, h.below, (h.nilRow 5 1).made (by repeat (first | exact Sub.nil | exact Sub.refl _ | with_reducible refine Sub.keep ?_ | refine Sub.drop ?_)) .nil⟩

set_option maxRecDepth 100000 in
theorem concat (pv : Value) (ps : List (Value × List UInt8)) (w : World) (hP : PartsK w.cell? pv ps) (hlim : (flatK ps ps.length).length ≤ 100000) :
    Calls Try.prog 41 [pv].toArray w (GivesP w (fun v => SV v (flatK ps ps.length).length) (fun v => v) (fun v => [.row v (flatK ps ps.length).length 5 1 (v8s (flatK ps ps.length))]) (fun _ => [])) := by
  have spv := hP.1.sv
  have lpv := spv.le
  simp only [maxLen] at lpv
  refine enter (m := 36) (R := Mem w [] [] []) Try.func41 rfl rfl (Nat.le_of_ble_eq_true rfl) (Mem.start w) ?_
  refine wpc_seq ?_
  refine wpc_region ?_
  refine wpl_q (q_pure rfl) rfl ?_
  refine wpl_nil ?_
  refine ex_then ?_
  refine wpc_seq ?_
  refine wpc_region ?_
  refine wpl_q (q_pure rfl) rfl ?_
  first | refine wpl_re 3 rfl (congrArg (fun n : Nat => Value.int .i64 (n : Int)) hfs) ?_ | skip
  refine wpl_nil ?_
  refine ex_then ?_
  refine wpc_seq ?_
  refine wpc_seq ?_
  refine wpc_region ?_
  refine wpl_q (q_pure rfl) rfl ?_
  refine wpl_q (q_lenW Try.underlying98 rfl (by first | assumption | exact SV.nil | exact SV.slv (by assumption) (by omega) (by omega) | exact arv_sv (by first | decide | (simp only [maxLen]; omega)))) rfl ?_
  refine wpl_q (q_pure rfl) rfl ?_
  refine wpl_nil ?_
  refine ex_then ?_
  refine wpc_block ?_
  refine wpc_loopc (ι := { x : Nat // (x ≤ ps.length) }) [(0, _), (9, _), (10, _)] (fun x Lc => (11, .int .i64 ((x.1 : Nat) : Int)) :: (3, .int .i64 (((flatK ps x.1).length : Nat) : Int)) :: Lc) (fun x => Mem w [] [] []) (fun x => ps.length - x.1) ⟨0, by first | omega | assumption | decide | exact SV.nil | (simp; done) | (dsimp only; omega)⟩ (by repeat (first | exact trivial | refine ⟨rfl, ?_⟩)) ?_ ?_
  ·
   exact fun w h => h
  ·
   rintro ⟨i, hi0⟩; try dsimp only
   have hi0 : i ≤ ps.length := hi0
   refine wpc_seq ?_
   refine wpc_region ?_
   refine wpl_q (q_pure rfl) rfl ?_
   refine wpl_nil ?_
   refine ex_then ?_
   refine wpc_seq ?_
   refine wpc_cond rfl (fun hc12 => ?_) (fun hc12 => ?_)
   ·
    simp only [decide_eq_true_eq] at hc12
    have hi : i < ps.length := by omega
    have hle := flatK_le ps i hi
    have hsq := hP.2 _ (getD_memK ps i hi)
    have ssq := hsq.sv
    have hfs : (flatK ps i).length + (ps.getD i (undef, [])).2.length = (flatK ps (i + 1)).length := by rw [flatK_succ ps i hi, List.length_append]
    refine wpc_skip ?_
    refine ex_then ?_
    refine wpc_seq ?_
    refine wpc_block ?_
    refine wpc_seq ?_
    refine wpc_region ?_
    refine wpl_q (q_idxW1 Try.underlying98 Try.ti24 rfl rfl (by first | assumption | exact SV.nil | exact SV.slv (by assumption) (by omega) (by omega) | exact arv_sv (by first | decide | (simp only [maxLen]; omega))) (by first | omega | (simp only [maxLen]; omega) | (simp only [List.length_append, List.length_cons, List.length_nil, List.length_take, maxLen]; omega) | (simp only [List.length_append, List.length_cons, List.length_nil, List.length_take]; omega))) rfl ?_
    refine wpl_q (q_ldW Try.underlying24 rfl rfl (fun w h => h.seen_old hP.1) (fst_get ps i hi)) rfl ?_
    refine wpl_q (q_pure rfl) rfl ?_
    refine wpl_nil ?_
    refine ex_then ?_
    refine wpc_seq ?_
    refine wpc_region ?_
    refine wpl_q (q_pure rfl) rfl ?_
    refine wpl_q (q_pure rfl) rfl ?_
    refine wpl_q (q_lenW Try.underlying24 rfl (by first | assumption | exact SV.nil | exact SV.slv (by assumption) (by omega) (by omega) | exact arv_sv (by first | decide | (simp only [maxLen]; omega)))) rfl ?_
    refine wpl_q (q_addN rfl rfl (by first | omega | (simp only [maxLen]; omega) | (simp only [List.length_append, List.length_cons, List.length_nil, List.length_take, maxLen]; omega) | (simp only [List.length_append, List.length_cons, List.length_nil, List.length_take]; omega))) rfl ?_
    refine wpl_q (q_pure rfl) rfl ?_
    first | refine wpl_re 3 rfl (congrArg (fun n : Nat => Value.int .i64 (n : Int)) hfs) ?_ | skip
    refine wpl_nil ?_
    refine ex_then ?_
    refine wpc_seq ?_
    refine wpc_region ?_
    refine wpl_q (q_pure rfl) rfl ?_
    refine wpl_q (q_pure rfl) rfl ?_
    refine wpl_nil ?_
    refine ex_then ?_
    refine wpc_cond rfl (fun hc20 => ?_) (fun hc20 => ?_)
    ·
     simp only [decide_eq_true_eq] at hc20; omega
    ·
     refine wpc_skip ?_
     refine ex_block ?_
     refine ex_then ?_
     refine wpc_region ?_
     refine wpl_q (q_addN (b := 1) rfl rfl (by first | omega | (simp only [maxLen]; omega) | (simp only [List.length_append, List.length_cons, List.length_nil, List.length_take, maxLen]; omega) | (simp only [List.length_append, List.length_cons, List.length_nil, List.length_take]; omega))) rfl ?_
     refine wpl_q (q_pure rfl) rfl ?_
     refine wpl_nil ?_
     refine ex_again ⟨i + 1, by first | omega | assumption | decide | exact SV.nil | (simp; done) | (dsimp only; omega)⟩ ?_ ?_ ?_
     ·
      exact (by repeat (first | exact trivial | refine ⟨rfl, ?_⟩))
     ·
      exact fun w h => by first | exact h | exact h.sub SubC.h SubC.h | exact h.sub (by repeat (first | exact Sub.nil | exact Sub.refl _ | with_reducible refine Sub.keep ?_ | refine Sub.drop ?_)) (by repeat (first | exact Sub.nil | exact Sub.refl _ | with_reducible refine Sub.keep ?_ | refine Sub.drop ?_))
     ·
      (show ps.length - (i + 1) < ps.length - i); omega
   ·
    simp only [decide_eq_false_iff_not] at hc12
    obtain rfl : i = ps.length := by omega
    refine wpc_exit ?_
    refine ex_then_exit ?_
    refine ex_then_exit ?_
    refine ex_block_hit ?_
    refine ex_then ?_
    refine wpc_seq ?_
    refine wpc_region ?_
    refine wpl_q (q_pure rfl) rfl ?_
    refine wpl_tp (t_callP1 Try.hb59 rfl fun w h => grow _ w hlim) rfl (fun b24 p24 => ?_)
    refine wpl_q (q_pure rfl) rfl ?_
    refine wpl_nil ?_
    refine ex_then ?_
    refine wpc_seq ?_
    refine wpc_seq ?_
    refine wpc_region ?_
    refine wpl_q (q_pure rfl) rfl ?_
    refine wpl_q (q_lenW Try.underlying98 rfl (by first | assumption | exact SV.nil | exact SV.slv (by assumption) (by omega) (by omega) | exact arv_sv (by first | decide | (simp only [maxLen]; omega)))) rfl ?_
    refine wpl_q (q_pure rfl) rfl ?_
    refine wpl_nil ?_
    refine ex_then ?_
    refine wpc_block ?_
    refine wpc_loopc (ι := { x : Nat × Value // (x.1 ≤ ps.length) ∧ (SV x.2 (flatK ps x.1).length) }) [(25, _), (26, _)] (fun x Lc => (27, .int .i64 ((x.1.1 : Nat) : Int)) :: (6, x.1.2) :: Lc) (fun x => Mem w [] [.row x.1.2 (flatK ps x.1.1).length 5 1 (v8s (flatK ps x.1.1))] []) (fun x => ps.length - x.1.1) ⟨(0, b24), ⟨Nat.zero_le _, p24⟩⟩ (by repeat (first | exact trivial | refine ⟨rfl, ?_⟩)) ?_ ?_
    ·
     exact fun w h => h
    ·
     rintro ⟨⟨i, v⟩, ⟨hi0, hi1⟩⟩; try dsimp only
     have hi0 : i ≤ ps.length := hi0; have hi1 : SV v (flatK ps i).length := hi1
     refine wpc_seq ?_
     refine wpc_region ?_
     refine wpl_q (q_pure rfl) rfl ?_
     refine wpl_nil ?_
     refine ex_then ?_
     refine wpc_seq ?_
     refine wpc_cond rfl (fun hc28 => ?_) (fun hc28 => ?_)
     ·
      simp only [decide_eq_true_eq] at hc28
      have hi : i < ps.length := by omega
      have hle := flatK_le ps i hi
      have hsq := hP.2 _ (getD_memK ps i hi)
      have ssq := hsq.sv
      refine wpc_skip ?_
      refine ex_then ?_
      refine wpc_seq ?_
      refine wpc_block ?_
      refine wpc_seq ?_
      refine wpc_region ?_
      refine wpl_q (q_idxW1 Try.underlying98 Try.ti24 rfl rfl (by first | assumption | exact SV.nil | exact SV.slv (by assumption) (by omega) (by omega) | exact arv_sv (by first | decide | (simp only [maxLen]; omega))) (by first | omega | (simp only [maxLen]; omega) | (simp only [List.length_append, List.length_cons, List.length_nil, List.length_take, maxLen]; omega) | (simp only [List.length_append, List.length_cons, List.length_nil, List.length_take]; omega))) rfl ?_
      refine wpl_q (q_ldW Try.underlying24 rfl rfl (fun w h => h.seen_old hP.1) (fst_get ps i hi)) rfl ?_
      refine wpl_q (q_pure rfl) rfl ?_
      refine wpl_nil ?_
      refine ex_then ?_
      refine wpc_region ?_
      refine wpl_q (q_pure rfl) rfl ?_
      refine wpl_q (q_pure rfl) rfl ?_
      refine wpl_tp (t_apW Try.underlying24 Try.ti5 rfl (by decide) rfl rfl (fun w h => h.seen_old hsq) (v8s_one _) (by first | omega | (simp only [maxLen]; omega) | (simp only [List.length_append, List.length_cons, List.length_nil, List.length_take, maxLen]; omega) | (simp only [List.length_append, List.length_cons, List.length_nil, List.length_take]; omega)) (by first | omega | (simp only [maxLen]; omega) | (simp only [List.length_append, List.length_cons, List.length_nil, List.length_take, maxLen]; omega) | (simp only [List.length_append, List.length_cons, List.length_nil, List.length_take]; omega)) (v8s (flatK ps i ++ (ps.getD i (undef, [])).2)) (by rw [v8s_append])) rfl (fun b33 p33 => ?_)
      refine wpl_q (q_pure rfl) rfl ?_
      refine wpl_nil ?_
      refine ex_block ?_
      refine ex_then ?_
      refine wpc_region ?_
      refine wpl_q (q_addN (b := 1) rfl rfl (by first | omega | (simp only [maxLen]; omega) | (simp only [List.length_append, List.length_cons, List.length_nil, List.length_take, maxLen]; omega) | (simp only [List.length_append, List.length_cons, List.length_nil, List.length_take]; omega))) rfl ?_
      refine wpl_q (q_pure rfl) rfl ?_
      refine wpl_nil ?_
      refine ex_again ⟨(i + 1, b33), ⟨by omega, by rw [flatK_succ ps i hi, List.length_append]; exact p33⟩⟩ ?_ ?_ ?_
      ·
       exact (by repeat (first | exact trivial | refine ⟨rfl, ?_⟩))
      ·
       exact fun w h => by dsimp only; rw [flatK_succ ps i hi, List.length_append]; exact h.sub SubC.h SubC.h
      ·
       (show ps.length - (i + 1) < ps.length - i); omega
     ·
      simp only [decide_eq_false_iff_not] at hc28
      obtain rfl : i = ps.length := by omega
      refine wpc_exit ?_
      refine ex_then_exit ?_
      refine ex_then_exit ?_
      refine ex_block_hit ?_
      refine ex_then ?_
      refine wpc_seq ?_
      refine wpc_region ?_
      refine wpl_q (q_pure rfl) rfl ?_
      refine wpl_q (q_pure rfl) rfl ?_
      refine wpl_nil ?_
      refine ex_then ?_
      refine wpc_ret ?_
      refine ret1 (.inl rfl) rfl rfl ?_
      exact fun w h => ⟨v, hi1, rfl, h.below, h.made SubC.h .nil⟩

set_option maxRecDepth 100000 in
theorem join_ (av : Value) (xs : List UInt8) (bv : Value) (ys : List UInt8) (w : World) (hav : Seen w.cell? av xs.length 1 (v8s xs)) (hbv : Seen w.cell? bv ys.length 1 (v8s ys)) (hlx : xs.length ≤ 100000) (hly : ys.length ≤ 100000) :
    Calls Try.prog 40 [av, bv].toArray w (GivesP w (fun v => SV v (xs ++ ys).length) (fun v => v) (fun v => [.row v (xs ++ ys).length 5 1 (v8s (xs ++ ys))]) (fun _ => [])) := by
  have sav := hav.sv
  have lav := sav.le
  simp only [maxLen] at lav
  have sbv := hbv.sv
  have lbv := sbv.le
  simp only [maxLen] at lbv
  refine enter (m := 12) (R := Mem w [] [] []) Try.func40 rfl rfl (Nat.le_of_ble_eq_true rfl) (Mem.start w) ?_
  refine wpc_seq ?_
  refine wpc_region ?_
  refine wpl_q (q_pure rfl) rfl ?_
  refine wpl_nil ?_
  refine ex_then ?_
  refine wpc_seq ?_
  refine wpc_region ?_
  refine wpl_q (q_pure rfl) rfl ?_
  refine wpl_nil ?_
  refine ex_then ?_
  refine wpc_seq ?_
  refine wpc_region ?_
  refine wpl_q (q_pure rfl) rfl ?_
  refine wpl_q (q_pure rfl) rfl ?_
  refine wpl_tp (t_apN Try.underlying24 Try.ti5 rfl (by decide) rfl rfl (fun w h => by first | exact h.seenV | exact h.seenA (by first | decide | (simp only [maxLen]; omega)) (by first | with_reducible rfl | (simp only [v8s_length, v32s_length, vis_length, vns_length, v64s_length, List.length_replicate]; first | done | with_reducible assumption | omega) | (rw [v8s_length]; (first | with_reducible assumption | with_reducible exact shortF_length _ | with_reducible exact stepF_length _ _ _ | with_reducible exact sumF_length _ | with_reducible exact climbF_length _ (by first | with_reducible assumption | with_reducible exact shortF_length _ | with_reducible exact beginF_length _ _ | with_reducible exact getD_mem_len (by assumption) (by omega)) _ _ _ | with_reducible exact beginF_length _ _ | with_reducible exact chainF_length _ _ _ | with_reducible exact recF_length _ _ | with_reducible exact publicF_length _ | with_reducible exact getD_mem_len (by assumption) (by omega) | (with_reducible exact List.length_replicate))) | rfl) | exact h.seen_old (by assumption) | exact h.seen_oldL (by assumption) (by assumption) | exact h.seen_fact (by repeat (first | exact List.mem_cons_self .. | apply List.mem_cons_of_mem))) (v8s_one _) (by first | omega | (simp only [maxLen]; omega) | (simp only [List.length_append, List.length_cons, List.length_nil, List.length_take, maxLen]; omega) | (simp only [List.length_append, List.length_cons, List.length_nil, List.length_take]; omega)) (by first | omega | (simp only [maxLen]; omega) | (simp only [List.length_append, List.length_cons, List.length_nil, List.length_take, maxLen]; omega) | (simp only [List.length_append, List.length_cons, List.length_nil, List.length_take]; omega))) rfl (fun b8 p8 => ?_)
  refine wpl_q (q_pure rfl) rfl ?_
  refine wpl_nil ?_
  refine ex_then ?_
  refine wpc_seq ?_
  refine wpc_region ?_
  refine wpl_q (q_pure rfl) rfl ?_
  refine wpl_q (q_pure rfl) rfl ?_
  refine wpl_tp (t_apW Try.underlying24 Try.ti5 rfl (by decide) rfl rfl (fun w h => by first | exact h.seenV | exact h.seenA (by first | decide | (simp only [maxLen]; omega)) (by first | with_reducible rfl | (simp only [v8s_length, v32s_length, vis_length, vns_length, v64s_length, List.length_replicate]; first | done | with_reducible assumption | omega) | (rw [v8s_length]; (first | with_reducible assumption | with_reducible exact shortF_length _ | with_reducible exact stepF_length _ _ _ | with_reducible exact sumF_length _ | with_reducible exact climbF_length _ (by first | with_reducible assumption | with_reducible exact shortF_length _ | with_reducible exact beginF_length _ _ | with_reducible exact getD_mem_len (by assumption) (by omega)) _ _ _ | with_reducible exact beginF_length _ _ | with_reducible exact chainF_length _ _ _ | with_reducible exact recF_length _ _ | with_reducible exact publicF_length _ | with_reducible exact getD_mem_len (by assumption) (by omega) | (with_reducible exact List.length_replicate))) | rfl) | exact h.seen_old (by assumption) | exact h.seen_oldL (by assumption) (by assumption) | exact h.seen_fact (by repeat (first | exact List.mem_cons_self .. | apply List.mem_cons_of_mem))) (v8s_one _) (by first | omega | (simp only [maxLen]; omega) | (simp only [List.length_append, List.length_cons, List.length_nil, List.length_take, maxLen]; omega) | (simp only [List.length_append, List.length_cons, List.length_nil, List.length_take]; omega)) (by first | omega | (simp only [maxLen]; omega) | (simp only [List.length_append, List.length_cons, List.length_nil, List.length_take, maxLen]; omega) | (simp only [List.length_append, List.length_cons, List.length_nil, List.length_take]; omega)) (v8s (xs ++ ys)) (by rw [v8s_append])) rfl (fun b11 p11 => ?_)
  refine wpl_q (q_pure rfl) rfl ?_
  refine wpl_nil ?_
  refine ex_then ?_
  refine wpc_ret ?_
  refine ret1 (.inl rfl) rfl rfl ?_
  exact fun w h => ⟨b11, by rw [List.length_append]; exact p11, rfl, h.below, by rw [List.length_append]; exact h.made SubC.h .nil⟩

end Go.Proofs.Ytoaeklbenmlooaa
