/- What the statement reaches, in order. -/
import Derived.Test.YtjpfhkjmjnjggaaDoorTI
import Derived.Test.YtjpfhkjmjnjggaaDoorPLI
import Derived.Test.YtjpfhkjmjnjggaaDoorPLZ
import Derived.Test.YtjpfhkjmjnjggaaDoorPLL
import Derived.Test.YtjpfhkjmjnjggaaDoorPLN
import Derived.Test.YtjpfhkjmjnjggaaDoorPLP
import Derived.WalkKit
import Derived.ProofKit
import Derived.OpenShut
import Derived.ChangeOld
import Derived.Below
import Derived.Carry
import Derived.LaidMore
import Derived.Deep.DeepHandedRow
import Derived.Deep.DeepWitnessRowRef
import Derived.Lib.LaidTab
import Derived.Stop.Joined
import Derived.Test.YtjpfhkjmjnjggaaDoorSH2
namespace Go.Proofs.YtjpfhkjmjnjggaaDoor
set_option linter.unusedSimpArgs false
set_option linter.unusedVariables false
open Go Go.PL Go.RowKit
set_option maxRecDepth 100000 in
theorem refShorts (v : Value) (xs : List UInt8) (cv : Value) (l : List (List UInt8)) (w : World) (hrow : (Ent.row v xs.length 5 1 (v8s xs)).at w) (sv : SV v xs.length) (hcv : Seen (rdO (nums [.row v xs.length 5 1 (v8s xs)]) w) cv l.length 16 (v8s l.flatten)) (hll : ∀ x ∈ l, x.length = 16) (hlim : l.length ≤ 1000) (hxl : xs.length ≤ 100000) :
    Calls Tryd.prog 57 [v, cv].toArray w (GivesR w (.row v xs.length 5 1 (v8s xs)) (xs.length + l.length * 16) 5 1 (v8s (xs ++ l.flatten))) := by
  have scv := hcv.sv
  have lcv := scv.le
  simp only [maxLen] at lcv
  refine enter (m := 27) (R := Mem w (nums [(.row v xs.length 5 1 (v8s xs))]) [(.row v xs.length 5 1 (v8s xs))] []) Tryd.func57 rfl rfl (Nat.le_of_ble_eq_true rfl) (Mem.startR w hrow) ?_
  refine wpc_seq ?_
  refine wpc_region ?_
  refine wpl_q (q_pure rfl) rfl ?_
  refine wpl_nil ?_
  refine ex_then ?_
  refine wpc_seq ?_
  refine wpc_seq ?_
  refine wpc_region ?_
  refine wpl_q (q_pure rfl) rfl ?_
  refine wpl_nil ?_
  refine ex_then ?_
  refine wpc_block ?_
  refine wpc_loopc (ι := { x : Nat × Value // (x.1 ≤ l.length) ∧ (SV x.2 (xs.length + (x.1 * 16 + 0))) }) [(1, _)] (fun x Lc => (5, .int .i64 ((x.1.1 : Nat) : Int)) :: (0, x.1.2) :: Lc) (fun x => Mem w (nums [.row v xs.length 5 1 (v8s xs)]) [.row x.1.2 (xs.length + (x.1.1 * 16 + 0)) 5 1 (v8s (xs ++ upto l x.1.1 0))] []) (fun x => l.length - x.1.1) ⟨(0, v), ⟨Nat.zero_le _, sv⟩⟩ (by repeat (first | exact trivial | refine ⟨rfl, ?_⟩)) ?_ ?_
  ·
   exact fun w h => by
     dsimp only
     rw [show upto l 0 0 = [] from rfl, List.append_nil]
     exact h
  ·
   rintro ⟨⟨i, v2⟩, ⟨hi0, hi1⟩⟩; try dsimp only
   have hi0 : i ≤ l.length := hi0; have hi1 : SV v2 (xs.length + (i * 16 + 0)) := hi1
   refine wpc_seq ?_
   refine wpc_seq ?_
   refine wpc_region ?_
   refine wpl_q (q_pure rfl) rfl ?_
   refine wpl_q (q_pure rfl) rfl ?_
   refine wpl_q (q_lenW Tryd.underlying64 rfl (by first | assumption | exact SV.nil | exact SV.slv (by assumption) (by omega) (by omega) | exact arv_sv (by first | decide | (simp only [maxLen]; omega)))) rfl ?_
   refine wpl_q (q_pure rfl) rfl ?_
   refine wpl_nil ?_
   refine ex_then ?_
   refine wpc_cond rfl (fun hc10 => ?_) (fun hc10 => ?_)
   ·
    simp only [decide_eq_true_eq] at hc10
    have hil : i < l.length := by omega
    have hiv := hi1
    refine wpc_skip ?_
    refine ex_then ?_
    refine wpc_seq ?_
    refine wpc_block ?_
    refine wpc_seq ?_
    refine wpc_region ?_
    refine wpl_q (q_pure rfl) rfl ?_
    refine wpl_nil ?_
    refine ex_then ?_
    refine wpc_block ?_
    refine wpc_loopc (ι := { x : Nat × Value // (x.1 ≤ 16) ∧ (SV x.2 (xs.length + (i * 16 + x.1))) }) [(1, _), (5, _)] (fun x Lc => (6, .int .i64 ((x.1.1 : Nat) : Int)) :: (0, x.1.2) :: Lc) (fun x => Mem w (nums [.row v xs.length 5 1 (v8s xs)]) [.row x.1.2 (xs.length + (i * 16 + x.1.1)) 5 1 (v8s (xs ++ upto l i x.1.1))] []) (fun x => 16 - x.1.1) ⟨(0, v2), ⟨Nat.zero_le _, hiv⟩⟩ (by repeat (first | exact trivial | refine ⟨rfl, ?_⟩)) ?_ ?_
    ·
     exact fun w h => h
    ·
     rintro ⟨⟨k, v3⟩, ⟨hi0, hi1⟩⟩; try dsimp only
     have hi0 : k ≤ 16 := hi0; have hi1 : SV v3 (xs.length + (i * 16 + k)) := hi1
     refine wpc_seq ?_
     refine wpc_seq ?_
     refine wpc_region ?_
     refine wpl_q (q_pure rfl) rfl ?_
     refine wpl_q (q_pure rfl) rfl ?_
     refine wpl_nil ?_
     refine ex_then ?_
     refine wpc_cond rfl (fun hc14 => ?_) (fun hc14 => ?_)
     ·
      simp only [decide_eq_true_eq] at hc14
      have hk16 : k < 16 := by omega
      refine wpc_skip ?_
      refine ex_then ?_
      refine wpc_seq ?_
      refine wpc_block ?_
      refine wpc_region ?_
      refine wpl_q (q_pure rfl) rfl ?_
      refine wpl_q (q_pure rfl) rfl ?_
      refine wpl_q (q_pure rfl) rfl ?_
      refine wpl_q (q_pure rfl) rfl ?_
      refine wpl_q (q_idxW Tryd.underlying64 Tryd.ti61 rfl rfl (by first | assumption | exact SV.nil | exact SV.slv (by assumption) (by omega) (by omega) | exact arv_sv (by first | decide | (simp only [maxLen]; omega))) (by first | omega | (simp only [maxLen]; omega) | (simp only [List.length_append, List.length_cons, List.length_nil, List.length_take, maxLen]; omega) | (simp only [List.length_append, List.length_cons, List.length_nil, List.length_take]; omega))) rfl ?_
      refine wpl_q (q_idxP1 Tryd.underlying61 Tryd.ti5 rfl rfl (by omega)) rfl ?_
      refine wpl_q (q_ldWF Tryd.underlying5 rfl rfl (fun w h => hcv.mono (rdo_old h)) (get2 hll hil hk16)) rfl ?_
      refine wpl_tp (t_bsV (v8s [_]) Tryd.underlying32 Tryd.ti5 rfl rfl (by decide) (by decide) rfl (v8s_one _)) rfl (fun b24 p24 => ?_)
      refine wpl_tp (t_apW Tryd.underlying32 Tryd.ti5 rfl (by decide) rfl rfl (fun w h => by first | exact h.seenV | exact h.seenA (by first | decide | (simp only [maxLen]; omega)) (by first | (with_reducible exact key_len _ _ (by (first | with_reducible assumption | exact L16.h))) | with_reducible rfl | (simp only [v8s_length, v32s_length, vis_length, vns_length, v64s_length, List.length_replicate]; first | done | with_reducible assumption | omega) | (rw [v8s_length]; (first | with_reducible assumption | exact L16.h)) | rfl) | exact h.seen_old (by assumption) | exact h.seen_oldL (by assumption) (by assumption) | exact h.seen_fact (by repeat (first | exact List.mem_cons_self .. | apply List.mem_cons_of_mem))) OneC.h (by first | omega | (simp only [maxLen]; omega) | (simp only [List.length_append, List.length_cons, List.length_nil, List.length_take, maxLen]; omega) | (simp only [List.length_append, List.length_cons, List.length_nil, List.length_take]; omega)) (by first | omega | (simp only [maxLen]; omega) | (simp only [List.length_append, List.length_cons, List.length_nil, List.length_take, maxLen]; omega) | (simp only [List.length_append, List.length_cons, List.length_nil, List.length_take]; omega)) (v8s (xs ++ upto l i (k + 1))) (by rw [← upto_step l i k hll hil hk16, ← List.append_assoc]; exact (v8s_append _ _).symm)) rfl (fun b25 p25 => ?_)
      refine wpl_q (q_pure rfl) rfl ?_
      refine wpl_nil ?_
      refine ex_block ?_
      refine ex_then ?_
      refine wpc_region ?_
      refine wpl_q (q_pure rfl) rfl ?_
      refine wpl_q (q_addN (b := 1) rfl rfl (by first | omega | (simp only [maxLen]; omega) | (simp only [List.length_append, List.length_cons, List.length_nil, List.length_take, maxLen]; omega) | (simp only [List.length_append, List.length_cons, List.length_nil, List.length_take]; omega))) rfl ?_
      refine wpl_q (q_pure rfl) rfl ?_
      refine wpl_nil ?_
      refine ex_again ⟨(k + 1, b25), ⟨by dsimp only; omega, p25⟩⟩ ?_ ?_ ?_
      ·
       exact (by repeat (first | exact trivial | refine ⟨rfl, ?_⟩))
      ·
       exact fun w h => by
         dsimp only
         exact h.sel
      ·
       (show 16 - (k + 1) < 16 - k); omega
     ·
      simp only [decide_eq_false_iff_not] at hc14
      obtain rfl : k = 16 := by omega
      refine wpc_exit ?_
      refine ex_then_exit ?_
      refine ex_then_exit ?_
      refine ex_block_hit ?_
      refine ex_block ?_
      refine ex_then ?_
      refine wpc_region ?_
      refine wpl_q (q_pure rfl) rfl ?_
      refine wpl_q (q_addN (b := 1) rfl rfl (by first | omega | (simp only [maxLen]; omega) | (simp only [List.length_append, List.length_cons, List.length_nil, List.length_take, maxLen]; omega) | (simp only [List.length_append, List.length_cons, List.length_nil, List.length_take]; omega))) rfl ?_
      refine wpl_q (q_pure rfl) rfl ?_
      refine wpl_nil ?_
      refine ex_again ⟨(i + 1, v3), ⟨by dsimp only; omega, by show SV v3 (xs.length + ((i + 1) * 16 + 0)); rw [show (i + 1) * 16 + 0 = i * 16 + 16 by omega]; exact hi1⟩⟩ ?_ ?_ ?_
      ·
       exact (by repeat (first | exact trivial | refine ⟨rfl, ?_⟩))
      ·
       exact fun w h => by
         dsimp only
         rw [← upto_next l i hll hil, show (i + 1) * 16 + 0 = i * 16 + 16 by omega]
         exact h
      ·
       (show l.length - (i + 1) < l.length - i); omega
   ·
    simp only [decide_eq_false_iff_not] at hc10
    obtain rfl : i = l.length := by omega
    have hup : upto l l.length 0 = l.flatten := by unfold upto; rw [List.take_zero, List.append_nil, List.take_of_length_le (Nat.le_refl _)]
    refine wpc_exit ?_
    refine ex_then_exit ?_
    refine ex_then_exit ?_
    refine ex_block_hit ?_
    refine ex_then ?_
    refine wpc_seq ?_
    refine wpc_region ?_
    refine wpl_q (q_pure rfl) rfl ?_
    refine wpl_q (q_pure rfl) rfl ?_
    refine wpl_nil ?_
    refine ex_then ?_
    refine wpc_ret ?_
    refine ret1 (.inl rfl) rfl rfl ?_
    exact fun w1 h => ⟨v2, hi1, rfl, by rw [hup] at h; exact h⟩


theorem mem_trim0 {w0 w : World} {Ln : List Nat} {M : List Ent} {v : Value} {m : Nat} {e : TypeId} {sz : Nat} {xs : List Value} (h : Mem w0 Ln (.row v m e sz xs :: M) [] w) (hm : 0 < m) : Mem w0 Ln (.row (slv v 0 0 sz) 0 e sz [] :: M) [] w := by
  have ho := h.own _ (List.mem_cons_self ..)
  obtain ⟨hl, ho | ⟨g, cap, cur, rfl, hb, hg, hn, hc, hs, ht⟩⟩ := ho
  · omega
  have e1 : slv (.slice (some ⟨g, 0, none⟩) m cap) 0 0 sz = .slice (some ⟨g, 0, none⟩) 0 cap := by simp [slv, sliced]; intro _; rfl
  rw [e1]
  refine ⟨h.os, h.tape, h.output, h.size, h.old, fun e he => ?_, fun e he => ?_, ?_, by simp⟩
  · rcases List.mem_cons.1 he with rfl | he
    · exact ⟨by simp, .inr ⟨g, cap, cur, rfl, hb, hg, Nat.zero_le _, hc, hs, by simp⟩⟩
    · exact h.own _ (List.mem_cons_of_mem _ he)
  · rcases List.mem_cons.1 he with rfl | he
    · exact fun k hk => h.new (.row (.slice (some ⟨g, 0, none⟩) m cap) m e sz xs) (List.mem_cons_self ..) k hk
    · exact h.new _ (List.mem_cons_of_mem _ he)
  · have := h.apart
    rw [List.pairwise_cons] at this ⊢
    exact ⟨fun f hf k hk => this.1 f hf k hk, this.2⟩
def PartsK (r : Rd) (v : Value) (ps : List (Value × List UInt8)) : Prop := Seen r v ps.length 1 (ps.map Prod.fst) ∧ ∀ q ∈ ps, Seen r q.1 q.2.length 1 (v8s q.2)
def flatK (ps : List (Value × List UInt8)) (i : Nat) : List UInt8 := ((ps.take i).map Prod.snd).flatten
theorem flatK_succ (ps : List (Value × List UInt8)) (i : Nat) (h : i < ps.length) : flatK ps (i + 1) = flatK ps i ++ (ps.getD i (undef, [])).2 := by
  unfold flatK
  rw [List.take_add_one, List.getD_eq_getElem?_getD, List.getElem?_eq_getElem h, List.map_append, List.flatten_append]
  show _ ++ ([(ps[i]).2] : List (List UInt8)).flatten = _ ++ (ps[i]).2
  simp
theorem flatK_le (ps : List (Value × List UInt8)) (i : Nat) (h : i < ps.length) : (flatK ps i).length + (ps.getD i (undef, [])).2.length ≤ (flatK ps ps.length).length := by
  have e : flatK ps ps.length = flatK ps (i + 1) ++ ((ps.drop (i + 1)).map Prod.snd).flatten := by
    unfold flatK
    rw [← List.flatten_append, ← List.map_append, List.take_append_drop, List.take_length]
  rw [e, flatK_succ ps i h, List.length_append, List.length_append]; omega
theorem flatK_2 (a b : Value × List UInt8) : flatK [a, b] [a, b].length = a.2 ++ b.2 := by simp [flatK]
theorem getD_memK (ps : List (Value × List UInt8)) (i : Nat) (h : i < ps.length) : ps.getD i (undef, []) ∈ ps := by
  rw [List.getD_eq_getElem?_getD, List.getElem?_eq_getElem h]; exact List.getElem_mem h
theorem fst_get (ps : List (Value × List UInt8)) (i : Nat) (h : i < ps.length) : (ps.map Prod.fst)[i]? = some (ps.getD i (undef, [])).1 := by
  rw [List.getElem?_map, List.getD_eq_getElem?_getD, List.getElem?_eq_getElem h]; rfl

set_option maxRecDepth 100000 in
theorem grow (n : Nat) (w : World)  (hn : n ≤ 100000) :
    Calls Tryd.prog 109 [.slice none 0 0, .int .i64 ((n : Nat) : Int)].toArray w (GivesP w (fun v => SV v 0) (fun v => v) (fun v => [.row v 0 5 1 []]) (fun _ => [])) := by
  refine enter (m := 27) (R := Mem w [] [] []) Tryd.func109 rfl rfl (Nat.le_of_ble_eq_true rfl) (Mem.start w) ?_
  refine wpc_seq ?_
  refine wpc_region ?_
  refine wpl_q (q_pure rfl) rfl ?_
  refine wpl_nil ?_
  refine ex_then ?_
  refine wpc_seq ?_
  refine wpc_seq ?_
  refine wpc_region ?_
  refine wpl_q (q_pure rfl) rfl ?_
  refine wpl_q (q_pure rfl) rfl ?_
  refine wpl_nil ?_
  refine ex_then ?_
  refine wpc_cond rfl (fun hc6 => ?_) (fun hc6 => ?_)
  ·
   simp only [decide_eq_true_eq] at hc6; omega
  ·
   refine wpc_skip ?_
   refine ex_then ?_
   refine wpc_seq ?_
   refine wpc_seq ?_
   refine wpc_region ?_
   refine wpl_q (q_pure rfl) rfl ?_
   refine wpl_q (q_pure rfl) rfl ?_
   refine wpl_q (q_capW Tryd.underlying32 rfl) rfl ?_
   refine wpl_q (q_pure rfl) rfl ?_
   refine wpl_q (q_lenW Tryd.underlying32 rfl (by first | assumption | exact SV.nil | exact SV.slv (by assumption) (by omega) (by omega) | exact arv_sv (by first | decide | (simp only [maxLen]; omega)))) rfl ?_
   first | refine wpl_q (qop_eq (q_pure rfl) (congrArg (Value.int .i64) (wk_i64 (by omega) (by omega)))) rfl ?_ | refine wpl_q (q_pure rfl) rfl ?_
   first | refine wpl_q (qop_eq (q_pure rfl) (congrArg (Value.int .i64) (wk_i64 (by omega) (by omega)))) rfl ?_ | refine wpl_q (q_pure rfl) rfl ?_
   refine wpl_q (q_pure rfl) rfl ?_
   refine wpl_re 1 rfl (show _ = Value.int .i64 ((n : Nat) : Int) from congrArg (Value.int .i64) (by omega)) ?_
   refine wpl_nil ?_
   refine ex_then ?_
   refine wpc_seq ?_
   refine wpc_region ?_
   refine wpl_q (q_pure rfl) rfl ?_
   refine wpl_q (q_pure rfl) rfl ?_
   refine wpl_nil ?_
   refine ex_then ?_
   refine wpc_cond rfl (fun hc16 => ?_) (fun hc16 => ?_)
   ·
    simp only [decide_eq_true_eq, gt_iff_lt] at hc16
    have h0 : 0 < n := by omega
    refine wpc_region ?_
    refine wpl_q (q_pure rfl) rfl ?_
    refine wpl_q (q_pure rfl) rfl ?_
    refine wpl_q (q_capW Tryd.underlying32 rfl) rfl ?_
    refine wpl_q (q_slWh Tryd.underlying32 Tryd.ti5 rfl rfl (by first | assumption | exact SV.nil | exact SV.slv (by assumption) (by omega) (by omega) | exact arv_sv (by first | decide | (simp only [maxLen]; omega))) (by omega)) rfl ?_
    refine wpl_q (q_pure rfl) rfl ?_
    refine wpl_tp (t_apZ Tryd.underlying32 Tryd.underlying3 Tryd.ti5 rfl (by decide) rfl rfl h0 (by simp only [maxLen]; omega) (by omega) _ rfl) rfl (fun b22 p22 => ?_)
    refine wpl_q (q_pure rfl) rfl ?_
    refine wpl_q (q_lenW Tryd.underlying32 rfl (by first | assumption | exact SV.nil | exact SV.slv (by assumption) (by omega) (by omega) | exact arv_sv (by first | decide | (simp only [maxLen]; omega)))) rfl ?_
    refine wpl_q (q_slWh Tryd.underlying32 Tryd.ti5 rfl rfl (by first | assumption | exact SV.nil | exact SV.slv (by assumption) (by omega) (by omega) | exact arv_sv (by first | decide | (simp only [maxLen]; omega))) (by omega)) rfl ?_
    refine wpl_q (q_pure rfl) rfl ?_
    refine wpl_nil ?_
    refine ex_then ?_
    refine wpc_seq ?_
    refine wpc_region ?_
    refine wpl_q (q_pure rfl) rfl ?_
    refine wpl_q (q_pure rfl) rfl ?_
    refine wpl_nil ?_
    refine ex_then ?_
    refine wpc_ret ?_
    refine ret1 (.inl rfl) rfl rfl ?_
    exact fun w h => ⟨slv b22 0 0 1, SV.slv (l := 0) (k := 0) (sz := 1) p22 (by omega) (by omega), rfl, h.below, (mem_trim0 h h0).made SubC.h .nil⟩
   ·
    simp only [decide_eq_false_iff_not, gt_iff_lt] at hc16
    refine wpc_skip ?_
    refine ex_then ?_
    refine wpc_seq ?_
    refine wpc_region ?_
    refine wpl_q (q_pure rfl) rfl ?_
    refine wpl_q (q_pure rfl) rfl ?_
    refine wpl_nil ?_
    refine ex_then ?_
    refine wpc_ret ?_
    refine ret1 (.inl rfl) rfl rfl ?_
    exact fun w h => ⟨.slice none 0 0, SV.nil, rfl, h.below, (h.nilRow 5 1).made (by repeat (first | exact Sub.nil | exact Sub.refl _ | with_reducible refine Sub.keep ?_ | refine Sub.drop ?_)) .nil⟩

set_option maxRecDepth 100000 in
theorem concat (pv : Value) (ps : List (Value × List UInt8)) (w : World) (hP : PartsK w.cell? pv ps) (hlim : (flatK ps ps.length).length ≤ 100000) :
    Calls Tryd.prog 92 [pv].toArray w (GivesP w (fun v => SV v (flatK ps ps.length).length) (fun v => v) (fun v => [.row v (flatK ps ps.length).length 5 1 (v8s (flatK ps ps.length))]) (fun _ => [])) := by
  have spv := hP.1.sv
  have lpv := spv.le
  simp only [maxLen] at lpv
  refine enter (m := 36) (R := Mem w [] [] []) Tryd.func92 rfl rfl (Nat.le_of_ble_eq_true rfl) (Mem.start w) ?_
  refine wpc_seq ?_
  refine wpc_region ?_
  refine wpl_q (q_pure rfl) rfl ?_
  refine wpl_nil ?_
  refine ex_then ?_
  refine wpc_seq ?_
  refine wpc_region ?_
  refine wpl_q (q_pure rfl) rfl ?_
  first | refine wpl_re 3 rfl (congrArg (fun n : Nat => Value.int .i64 (n : Int)) hfs) ?_ | skip
  refine wpl_nil ?_
  refine ex_then ?_
  refine wpc_seq ?_
  refine wpc_seq ?_
  refine wpc_region ?_
  refine wpl_q (q_pure rfl) rfl ?_
  refine wpl_q (q_lenW Tryd.underlying160 rfl (by first | assumption | exact SV.nil | exact SV.slv (by assumption) (by omega) (by omega) | exact arv_sv (by first | decide | (simp only [maxLen]; omega)))) rfl ?_
  refine wpl_q (q_pure rfl) rfl ?_
  refine wpl_nil ?_
  refine ex_then ?_
  refine wpc_block ?_
  refine wpc_loopc (ι := { x : Nat // (x ≤ ps.length) }) [(0, _), (9, _), (10, _)] (fun x Lc => (11, .int .i64 ((x.1 : Nat) : Int)) :: (3, .int .i64 (((flatK ps x.1).length : Nat) : Int)) :: Lc) (fun x => Mem w [] [] []) (fun x => ps.length - x.1) ⟨0, by first | omega | assumption | decide | exact SV.nil | (simp; done) | (dsimp only; omega)⟩ (by repeat (first | exact trivial | refine ⟨rfl, ?_⟩)) ?_ ?_
  ·
   exact fun w h => h
  ·
   rintro ⟨i, hi0⟩; try dsimp only
   have hi0 : i ≤ ps.length := hi0
   refine wpc_seq ?_
   refine wpc_region ?_
   refine wpl_q (q_pure rfl) rfl ?_
   refine wpl_nil ?_
   refine ex_then ?_
   refine wpc_seq ?_
   refine wpc_cond rfl (fun hc12 => ?_) (fun hc12 => ?_)
   ·
    simp only [decide_eq_true_eq] at hc12
    have hi : i < ps.length := by omega
    have hle := flatK_le ps i hi
    have hsq := hP.2 _ (getD_memK ps i hi)
    have ssq := hsq.sv
    have hfs : (flatK ps i).length + (ps.getD i (undef, [])).2.length = (flatK ps (i + 1)).length := by rw [flatK_succ ps i hi, List.length_append]
    refine wpc_skip ?_
    refine ex_then ?_
    refine wpc_seq ?_
    refine wpc_block ?_
    refine wpc_seq ?_
    refine wpc_region ?_
    refine wpl_q (q_idxW1 Tryd.underlying160 Tryd.ti32 rfl rfl (by first | assumption | exact SV.nil | exact SV.slv (by assumption) (by omega) (by omega) | exact arv_sv (by first | decide | (simp only [maxLen]; omega))) (by first | omega | (simp only [maxLen]; omega) | (simp only [List.length_append, List.length_cons, List.length_nil, List.length_take, maxLen]; omega) | (simp only [List.length_append, List.length_cons, List.length_nil, List.length_take]; omega))) rfl ?_
    refine wpl_q (q_ldW Tryd.underlying32 rfl rfl (fun w h => h.seen_old hP.1) (fst_get ps i hi)) rfl ?_
    refine wpl_q (q_pure rfl) rfl ?_
    refine wpl_nil ?_
    refine ex_then ?_
    refine wpc_seq ?_
    refine wpc_region ?_
    refine wpl_q (q_pure rfl) rfl ?_
    refine wpl_q (q_pure rfl) rfl ?_
    refine wpl_q (q_lenW Tryd.underlying32 rfl (by first | assumption | exact SV.nil | exact SV.slv (by assumption) (by omega) (by omega) | exact arv_sv (by first | decide | (simp only [maxLen]; omega)))) rfl ?_
    refine wpl_q (q_addN rfl rfl (by first | omega | (simp only [maxLen]; omega) | (simp only [List.length_append, List.length_cons, List.length_nil, List.length_take, maxLen]; omega) | (simp only [List.length_append, List.length_cons, List.length_nil, List.length_take]; omega))) rfl ?_
    refine wpl_q (q_pure rfl) rfl ?_
    first | refine wpl_re 3 rfl (congrArg (fun n : Nat => Value.int .i64 (n : Int)) hfs) ?_ | skip
    refine wpl_nil ?_
    refine ex_then ?_
    refine wpc_seq ?_
    refine wpc_region ?_
    refine wpl_q (q_pure rfl) rfl ?_
    refine wpl_q (q_pure rfl) rfl ?_
    refine wpl_nil ?_
    refine ex_then ?_
    refine wpc_cond rfl (fun hc20 => ?_) (fun hc20 => ?_)
    ·
     simp only [decide_eq_true_eq] at hc20; omega
    ·
     refine wpc_skip ?_
     refine ex_block ?_
     refine ex_then ?_
     refine wpc_region ?_
     refine wpl_q (q_addN (b := 1) rfl rfl (by first | omega | (simp only [maxLen]; omega) | (simp only [List.length_append, List.length_cons, List.length_nil, List.length_take, maxLen]; omega) | (simp only [List.length_append, List.length_cons, List.length_nil, List.length_take]; omega))) rfl ?_
     refine wpl_q (q_pure rfl) rfl ?_
     refine wpl_nil ?_
     refine ex_again ⟨i + 1, by first | omega | assumption | decide | exact SV.nil | (simp; done) | (dsimp only; omega)⟩ ?_ ?_ ?_
     ·
      exact (by repeat (first | exact trivial | refine ⟨rfl, ?_⟩))
     ·
      exact fun w h => by first | exact h | exact h.sub SubC.h SubC.h | exact h.sub (by repeat (first | exact Sub.nil | exact Sub.refl _ | with_reducible refine Sub.keep ?_ | refine Sub.drop ?_)) (by repeat (first | exact Sub.nil | exact Sub.refl _ | with_reducible refine Sub.keep ?_ | refine Sub.drop ?_))
     ·
      (show ps.length - (i + 1) < ps.length - i); omega
   ·
    simp only [decide_eq_false_iff_not] at hc12
    obtain rfl : i = ps.length := by omega
    refine wpc_exit ?_
    refine ex_then_exit ?_
    refine ex_then_exit ?_
    refine ex_block_hit ?_
    refine ex_then ?_
    refine wpc_seq ?_
    refine wpc_region ?_
    refine wpl_q (q_pure rfl) rfl ?_
    refine wpl_tp (t_callP1 Tryd.hb109 rfl fun w h => grow _ w hlim) rfl (fun b24 p24 => ?_)
    refine wpl_q (q_pure rfl) rfl ?_
    refine wpl_nil ?_
    refine ex_then ?_
    refine wpc_seq ?_
    refine wpc_seq ?_
    refine wpc_region ?_
    refine wpl_q (q_pure rfl) rfl ?_
    refine wpl_q (q_lenW Tryd.underlying160 rfl (by first | assumption | exact SV.nil | exact SV.slv (by assumption) (by omega) (by omega) | exact arv_sv (by first | decide | (simp only [maxLen]; omega)))) rfl ?_
    refine wpl_q (q_pure rfl) rfl ?_
    refine wpl_nil ?_
    refine ex_then ?_
    refine wpc_block ?_
    refine wpc_loopc (ι := { x : Nat × Value // (x.1 ≤ ps.length) ∧ (SV x.2 (flatK ps x.1).length) }) [(25, _), (26, _)] (fun x Lc => (27, .int .i64 ((x.1.1 : Nat) : Int)) :: (6, x.1.2) :: Lc) (fun x => Mem w [] [.row x.1.2 (flatK ps x.1.1).length 5 1 (v8s (flatK ps x.1.1))] []) (fun x => ps.length - x.1.1) ⟨(0, b24), ⟨Nat.zero_le _, p24⟩⟩ (by repeat (first | exact trivial | refine ⟨rfl, ?_⟩)) ?_ ?_
    ·
     exact fun w h => h
    ·
     rintro ⟨⟨i, v⟩, ⟨hi0, hi1⟩⟩; try dsimp only
     have hi0 : i ≤ ps.length := hi0; have hi1 : SV v (flatK ps i).length := hi1
     refine wpc_seq ?_
     refine wpc_region ?_
     refine wpl_q (q_pure rfl) rfl ?_
     refine wpl_nil ?_
     refine ex_then ?_
     refine wpc_seq ?_
     refine wpc_cond rfl (fun hc28 => ?_) (fun hc28 => ?_)
     ·
      simp only [decide_eq_true_eq] at hc28
      have hi : i < ps.length := by omega
      have hle := flatK_le ps i hi
      have hsq := hP.2 _ (getD_memK ps i hi)
      have ssq := hsq.sv
      refine wpc_skip ?_
      refine ex_then ?_
      refine wpc_seq ?_
      refine wpc_block ?_
      refine wpc_seq ?_
      refine wpc_region ?_
      refine wpl_q (q_idxW1 Tryd.underlying160 Tryd.ti32 rfl rfl (by first | assumption | exact SV.nil | exact SV.slv (by assumption) (by omega) (by omega) | exact arv_sv (by first | decide | (simp only [maxLen]; omega))) (by first | omega | (simp only [maxLen]; omega) | (simp only [List.length_append, List.length_cons, List.length_nil, List.length_take, maxLen]; omega) | (simp only [List.length_append, List.length_cons, List.length_nil, List.length_take]; omega))) rfl ?_
      refine wpl_q (q_ldW Tryd.underlying32 rfl rfl (fun w h => h.seen_old hP.1) (fst_get ps i hi)) rfl ?_
      refine wpl_q (q_pure rfl) rfl ?_
      refine wpl_nil ?_
      refine ex_then ?_
      refine wpc_region ?_
      refine wpl_q (q_pure rfl) rfl ?_
      refine wpl_q (q_pure rfl) rfl ?_
      refine wpl_tp (t_apW Tryd.underlying32 Tryd.ti5 rfl (by decide) rfl rfl (fun w h => h.seen_old hsq) (v8s_one _) (by first | omega | (simp only [maxLen]; omega) | (simp only [List.length_append, List.length_cons, List.length_nil, List.length_take, maxLen]; omega) | (simp only [List.length_append, List.length_cons, List.length_nil, List.length_take]; omega)) (by first | omega | (simp only [maxLen]; omega) | (simp only [List.length_append, List.length_cons, List.length_nil, List.length_take, maxLen]; omega) | (simp only [List.length_append, List.length_cons, List.length_nil, List.length_take]; omega)) (v8s (flatK ps i ++ (ps.getD i (undef, [])).2)) (by rw [v8s_append])) rfl (fun b33 p33 => ?_)
      refine wpl_q (q_pure rfl) rfl ?_
      refine wpl_nil ?_
      refine ex_block ?_
      refine ex_then ?_
      refine wpc_region ?_
      refine wpl_q (q_addN (b := 1) rfl rfl (by first | omega | (simp only [maxLen]; omega) | (simp only [List.length_append, List.length_cons, List.length_nil, List.length_take, maxLen]; omega) | (simp only [List.length_append, List.length_cons, List.length_nil, List.length_take]; omega))) rfl ?_
      refine wpl_q (q_pure rfl) rfl ?_
      refine wpl_nil ?_
      refine ex_again ⟨(i + 1, b33), ⟨by omega, by rw [flatK_succ ps i hi, List.length_append]; exact p33⟩⟩ ?_ ?_ ?_
      ·
       exact (by repeat (first | exact trivial | refine ⟨rfl, ?_⟩))
      ·
       exact fun w h => by dsimp only; rw [flatK_succ ps i hi, List.length_append]; exact h.sub SubC.h SubC.h
      ·
       (show ps.length - (i + 1) < ps.length - i); omega
     ·
      simp only [decide_eq_false_iff_not] at hc28
      obtain rfl : i = ps.length := by omega
      refine wpc_exit ?_
      refine ex_then_exit ?_
      refine ex_then_exit ?_
      refine ex_block_hit ?_
      refine ex_then ?_
      refine wpc_seq ?_
      refine wpc_region ?_
      refine wpl_q (q_pure rfl) rfl ?_
      refine wpl_q (q_pure rfl) rfl ?_
      refine wpl_nil ?_
      refine ex_then ?_
      refine wpc_ret ?_
      refine ret1 (.inl rfl) rfl rfl ?_
      exact fun w h => ⟨v, hi1, rfl, h.below, h.made SubC.h .nil⟩

set_option maxRecDepth 100000 in
theorem joinB (pv : Value) (ps : List (Value × List UInt8)) (w : World) (hP : PartsK w.cell? pv ps) (hlim : (flatK ps ps.length).length ≤ 100000) :
    Calls Tryd.prog 73 [pv].toArray w (GivesP w (fun v => SV v (flatK ps ps.length).length) (fun v => v) (fun v => [.row v (flatK ps ps.length).length 5 1 (v8s (flatK ps ps.length))]) (fun _ => [])) := by
  refine enter (m := 5) (R := Mem w [] [] []) Tryd.func73 rfl rfl (Nat.le_of_ble_eq_true rfl) (Mem.start w) ?_
  refine wpc_seq ?_
  refine wpc_region ?_
  refine wpl_q (q_pure rfl) rfl ?_
  refine wpl_nil ?_
  refine ex_then ?_
  refine wpc_seq ?_
  refine wpc_region ?_
  refine wpl_q (q_pure rfl) rfl ?_
  refine wpl_tp (t_callP1 Tryd.hb92 rfl fun w h => concat pv ps w ⟨h.seen_old hP.1, fun q hq => h.seen_old (hP.2 q hq)⟩ hlim) rfl (fun b4 p4 => ?_)
  refine wpl_q (q_pure rfl) rfl ?_
  refine wpl_nil ?_
  refine ex_then ?_
  refine wpc_ret ?_
  refine ret1 (.inl rfl) rfl rfl ?_
  exact fun w h => ⟨b4, p4, rfl, h.below, h.made SubC.h .nil⟩

end Go.Proofs.YtjpfhkjmjnjggaaDoor

namespace Go.Proofs.YtjpfhkjmjnjggaaDoor
set_option linter.unusedSimpArgs false
set_option linter.unusedVariables false
open Go Go.PL Go.RowKit

theorem get_one {L : Slots} {d : Nat} {v : Value} (h : get L d = some v) : ∀ t u, get [(d, v)] t = some u → get L t = some u := by
  intro t u ht
  rw [get_cons] at ht
  split at ht
  · rename_i e
    cases ht
    rw [← e]; exact h
  · cases ht
theorem seenR {w0 w : World} {Ln : List Nat} {M : List Ent} {S : List Fact} (h : Mem w0 Ln M S w) {v : Value} {m : Nat} {e : TypeId} {sz : Nat} {xs : List Value} (hm : Ent.row v m e sz xs ∈ M) : Seen w.cell? v m sz xs := h.seen_row hm
theorem word32 (x : UInt32) (w : World) : Calls Tryd.prog 74 [.int .u64 ((of64 ((x.toNat : Nat) : Int)).toNat : Int), .int .i64 4].toArray w (GivesP w (fun v => SV v 4) (fun v => v) (fun v => [.row v 4 5 1 (v8s (numK 4 x.toNat))]) (fun _ => [])) := by
  have q := wordB (of64 ((x.toNat : Nat) : Int)) 4 w (by decide)
  have e : (of64 ((x.toNat : Nat) : Int)).toNat = x.toNat := of64_nat _ (by have := x.toNat_lt; omega)
  clear q
  generalize of64 ((x.toNat : Nat) : Int) = z at e ⊢
  have q := wordB z 4 w (by decide)
  rw [e] at q ⊢
  exact q
/-- What the message of a hop begins with. -/
def headB (h : Hop) : List UInt8 := numK 4 h.to.toNat ++ (numK 4 h.sy.toNat ++ ([h.cnt, h.fl] ++ (h.root.1 ++ [of8 h.ht])))
theorem headFlat (h : Hop) (a b c d e : Value) : flatK [(a, numK 4 h.to.toNat), (b, numK 4 h.sy.toNat), (c, [h.cnt, h.fl]), (d, [h.root.1].flatten), (e, [of8 h.ht])] [(a, numK 4 h.to.toNat), (b, numK 4 h.sy.toNat), (c, [h.cnt, h.fl]), (d, [h.root.1].flatten), (e, [of8 h.ht])].length = headB h := by simp [flatK, headB]
theorem headB_len (h : Hop) : (headB h).length = 27 := by simp [headB, numK_len, h.root.2]

set_option maxRecDepth 100000 in
theorem head (hp : Hop) (w : World) (hsv : hp.sv)  :
    Calls Tryd.prog 75 [.agg hp.c.toArray].toArray w (GivesP w (fun v => SV v 27) (fun v => v) (fun v => [.row v 27 5 1 (v8s (headB hp))]) (fun _ => [])) := by
  haveI := hsv.one
  refine enter (m := 28) (R := Mem w [] [] []) Tryd.func75 rfl rfl (Nat.le_of_ble_eq_true rfl) (Mem.start w) ?_
  refine wpc_seq ?_
  refine wpc_region ?_
  refine wpl_t (t_box rfl hp.c rfl) rfl (fun b1 => ?_)
  refine wpl_q (q_pure rfl) rfl ?_
  refine wpl_nil ?_
  refine ex_then ?_
  refine wpc_seq ?_
  refine wpc_draw 99 (by kernel_rfl) (fun _ h => h.drew) ?_
  refine wpd_p 0 rfl (by kernel_rfl) trivial (q_field Tryd.underlying68 rfl Tryd.ti49 rfl rfl _ rfl) rfl sk0 ?_
  refine wpd_q 1 rfl (by kernel_rfl) trivial (q_ld Tryd.underlying49 rfl rfl hp.c_to) rfl (fun _ h => h) ?_
  refine wpd_p 2 rfl (by kernel_rfl) trivial (q64_conv Tryd.underlying49 Tryd.underlying22 rfl) rfl sk0 ?_
  refine wpd_p 4 rfl (by kernel_rfl) trivial (q_field Tryd.underlying68 rfl Tryd.ti49 rfl rfl _ rfl) rfl sk0 ?_
  refine wpd_q 5 rfl (by kernel_rfl) trivial (q_ld Tryd.underlying49 rfl rfl hp.c_sy) rfl (fun _ h => h) ?_
  refine wpd_p 6 rfl (by kernel_rfl) trivial (q64_conv Tryd.underlying49 Tryd.underlying22 rfl) rfl sk0 ?_
  refine wpd_p 8 rfl (by kernel_rfl) trivial (q_field Tryd.underlying68 rfl Tryd.ti5 rfl rfl _ rfl) rfl sk0 ?_
  refine wpd_q 9 rfl (by kernel_rfl) trivial (q_ld Tryd.underlying5 rfl rfl hp.c_cnt) rfl (fun _ h => h) ?_
  refine wpd_p 10 rfl (by kernel_rfl) trivial (q_field Tryd.underlying68 rfl Tryd.ti5 rfl rfl _ rfl) rfl sk0 ?_
  refine wpd_q 11 rfl (by kernel_rfl) trivial (q_ld Tryd.underlying5 rfl rfl hp.c_fl) rfl (fun _ h => h) ?_
  refine wpd_p 13 rfl (by kernel_rfl) trivial (q_field Tryd.underlying68 rfl Tryd.ti63 rfl rfl _ rfl) rfl sk0 ?_
  refine wpd_p 14 rfl (by kernel_rfl) trivial (q_field Tryd.underlying63 rfl Tryd.ti61 rfl rfl _ rfl) rfl sk0 ?_
  refine wpd_q 15 rfl (by kernel_rfl) trivial (q_ldP Tryd.underlying61 rfl Tryd.ti61 rfl (v8s hp.root.1) hp.c_root (S16.len _)) rfl (fun _ h => h) ?_
  refine wpd_p 18 rfl (by kernel_rfl) trivial (q_field Tryd.underlying68 rfl Tryd.ti63 rfl rfl _ rfl) rfl sk0 ?_
  refine wpd_p 19 rfl (by kernel_rfl) trivial (q_field Tryd.underlying63 rfl Tryd.ti3 rfl rfl _ rfl) rfl sk0 ?_
  refine wpd_q 20 rfl (by kernel_rfl) trivial (q_ld Tryd.underlying3 rfl rfl hp.c_ht) rfl (fun _ h => h) ?_
  refine wpd_p 21 rfl (by kernel_rfl) trivial (q8_conv Tryd.underlying3 Tryd.underlying5 rfl) rfl sk0 ?_
  refine wpd_makers (lf := #[true, true, true, true, true, true, true, true, true, true, true, true, true, true, true, true, true, true, true, true, true, true, true, false, false, false]) [0, 1, 2, 4, 5, 6, 8, 9, 10, 11, 13, 14, 15, 18, 19, 20, 21] [⟨3, 6, [], (fun _ v => SV v 4), (fun _ v => .row v 4 5 1 (v8s (numK 4 hp.to.toNat)))⟩, ⟨7, 10, [], (fun _ v => SV v 4), (fun _ v => .row v 4 5 1 (v8s (numK 4 hp.sy.toNat)))⟩, ⟨12, 15, [], (fun _ v => SV v 2), (fun _ v => .row v 2 5 1 (v8s [hp.cnt, hp.fl]))⟩, ⟨16, 19, [], (fun _ v => SV v 1), (fun _ v => .row v 1 61 16 (v8s [hp.root.1].flatten))⟩, ⟨17, 20, [16], (fun _ v => SV v 16), (fun _ v => .row v 16 5 1 (v8s [hp.root.1].flatten))⟩, ⟨22, 25, [], (fun _ v => SV v 1), (fun _ v => .row v 1 5 1 (v8s [of8 hp.ht]))⟩] 6 rfl (by kernel_rfl) (by intro m hm; simp only [List.mem_cons, List.not_mem_nil, or_false] at hm; rcases hm with rfl | rfl | rfl | rfl | rfl | rfl <;> rfl) (fun σ w h => h.sub (sub_app _ _) (Sub.refl _)) ?_ ?_
  ·
   intro m hm o ho σ hσ hd
   simp only [List.mem_cons, List.not_mem_nil, or_false] at hm
   rcases hm with rfl | rfl | rfl | rfl | rfl | rfl
   ·
    obtain rfl := Option.some.inj ho
    show TOpP _ _ _ _ _ _ Value (fun v => SV v 4) (fun v => v) (fun v => Mem _ _ (.row v 4 5 1 (v8s (numK 4 hp.to.toNat)) :: _) _)
    exact TOpP.weakL (fun t u hh => slots_base t hh _ (by intro m hm; simp only [List.mem_cons, List.not_mem_nil, or_false] at hm; rcases hm with rfl | rfl | rfl | rfl | rfl | rfl <;> rfl)) (t_callP1 Tryd.hb74 rfl fun w h => word32 hp.to w)
   ·
    obtain rfl := Option.some.inj ho
    show TOpP _ _ _ _ _ _ Value (fun v => SV v 4) (fun v => v) (fun v => Mem _ _ (.row v 4 5 1 (v8s (numK 4 hp.sy.toNat)) :: _) _)
    exact TOpP.weakL (fun t u hh => slots_base t hh _ (by intro m hm; simp only [List.mem_cons, List.not_mem_nil, or_false] at hm; rcases hm with rfl | rfl | rfl | rfl | rfl | rfl <;> rfl)) (t_callP1 Tryd.hb74 rfl fun w h => word32 hp.sy w)
   ·
    obtain rfl := Option.some.inj ho
    show TOpP _ _ _ _ _ _ Value (fun v => SV v 2) (fun v => v) (fun v => Mem _ _ (.row v 2 5 1 (v8s [hp.cnt, hp.fl]) :: _) _)
    exact TOpP.weakL (fun t u hh => slots_base t hh _ (by intro m hm; simp only [List.mem_cons, List.not_mem_nil, or_false] at hm; rcases hm with rfl | rfl | rfl | rfl | rfl | rfl <;> rfl)) (t_bsV (v8s [hp.cnt, hp.fl]) Tryd.underlying32 Tryd.ti5 rfl rfl (by decide) (by decide) rfl (v8s_one _))
   ·
    obtain rfl := Option.some.inj ho
    show TOpP _ _ _ _ _ _ Value (fun v => SV v 1) (fun v => v) (fun v => Mem _ _ (.row v 1 61 16 (v8s [hp.root.1].flatten) :: _) _)
    exact TOpP.weakL (fun t u hh => slots_base t hh _ (by intro m hm; simp only [List.mem_cons, List.not_mem_nil, or_false] at hm; rcases hm with rfl | rfl | rfl | rfl | rfl | rfl <;> rfl)) (t_bsS [hp.root.1] Tryd.underlying64 Tryd.ti61 rfl (by decide) rfl (by decide) (by decide) rfl (all_one hp.root.2))
   ·
    obtain rfl := Option.some.inj ho
    show TOpP _ _ _ _ _ _ Value (fun v => SV v 16) (fun v => v) (fun v => Mem _ _ (.row v 16 5 1 (v8s [hp.root.1].flatten) :: _) _)
    have m19 : (⟨16, 19, [], (fun _ v => SV v 1), (fun _ v => .row v 1 61 16 (v8s [hp.root.1].flatten))⟩ : Mk) ∈ [⟨3, 6, [], (fun _ v => SV v 4), (fun _ v => .row v 4 5 1 (v8s (numK 4 hp.to.toNat)))⟩, ⟨7, 10, [], (fun _ v => SV v 4), (fun _ v => .row v 4 5 1 (v8s (numK 4 hp.sy.toNat)))⟩, ⟨12, 15, [], (fun _ v => SV v 2), (fun _ v => .row v 2 5 1 (v8s [hp.cnt, hp.fl]))⟩, ⟨16, 19, [], (fun _ v => SV v 1), (fun _ v => .row v 1 61 16 (v8s [hp.root.1].flatten))⟩, ⟨17, 20, [16], (fun _ v => SV v 16), (fun _ v => .row v 16 5 1 (v8s [hp.root.1].flatten))⟩, ⟨22, 25, [], (fun _ v => SV v 1), (fun _ v => .row v 1 5 1 (v8s [of8 hp.ht]))⟩] := List.mem_cons_of_mem _ (List.mem_cons_of_mem _ (List.mem_cons_of_mem _ (List.mem_cons_self ..)))
    obtain ⟨v19, h19⟩ := Option.isSome_iff_exists.1 (hd 16 (by simp))
    exact TOpP.weakL (L' := [(19, v19)]) (get_one (slots_mk h19 _ (apartB_spec (by rfl)) m19)) (t_callP1 Tryd.hb77 rfl fun w h => shorts v19 [hp.root.1] w (seenR h (List.mem_append_left _ (ents_mk h19 _ m19))) (all_one hp.root.2) (show 1 ≤ 1000 by decide))
   ·
    obtain rfl := Option.some.inj ho
    show TOpP _ _ _ _ _ _ Value (fun v => SV v 1) (fun v => v) (fun v => Mem _ _ (.row v 1 5 1 (v8s [of8 hp.ht]) :: _) _)
    exact TOpP.weakL (fun t u hh => slots_base t hh _ (by intro m hm; simp only [List.mem_cons, List.not_mem_nil, or_false] at hm; rcases hm with rfl | rfl | rfl | rfl | rfl | rfl <;> rfl)) (t_bsV (v8s [of8 hp.ht]) Tryd.underlying32 Tryd.ti5 rfl rfl (by decide) (by decide) rfl (v8s_one _))
  ·
   intro σ hσ hall
   obtain ⟨b6, q6⟩ := Option.isSome_iff_exists.1 (hall _ (List.mem_cons_self ..))
   obtain ⟨b10, q10⟩ := Option.isSome_iff_exists.1 (hall _ (List.mem_cons_of_mem _ (List.mem_cons_self ..)))
   obtain ⟨b15, q15⟩ := Option.isSome_iff_exists.1 (hall _ (List.mem_cons_of_mem _ (List.mem_cons_of_mem _ (List.mem_cons_self ..))))
   obtain ⟨b19, q19⟩ := Option.isSome_iff_exists.1 (hall _ (List.mem_cons_of_mem _ (List.mem_cons_of_mem _ (List.mem_cons_of_mem _ (List.mem_cons_self ..)))))
   obtain ⟨b20, q20⟩ := Option.isSome_iff_exists.1 (hall _ (List.mem_cons_of_mem _ (List.mem_cons_of_mem _ (List.mem_cons_of_mem _ (List.mem_cons_of_mem _ (List.mem_cons_self ..))))))
   obtain ⟨b25, q25⟩ := Option.isSome_iff_exists.1 (hall _ (List.mem_cons_of_mem _ (List.mem_cons_of_mem _ (List.mem_cons_of_mem _ (List.mem_cons_of_mem _ (List.mem_cons_of_mem _ (List.mem_cons_self ..)))))))
   have p6 := (hσ _ (List.mem_cons_self ..) b6 q6).2
   try dsimp only at p6
   have p10 := (hσ _ (List.mem_cons_of_mem _ (List.mem_cons_self ..)) b10 q10).2
   try dsimp only at p10
   have p15 := (hσ _ (List.mem_cons_of_mem _ (List.mem_cons_of_mem _ (List.mem_cons_self ..))) b15 q15).2
   try dsimp only at p15
   have p19 := (hσ _ (List.mem_cons_of_mem _ (List.mem_cons_of_mem _ (List.mem_cons_of_mem _ (List.mem_cons_self ..)))) b19 q19).2
   try dsimp only at p19
   have p20 := (hσ _ (List.mem_cons_of_mem _ (List.mem_cons_of_mem _ (List.mem_cons_of_mem _ (List.mem_cons_of_mem _ (List.mem_cons_self ..))))) b20 q20).2
   try dsimp only at p20
   have p25 := (hσ _ (List.mem_cons_of_mem _ (List.mem_cons_of_mem _ (List.mem_cons_of_mem _ (List.mem_cons_of_mem _ (List.mem_cons_of_mem _ (List.mem_cons_self ..)))))) b25 q25).2
   try dsimp only at p25
   try dsimp only at q6 q10 q15 q19 q20 q25
   simp only [mkEnts, mkSlots, q6, q10, q15, q19, q20, q25, List.cons_append, List.nil_append, List.map_cons, List.map_nil, Asg.v, Option.getD_some]
   refine wpd_tp 23 rfl (by kernel_rfl) trivial (t_bsV [b6, b10, b15, b20, b25] Tryd.underlying160 Tryd.ti32 rfl rfl (by decide) (by decide) rfl (by intro u hu; simp only [List.mem_cons, List.not_mem_nil, or_false] at hu; rcases hu with rfl | rfl | rfl | rfl | rfl <;> exact SV.one (by assumption))) rfl (fun _ => (fun w h => .inr (h.sub SubC.h SubC.h))) (fun b26 p26 => ?_)
   refine wpd_tp 24 rfl (by kernel_rfl) trivial (t_callP1 Tryd.hb73 rfl fun w h => by
     have q := joinB b26 [(b6, numK 4 hp.to.toNat), (b10, numK 4 hp.sy.toNat), (b15, [hp.cnt, hp.fl]), (b20, [hp.root.1].flatten), (b25, [of8 hp.ht])] w ⟨h.seenV, fun q hq => by
     simp only [List.mem_cons, List.not_mem_nil, or_false] at hq
     rcases hq with rfl | rfl | rfl | rfl | rfl <;> exact Seen.re8 h.seenV⟩ (by rw [headFlat, headB_len]; decide)
     rwa [headFlat, headB_len] at q) rfl (fun _ => (fun w h => .inr (h.sub SubC.h SubC.h))) (fun b27 p27 => ?_)
   refine wpd_p 25 rfl (by kernel_rfl) trivial (q_pure rfl) rfl (fun w h => .inr (h.sub SubC.h SubC.h)) ?_
   refine wpd_done (by kernel_rfl) ?_
   refine ex_then ?_
   refine wpc_ret ?_
   refine ret1 (.inl rfl) rfl rfl ?_
   exact fun w1 h2 => ⟨b27, p27, rfl, h2.below, h2.made SubC.h .nil⟩

end Go.Proofs.YtjpfhkjmjnjggaaDoor

namespace Go.Proofs.YtjpfhkjmjnjggaaDoor
set_option linter.unusedSimpArgs false
set_option linter.unusedVariables false
open Go Go.PL Go.RowKit

/-- What of the path stands in the message of its first hop. -/
def rest0 (p : Pth) : List UInt8 := [p.pf, of8 p.pl] ++ (numK 8 p.pa.toNat ++ numK 8 p.pb.toNat)
/-- The signature's bytes. -/
def tailH (h : Hop) : List UInt8 := numK 4 (of64 h.ix).toNat ++ (h.chs.flatten ++ h.ps.flatten)
def restF (p : Pth) : Nat → List UInt8
  | 0 => rest0 p
  | i + 1 => sumF ((headB (p.hs.getD i Hop.z) ++ restF p i) ++ tailH (p.hs.getD i Hop.z))
/-- The message of a hop. -/
def msgB (p : Pth) (i : Nat) : List UInt8 := headB (p.hs.getD i Hop.z) ++ restF p i
def msgs (p : Pth) : List (Nat × List UInt8) := (List.range p.hs.length).map fun i => (i, msgB p i)
theorem adL_one (a b : UInt64) : ∀ u ∈ adL a b, u.oneCell' = true := by
  intro u hu
  simp only [adL, List.mem_cons, List.not_mem_nil, or_false] at hu
  rcases hu with rfl | rfl <;> rfl
theorem adL_len (a b : UInt64) : (adL a b).length = 2 := rfl
theorem rest0_len (p : Pth) : (rest0 p).length = 18 := by simp [rest0, numK_len]
theorem restF_len (p : Pth) (i : Nat) : (restF p i).length ≤ 32 := by
  cases i with
  | zero => rw [restF, rest0_len]; decide
  | succ n => rw [restF, sumF_length]; exact Nat.le_refl _
theorem msgB_len (p : Pth) (i : Nat) : (msgB p i).length ≤ 59 := by
  have := restF_len p i
  rw [msgB, List.length_append, headB_len]; omega
theorem msgs_take {p : Pth} {i : Nat} (hi : i < p.hs.length) : (msgs p).take i ++ [(i, msgB p i)] = (msgs p).take (i + 1) := by
  rw [List.take_add_one, msgs, List.getElem?_map, List.getElem?_range hi]
  rfl
theorem msgs_pre {p : Pth} {i : Nat} (hi : i < p.hs.length) : ((msgs p).take i ++ [(i, msgB p i)]) <+: msgs p := by rw [msgs_take hi]; exact List.take_prefix _ _
theorem msgs_len (p : Pth) : (msgs p).length = p.hs.length := by rw [msgs, List.length_map, List.length_range]
theorem msgs_all (p : Pth) : (msgs p).take p.hs.length = msgs p := List.take_of_length_le (by rw [msgs_len]; exact Nat.le_refl _)
theorem flat_len16 {l : List (List UInt8)} (h : ∀ x ∈ l, x.length = 16) : l.flatten.length = l.length * 16 := by
  have q := flat_takeL h (Nat.le_refl _)
  rwa [List.take_length] at q
theorem tailH_len {h : Hop} (h1 : ∀ x ∈ h.chs, x.length = 16) (h2 : ∀ x ∈ h.ps, x.length = 16) : (tailH h).length = 4 + (h.chs.length * 16 + h.ps.length * 16) := by
  rw [tailH, List.length_append, numK_len, List.length_append, flat_len16 h1, flat_len16 h2]
theorem flatK_3 (a b c : Value × List UInt8) : flatK [a, b, c] [a, b, c].length = a.2 ++ (b.2 ++ c.2) := by simp [flatK]
theorem flatK_4 (a b c d : Value × List UInt8) : flatK [a, b, c, d] [a, b, c, d].length = a.2 ++ (b.2 ++ (c.2 ++ d.2)) := by simp [flatK]
def encM (x : Nat × List UInt8) (v : Value) : Array Value := #[.int .i64 ((x.1 : Nat) : Int), v]
def AtM (T : List Nat) (x : Nat × List UInt8) (v : Value) (w : World) : Prop := RowAt T (.row v x.2.length 5 1 (v8s x.2)) w
def InvM (p : Pth) (w : World) : Prop := p.seen w.cell? ∧ Glb w
theorem restRow {v : Value} {xs : List UInt8} (w : World) (h : (Ent.row v xs.length 5 1 (v8s xs)).at w) : Seen w.cell? v xs.length 1 (v8s xs) := (Mem.startR w h).seenV
theorem restBlk {b : Nat} {xs : List UInt8} (hl : xs.length = 32) (w : World) (h : (Ent.blk b 113 (v8s xs)).at w) : Seen w.cell? (arv b 32) xs.length 1 (v8s xs) := by
  have q : Seen w.cell? (arv b 32) 32 1 (v8s xs) := (Mem.start1 w h).seenA (by decide) (by rw [v8s_length, hl])
  rw [hl]; exact q

set_option maxRecDepth 100000 in
theorem messages (p : Pth) (w : World) (hp : p.sv)  :
    Calls Tryd.prog 49 [.agg p.c.toArray].toArray w (Gives w (fun pp : Nat => .func (.func 72) #[] #[.pointer (some ⟨pp, 0, none⟩)]) (fun pp => [.blk pp 29 p.c]) (fun _ => [])) := by
  haveI := hp.one
  refine enter (m := 4) (R := Mem w [] [] []) Tryd.func49 rfl rfl (Nat.le_of_ble_eq_true rfl) (Mem.start w) ?_
  refine wpc_seq ?_
  refine wpc_region ?_
  refine wpl_t (t_box rfl p.c rfl) rfl (fun b1 => ?_)
  refine wpl_q (q_pure rfl) rfl ?_
  refine wpl_nil ?_
  refine ex_then ?_
  refine wpc_seq ?_
  refine wpc_region ?_
  refine wpl_q (q_fn (us := []) (vs := [.pointer (some ⟨b1, 0, none⟩)]) rfl rfl) rfl ?_
  refine wpl_q (q_pure rfl) rfl ?_
  refine wpl_nil ?_
  refine ex_then ?_
  refine wpc_ret ?_
  refine ret1 (.inl rfl) rfl rfl ?_
  exact fun w h => ⟨b1, rfl, h.below, h.made SubC.h .nil⟩

end Go.Proofs.YtjpfhkjmjnjggaaDoor

namespace Go.Proofs.YtjpfhkjmjnjggaaDoor
set_option linter.unusedSimpArgs false
set_option linter.unusedVariables false
open Go Go.PL Go.RowKit
set_option maxRecDepth 100000 in
theorem messages1 (yl : Nat) (pp : Nat) (p : Pth) (J : List Nat → List (Nat × List UInt8) → World → Prop) (K : World → Prop) (w : World)  (hst : StabJ J) (hinv : ∀ T pre w1, J T pre w1 → InvM p w1) (hsk : StabK K) (hy : YieldS Tryd.prog yl encM AtM (msgs p) J K) (hJ0 : J [pp] [] w) (hpp : w.heap[pp]? = some (.cells p.c.toArray 29 (0, 0))) (hlim : ∀ h ∈ p.hs, h.chs.length ≤ 100 ∧ h.ps.length ≤ 100) :
    Calls Tryd.prog 72 [.func (.yield yl) #[] #[], .pointer (some ⟨pp, 0, none⟩)].toArray w (IterPost J K (msgs p)) := by
  obtain ⟨pf, pa, pb, pl, hv, hs⟩ := p
  have hp := (hinv _ _ _ hJ0).1
  have hh : Seen w.cell? hv hs.length 24 (hcs hs) := hp.1
  have svh := hh.sv
  have lh := svh.le
  simp only [maxLen] at lh
  change ∀ h ∈ hs, h.chs.length ≤ 100 ∧ h.ps.length ≤ 100 at hlim
  refine enter (m := 65) (R := Mem w [pp] [.blk pp 29 [.int .u8 (pf.toNat : Int), .int .u64 (pa.toNat : Int), .int .u64 (pb.toNat : Int), .int .i64 pl, hv]] []) Tryd.func72 rfl rfl (Nat.le_of_ble_eq_true rfl) (Mem.start1 w hpp) ?_
  refine wpc_seq ?_
  refine wpc_region ?_
  refine wpl_q (q_field Tryd.underlying29 rfl Tryd.ti26 rfl rfl _ rfl) rfl ?_
  refine wpl_q (q_field Tryd.underlying26 rfl Tryd.ti24 rfl rfl _ rfl) rfl ?_
  refine wpl_q (q_ldP Tryd.underlying24 rfl Tryd.ti24 rfl (adL pa pb) rfl (by first | (with_reducible exact key_len _ _ (by (first | with_reducible assumption | exact L16.h))) | with_reducible rfl | (simp only [v8s_length, v32s_length, vis_length, vns_length, v64s_length, List.length_replicate]; first | done | with_reducible assumption | omega) | (rw [v8s_length]; (first | with_reducible assumption | exact L16.h)) | rfl)) rfl ?_
  refine wpl_t (t_alloc Tryd.ti24 [.int .u64 0, .int .u64 0] rfl) rfl (fun b3 => ?_)
  refine wpl_t0 (t_stA Tryd.ti24 rfl rfl (by first | exact LenC.h | exact adL_len _ _ | (rw [v8s_length]; exact sumF_length _)) (by first | exact OneC.h | exact v8s_one _ | exact adL_one _ _) (by first | exact LenC.h | rfl)) (fun _ => ?_)
  refine wpl_nil ?_
  refine ex_then ?_
  refine wpc_seq ?_
  refine wpc_draw 17 (by kernel_rfl) (fun _ h => h.drew) ?_
  refine wpd_p 0 rfl (by kernel_rfl) trivial (q_field Tryd.underlying29 rfl Tryd.ti26 rfl rfl _ rfl) rfl sk0 ?_
  refine wpd_p 1 rfl (by kernel_rfl) trivial (q_field Tryd.underlying26 rfl Tryd.ti5 rfl rfl _ rfl) rfl sk0 ?_
  refine wpd_q 2 rfl (by kernel_rfl) trivial (q_ld Tryd.underlying5 rfl rfl (by first | exact v8s_get (by first | decide | omega | exact Nat.zero_lt_one | (simp; omega) | (simp; done) | (simp only [v8s_length, v32s_length, vis_length, vns_length, v64s_length]; omega)) | rfl)) rfl (fun _ h => h) ?_
  refine wpd_p 3 rfl (by kernel_rfl) trivial (q_field Tryd.underlying29 rfl Tryd.ti26 rfl rfl _ rfl) rfl sk0 ?_
  refine wpd_p 4 rfl (by kernel_rfl) trivial (q_field Tryd.underlying26 rfl Tryd.ti3 rfl rfl _ rfl) rfl sk0 ?_
  refine wpd_q 5 rfl (by kernel_rfl) trivial (q_ld Tryd.underlying3 rfl rfl (by first | exact vns_get (by first | decide | omega | exact Nat.zero_lt_one | (simp; omega) | (simp; done) | (simp only [v8s_length, v32s_length, vis_length, vns_length, v64s_length]; omega)) | rfl)) rfl (fun _ h => h) ?_
  refine wpd_p 6 rfl (by kernel_rfl) trivial (q8_conv Tryd.underlying3 Tryd.underlying5 rfl) rfl sk0 ?_
  refine wpd_p 8 rfl (by kernel_rfl) trivial (q_field Tryd.underlying24 rfl Tryd.ti22 rfl rfl _ rfl) rfl sk0 ?_
  refine wpd_q 9 rfl (by kernel_rfl) trivial (q_ld Tryd.underlying22 rfl rfl (by first | exact v64s_get (by first | decide | omega | exact Nat.zero_lt_one | (simp; omega) | (simp; done) | (simp only [v8s_length, v32s_length, vis_length, vns_length, v64s_length]; omega)) | rfl)) rfl (fun _ h => h) ?_
  refine wpd_p 11 rfl (by kernel_rfl) trivial (q_field Tryd.underlying24 rfl Tryd.ti22 rfl rfl _ rfl) rfl sk0 ?_
  refine wpd_q 12 rfl (by kernel_rfl) trivial (q_ld Tryd.underlying22 rfl rfl (by first | exact v64s_get (by first | decide | omega | exact Nat.zero_lt_one | (simp; omega) | (simp; done) | (simp only [v8s_length, v32s_length, vis_length, vns_length, v64s_length]; omega)) | rfl)) rfl (fun _ h => h) ?_
  refine wpd_makers (lf := #[true, true, true, true, true, true, true, true, true, true, true, true, true, true, false, false, false]) [0, 1, 2, 3, 4, 5, 6, 8, 9, 11, 12] [⟨7, 19, [], (fun _ v => SV v 2), (fun _ v => .row v 2 5 1 (v8s [pf, of8 pl]))⟩, ⟨10, 22, [], (fun _ v => SV v 8), (fun _ v => .row v 8 5 1 (v8s (numK 8 pa.toNat)))⟩, ⟨13, 25, [], (fun _ v => SV v 8), (fun _ v => .row v 8 5 1 (v8s (numK 8 pb.toNat)))⟩] 3 rfl (by kernel_rfl) (by intro m hm; simp only [List.mem_cons, List.not_mem_nil, or_false] at hm; rcases hm with rfl | rfl | rfl <;> rfl) (fun σ w h => h.sub (sub_app _ _) (Sub.refl _)) ?_ ?_
  ·
   intro m hm o ho σ hσ hd
   simp only [List.mem_cons, List.not_mem_nil, or_false] at hm
   rcases hm with rfl | rfl | rfl
   ·
    obtain rfl := Option.some.inj ho
    show TOpP _ _ _ _ _ _ Value (fun v => SV v 2) (fun v => v) (fun v => Mem _ _ (.row v 2 5 1 (v8s [pf, of8 pl]) :: _) _)
    exact TOpP.weakL (fun t u hh => slots_base t hh _ (by intro m hm; simp only [List.mem_cons, List.not_mem_nil, or_false] at hm; rcases hm with rfl | rfl | rfl <;> rfl)) (t_bsV (v8s [pf, of8 pl]) Tryd.underlying32 Tryd.ti5 rfl rfl (by decide) (by decide) rfl (v8s_one _))
   ·
    obtain rfl := Option.some.inj ho
    show TOpP _ _ _ _ _ _ Value (fun v => SV v 8) (fun v => v) (fun v => Mem _ _ (.row v 8 5 1 (v8s (numK 8 pa.toNat)) :: _) _)
    exact TOpP.weakL (fun t u hh => slots_base t hh _ (by intro m hm; simp only [List.mem_cons, List.not_mem_nil, or_false] at hm; rcases hm with rfl | rfl | rfl <;> rfl)) (t_callP1 Tryd.hb74 rfl fun w h => (fun w => wordB pa 8 w (by decide)) w)
   ·
    obtain rfl := Option.some.inj ho
    show TOpP _ _ _ _ _ _ Value (fun v => SV v 8) (fun v => v) (fun v => Mem _ _ (.row v 8 5 1 (v8s (numK 8 pb.toNat)) :: _) _)
    exact TOpP.weakL (fun t u hh => slots_base t hh _ (by intro m hm; simp only [List.mem_cons, List.not_mem_nil, or_false] at hm; rcases hm with rfl | rfl | rfl <;> rfl)) (t_callP1 Tryd.hb74 rfl fun w h => (fun w => wordB pb 8 w (by decide)) w)
  ·
   intro σ hσ hall
   obtain ⟨b19, q19⟩ := Option.isSome_iff_exists.1 (hall _ (List.mem_cons_self ..))
   obtain ⟨b22, q22⟩ := Option.isSome_iff_exists.1 (hall _ (List.mem_cons_of_mem _ (List.mem_cons_self ..)))
   obtain ⟨b25, q25⟩ := Option.isSome_iff_exists.1 (hall _ (List.mem_cons_of_mem _ (List.mem_cons_of_mem _ (List.mem_cons_self ..))))
   have p19 := (hσ _ (List.mem_cons_self ..) b19 q19).2
   try dsimp only at p19
   have p22 := (hσ _ (List.mem_cons_of_mem _ (List.mem_cons_self ..)) b22 q22).2
   try dsimp only at p22
   have p25 := (hσ _ (List.mem_cons_of_mem _ (List.mem_cons_of_mem _ (List.mem_cons_self ..))) b25 q25).2
   try dsimp only at p25
   try dsimp only at q19 q22 q25
   simp only [mkEnts, mkSlots, q19, q22, q25, List.cons_append, List.nil_append, List.map_cons, List.map_nil, Asg.v, Option.getD_some]
   refine wpd_tp 14 rfl (by kernel_rfl) trivial (t_bsV [b19, b22, b25] Tryd.underlying160 Tryd.ti32 rfl rfl (by decide) (by decide) rfl (by intro u hu; simp only [List.mem_cons, List.not_mem_nil, or_false] at hu; rcases hu with rfl | rfl | rfl <;> exact SV.one (by assumption))) rfl (fun _ => (fun w h => .inr (h.sub SubC.h SubC.h))) (fun b26 p26 => ?_)
   refine wpd_tp 15 rfl (by kernel_rfl) trivial (t_callP1 Tryd.hb73 rfl fun w h => by
     have q := joinB b26 [(b19, [pf, of8 pl]), (b22, numK 8 pa.toNat), (b25, numK 8 pb.toNat)] w ⟨h.seenV, fun q hq => by
     simp only [List.mem_cons, List.not_mem_nil, or_false] at hq
     rcases hq with rfl | rfl | rfl <;> exact Seen.re8 h.seenV⟩ (by rw [flatK_3]; simp [numK_len])
     rw [flatK_3] at q
     exact q) rfl (fun _ => (fun w h => .inr (h.sub SubC.h SubC.h))) (fun b27 p27 => ?_)
   refine wpd_p 16 rfl (by kernel_rfl) trivial (q_pure rfl) rfl (fun w h => .inr (h.sub SubC.h SubC.h)) ?_
   refine wpd_done (by kernel_rfl) ?_
   refine ex_then ?_
   refine wpc_seq ?_
   refine wpc_region ?_
   refine wpl_q (q_field Tryd.underlying29 rfl Tryd.ti27 rfl rfl _ rfl) rfl ?_
   refine wpl_q (q_ld Tryd.underlying27 rfl rfl rfl) rfl ?_
   refine wpl_q (q_lenW Tryd.underlying27 rfl (by first | assumption | exact SV.nil | exact SV.slv (by assumption) (by omega) (by omega) | exact arv_sv (by first | decide | (simp only [maxLen]; omega)))) rfl ?_
   refine wpl_q (q_pure rfl) rfl ?_
   refine wpl_nil ?_
   refine ex_then ?_
   refine wpc_block ?_
   refine wpc_loopc (ι := { x : Nat × Value × World × List Nat × Ent // (x.1 ≤ hs.length) ∧ (SV x.2.1 (restF ⟨pf, pa, pb, pl, hv, hs⟩ x.1).length) ∧ (J x.2.2.2.1 ((msgs ⟨pf, pa, pb, pl, hv, hs⟩).take x.1) x.2.2.1) ∧ (∀ w, x.2.2.2.2.at w → Seen w.cell? x.2.1 (restF ⟨pf, pa, pb, pl, hv, hs⟩ x.1).length 1 (v8s (restF ⟨pf, pa, pb, pl, hv, hs⟩ x.1))) }) [(0, _), (29, _), (30, _)] (fun x Lc => (31, .int .i64 ((x.1.1 : Nat) : Int)) :: (4, x.1.2.1) :: Lc) (fun x => Mem x.1.2.2.1 x.1.2.2.2.1 [x.1.2.2.2.2] []) (fun x => hs.length - x.1.1) ⟨(0, b27, w, [pp], .row b27 (rest0 ⟨pf, pa, pb, pl, hv, hs⟩).length 5 1 (v8s (rest0 ⟨pf, pa, pb, pl, hv, hs⟩))), ⟨Nat.zero_le _, p27, hJ0, fun w h => restRow w h⟩⟩ (by repeat (first | exact trivial | refine ⟨rfl, ?_⟩)) ?_ ?_
   ·
    exact fun w h => (show Mem _ [pp] (.row b27 (rest0 ⟨pf, pa, pb, pl, hv, hs⟩).length 5 1 (v8s (rest0 ⟨pf, pa, pb, pl, hv, hs⟩)) :: _) _ w from h).sub (.keep .nil) .nil
   ·
    rintro ⟨⟨i, rv, wb, T, rE⟩, ⟨hi0, hi1, hi2, hi3⟩⟩; try dsimp only
    have hi0 : i ≤ hs.length := hi0; have hi1 : SV rv (restF ⟨pf, pa, pb, pl, hv, hs⟩ i).length := hi1; have hi2 : J T ((msgs ⟨pf, pa, pb, pl, hv, hs⟩).take i) wb := hi2; have hi3 : ∀ w, rE.at w → Seen w.cell? rv (restF ⟨pf, pa, pb, pl, hv, hs⟩ i).length 1 (v8s (restF ⟨pf, pa, pb, pl, hv, hs⟩ i)) := hi3
    have hsee : ∀ {M : List Ent} {S : List Fact} {w : World}, Mem wb T M S w → InvM ⟨pf, pa, pb, pl, hv, hs⟩ w := fun h => hinv _ _ _ (hst _ _ _ _ _ hi2 (h.sub .nil .nil) (nums_lt h))
    have hrl := restF_len ⟨pf, pa, pb, pl, hv, hs⟩ i
    refine wpc_seq ?_
    refine wpc_region ?_
    refine wpl_q (q_pure rfl) rfl ?_
    refine wpl_nil ?_
    refine ex_then ?_
    refine wpc_seq ?_
    refine wpc_cond rfl (fun hc32 => ?_) (fun hc32 => ?_)
    ·
     simp only [decide_eq_true_eq] at hc32
     have hil : i < hs.length := by omega
     have hsi : ((hs.getD i Hop.z)).seen wb.cell? := (hinv _ _ _ hi2).1.2 _ (getD_memO hil)
     haveI := hsi.sv.one
     have hlm := hlim _ (getD_memO hil)
     refine wpc_skip ?_
     refine ex_then ?_
     refine wpc_seq ?_
     refine wpc_block ?_
     refine wpc_seq ?_
     refine wpc_region ?_
     refine wpl_q (q_pure rfl) rfl ?_
     refine wpl_q (q_idxW Tryd.underlying27 Tryd.ti68 rfl rfl (by first | assumption | exact SV.nil | exact SV.slv (by assumption) (by omega) (by omega) | exact arv_sv (by first | decide | (simp only [maxLen]; omega))) (by first | omega | (simp only [maxLen]; omega) | (simp only [List.length_append, List.length_cons, List.length_nil, List.length_take, maxLen]; omega) | (simp only [List.length_append, List.length_cons, List.length_nil, List.length_take]; omega))) rfl ?_
     refine wpl_q (q_ldWN Tryd.underlying68 rfl Tryd.ti68 rfl (fun w h => (hsee h).1.1) (hs.getD i Hop.z).c (cat_part Hop.c_length Hop.z hil) (Hop.c_length _)) rfl ?_
     refine wpl_t (t_alloc Tryd.ti68 Hop.z.c rfl) rfl (fun b6 => ?_)
     refine wpl_q (q_pure rfl) rfl ?_
     refine wpl_t0 (t_stA Tryd.ti68 rfl rfl (by first | exact LenC.h | exact adL_len _ _ | (rw [v8s_length]; exact sumF_length _)) (by first | exact OneC.h | exact v8s_one _ | exact adL_one _ _) (by first | exact LenC.h | rfl)) (fun _ => ?_)
     refine wpl_nil ?_
     refine ex_then ?_
     refine wpc_seq ?_
     refine wpc_region ?_
     refine wpl_q (q_ldN Tryd.underlying68 rfl Tryd.ti68 rfl LenC.h) rfl ?_
     refine wpl_tp (t_callP1 Tryd.hb75 rfl fun w h => head (hs.getD i Hop.z) w hsi.sv) rfl (fun b37 p37 => ?_)
     refine wpl_q (q_pure rfl) rfl ?_
     refine wpl_tp (t_bsV [b37, rv] Tryd.underlying160 Tryd.ti32 rfl rfl (by decide) (by decide) rfl (by intro u hu; simp only [List.mem_cons, List.not_mem_nil, or_false] at hu; rcases hu with rfl | rfl <;> exact SV.one (by assumption))) rfl (fun b39 p39 => ?_)
     refine wpl_tp (t_callP1 Tryd.hb73 rfl fun w h => by
       have q := joinB b39 [(b37, (headB (hs.getD i Hop.z))), (rv, (restF ⟨pf, pa, pb, pl, hv, hs⟩ i))] w ⟨h.seenV, fun q hq => by
       simp only [List.mem_cons, List.not_mem_nil, or_false] at hq
       rcases hq with rfl | rfl
       · have q : Seen w.cell? b37 27 1 (v8s (headB (hs.getD i Hop.z))) := h.seen_row (by repeat (first | exact List.mem_cons_self .. | apply List.mem_cons_of_mem))
         exact Seen.re8 q
       · exact hi3 w (h.own rE (by repeat (first | exact List.mem_cons_self .. | apply List.mem_cons_of_mem)))⟩ (by rw [flatK_2, List.length_append, headB_len]; show 27 + (restF ⟨pf, pa, pb, pl, hv, hs⟩ i).length ≤ 100000; omega)
       rw [flatK_2] at q
       exact q) rfl (fun b40 p40 => ?_)
     refine wpl_q (q_pure rfl) rfl ?_
     refine wpl_nil ?_
     refine ex_then ?_
     refine wpc_seq ?_
     refine wpc_seq ?_
     refine wpc_region_y ?_
     refine wil_q (q_pure rfl) rfl ?_
     refine wil_q (q_pure rfl) rfl ?_
     refine wil_q (q_pure rfl) rfl ?_
     refine wil_yieldS ((i, msgB ⟨pf, pa, pb, pl, hv, hs⟩ i)) (b40) rfl rfl hst hy hi2 (msgs_pre (p := ⟨pf, pa, pb, pl, hv, hs⟩) hil) rfl (fun w h => h.rowAt (by repeat (first | exact List.mem_cons_self .. | apply List.mem_cons_of_mem))) rfl ?_ ?_
     ·
      intro u44 hu44
      have hsee2 : ∀ {M : List Ent} {S : List Fact} {w : World}, Mem u44 (nums (.row b40 ((headB (hs.getD i Hop.z)) ++ (restF ⟨pf, pa, pb, pl, hv, hs⟩ i)).length 5 1 (v8s ((headB (hs.getD i Hop.z)) ++ (restF ⟨pf, pa, pb, pl, hv, hs⟩ i))) :: .row b39 2 32 1 [b37, rv] :: .row b37 27 5 1 (v8s (headB (hs.getD i Hop.z))) :: .blk b6 68 (hs.getD i Hop.z).c :: [rE])) M S w → InvM ⟨pf, pa, pb, pl, hv, hs⟩ w := fun h => hinv _ _ _ (hst _ _ _ _ _ hu44 (h.sub .nil .nil) (nums_lt h))
      refine wil_q (q_pure rfl) rfl ?_
      refine wil_nil ?_
      refine ex_then ?_
      refine wpc_cond_f rfl ?_
      refine wpc_skip ?_
      refine ex_then ?_
      refine wpc_seq ?_
      refine wpc_draw 18 (by kernel_rfl) (fun _ h => h.drew) ?_
      refine wpd_p 0 rfl (by kernel_rfl) trivial (q_pure rfl) rfl sk0 ?_
      refine wpd_p 1 rfl (by kernel_rfl) trivial (q_field Tryd.underlying68 rfl Tryd.ti66 rfl rfl _ rfl) rfl sk0 ?_
      refine wpd_p 2 rfl (by kernel_rfl) trivial (q_field Tryd.underlying66 rfl Tryd.ti3 rfl rfl _ rfl) rfl sk0 ?_
      refine wpd_q 3 rfl (by kernel_rfl) trivial (q_ld Tryd.underlying3 rfl rfl (Hop.c_ix _)) rfl (fun _ h => h) ?_
      refine wpd_p 4 rfl (by kernel_rfl) trivial (q64_conv Tryd.underlying3 Tryd.underlying22 rfl) rfl sk0 ?_
      refine wpd_p 6 rfl (by kernel_rfl) trivial (q_field Tryd.underlying68 rfl Tryd.ti66 rfl rfl _ rfl) rfl sk0 ?_
      refine wpd_p 7 rfl (by kernel_rfl) trivial (q_field Tryd.underlying66 rfl Tryd.ti64 rfl rfl _ rfl) rfl sk0 ?_
      refine wpd_q 8 rfl (by kernel_rfl) trivial (q_ld Tryd.underlying64 rfl rfl (Hop.c_cv _)) rfl (fun _ h => h) ?_
      refine wpd_p 10 rfl (by kernel_rfl) trivial (q_field Tryd.underlying68 rfl Tryd.ti66 rfl rfl _ rfl) rfl sk0 ?_
      refine wpd_p 11 rfl (by kernel_rfl) trivial (q_field Tryd.underlying66 rfl Tryd.ti64 rfl rfl _ rfl) rfl sk0 ?_
      refine wpd_q 12 rfl (by kernel_rfl) trivial (q_ld Tryd.underlying64 rfl rfl (Hop.c_pv _)) rfl (fun _ h => h) ?_
      refine wpd_two 5 17 (by kernel_rfl) ?_ ?_
      ·
       refine wpa_tp 5 rfl trivial (t_callP1 Tryd.hb74 rfl fun w h => wordB (of64 (hs.getD i Hop.z).ix) 4 w (by decide)) rfl (fun _ => (fun w h => .inr (h.sub SubC.h SubC.h))) (fun b51 p51 => ?_)
       refine wpd_two 9 17 (by kernel_rfl) ?_ ?_
       ·
        refine wpa_tp 9 rfl trivial (t_callP1 Tryd.hb77 rfl fun w h => shorts (hs.getD i Hop.z).cv (hs.getD i Hop.z).chs w ((hsee2 h).1.2 _ (getD_memO hil)).1 hsi.2.1 (by omega)) rfl (fun _ => (fun w h => .inr (h.sub SubC.h SubC.h))) (fun b55 p55 => ?_)
        refine wpd_two 13 17 (by kernel_rfl) ?_ ?_
        ·
         refine wpa_tp 13 rfl trivial (t_callP1 Tryd.hb77 rfl fun w h => shorts (hs.getD i Hop.z).pv (hs.getD i Hop.z).ps w ((hsee2 h).1.2 _ (getD_memO hil)).2.2.1 hsi.2.2.2 (by omega)) rfl (fun _ => (fun w h => .inr (h.sub SubC.h SubC.h))) (fun b59 p59 => ?_)
         refine wpd_two 14 17 (by kernel_rfl) ?_ ?_
         ·
          refine wpa_tp 14 rfl trivial (t_bsV [b40, b51, b55, b59] Tryd.underlying160 Tryd.ti32 rfl rfl (by decide) (by decide) rfl (by intro u hu; simp only [List.mem_cons, List.not_mem_nil, or_false] at hu; rcases hu with rfl | rfl | rfl | rfl <;> exact SV.one (by assumption))) rfl (fun _ => (fun w h => .inr (h.sub SubC.h SubC.h))) (fun b60 p60 => ?_)
          refine wpd_two 15 17 (by kernel_rfl) ?_ ?_
          ·
           refine wpa_tp 15 rfl trivial (t_callP1 Tryd.hb73 rfl fun w h => by
             have q := joinB b60 [(b40, ((headB (hs.getD i Hop.z)) ++ (restF ⟨pf, pa, pb, pl, hv, hs⟩ i))), (b51, numK 4 (of64 (hs.getD i Hop.z).ix).toNat), (b55, (hs.getD i Hop.z).chs.flatten), (b59, (hs.getD i Hop.z).ps.flatten)] w ⟨h.seenV, fun q hq => by
             simp only [List.mem_cons, List.not_mem_nil, or_false] at hq
             rcases hq with rfl | rfl | rfl | rfl
             · exact h.seen_row (by repeat (first | exact List.mem_cons_self .. | apply List.mem_cons_of_mem))
             · have q : Seen w.cell? b51 4 1 (v8s (numK 4 (of64 (hs.getD i Hop.z).ix).toNat)) := h.seen_row (by repeat (first | exact List.mem_cons_self .. | apply List.mem_cons_of_mem))
               exact Seen.re8 q
             · have q : Seen w.cell? b55 ((hs.getD i Hop.z).chs.length * 16) 1 (v8s (hs.getD i Hop.z).chs.flatten) := h.seen_row (by repeat (first | exact List.mem_cons_self .. | apply List.mem_cons_of_mem))
               exact Seen.re8 q
             · have q : Seen w.cell? b59 ((hs.getD i Hop.z).ps.length * 16) 1 (v8s (hs.getD i Hop.z).ps.flatten) := h.seen_row (by repeat (first | exact List.mem_cons_self .. | apply List.mem_cons_of_mem))
               exact Seen.re8 q⟩ (by rw [flatK_4]; show (((headB (hs.getD i Hop.z)) ++ (restF ⟨pf, pa, pb, pl, hv, hs⟩ i)) ++ (tailH (hs.getD i Hop.z))).length ≤ 100000; rw [List.length_append, tailH_len hsi.2.1 hsi.2.2.2, List.length_append, headB_len]; omega)
             rw [flatK_4] at q
             exact q) rfl (fun _ => (fun w h => .inr (h.sub SubC.h SubC.h))) (fun b61 p61 => ?_)
           refine wpd_two 16 17 (by kernel_rfl) ?_ ?_
           ·
            refine wpa_t 16 rfl trivial (t_pur Tryd.hb76 rfl fun w h => sumW b61 (((headB (hs.getD i Hop.z)) ++ (restF ⟨pf, pa, pb, pl, hv, hs⟩ i)) ++ (tailH (hs.getD i Hop.z))) w h.seenV (hsee2 h).2) rfl (fun _ => (fun w h => .inr (h.sub SubC.h SubC.h))) (fun b62 => ?_)
            refine wpd_t 17 rfl (by kernel_rfl) trivial (t_alloc Tryd.ti113 (v8s (List.replicate 32 0)) rfl) rfl (fun _ => (fun w h => .inr (h.sub SubC.h SubC.h))) (fun b8 => ?_)
            refine wpd_t0 18 rfl (by kernel_rfl) trivial (t_stA Tryd.ti113 rfl rfl (by rw [v8s_length]; exact sumF_length _) (v8s_one _) (by rw [v8s_length, List.length_replicate])) (fun _ => skk rfl) (fun _ => ?_)
            refine wpd_done (by kernel_rfl) ?_
            refine ex_then ?_
            refine wpc_region ?_
            refine wpl_q (q_arAll Tryd.underlying113 Tryd.ti5 rfl rfl) rfl ?_
            refine wpl_q (q_pure rfl) rfl ?_
            refine wpl_nil ?_
            refine ex_block ?_
            refine ex_then ?_
            refine wpc_region ?_
            refine wpl_q (q_addN (b := 1) rfl rfl (by first | omega | (simp only [maxLen]; omega) | (simp only [List.length_append, List.length_cons, List.length_nil, List.length_take, maxLen]; omega) | (simp only [List.length_append, List.length_cons, List.length_nil, List.length_take]; omega))) rfl ?_
            refine wpl_q (q_pure rfl) rfl ?_
            refine wpl_nil ?_
            refine ex_again ⟨(i + 1, arv b8 32, u44, nums (.row b40 ((headB (hs.getD i Hop.z)) ++ (restF ⟨pf, pa, pb, pl, hv, hs⟩ i)).length 5 1 (v8s ((headB (hs.getD i Hop.z)) ++ (restF ⟨pf, pa, pb, pl, hv, hs⟩ i))) :: .row b39 2 32 1 [b37, rv] :: .row b37 27 5 1 (v8s (headB (hs.getD i Hop.z))) :: .blk b6 68 (hs.getD i Hop.z).c :: [rE]), .blk b8 113 (v8s (sumF (((headB (hs.getD i Hop.z)) ++ (restF ⟨pf, pa, pb, pl, hv, hs⟩ i)) ++ (tailH (hs.getD i Hop.z)))))), ⟨by show i + 1 ≤ hs.length; omega, by show SV (arv b8 32) (restF ⟨pf, pa, pb, pl, hv, hs⟩ (i + 1)).length; rw [restF, sumF_length]; exact arv_sv (by decide), by show J _ ((msgs ⟨pf, pa, pb, pl, hv, hs⟩).take (i + 1)) u44; rw [← msgs_take (p := ⟨pf, pa, pb, pl, hv, hs⟩) hil]; exact hu44, fun w h => by show Seen w.cell? _ (restF ⟨pf, pa, pb, pl, hv, hs⟩ (i + 1)).length 1 (v8s (restF ⟨pf, pa, pb, pl, hv, hs⟩ (i + 1))); rw [restF]; exact restBlk (sumF_length _) w h⟩⟩ ?_ ?_ ?_
            ·
             exact (by repeat (first | exact trivial | refine ⟨rfl, ?_⟩))
            ·
             exact fun w h => h.sel
            ·
             (show hs.length - (i + 1) < hs.length - i); omega
           ·
            refine wpa_t 17 rfl trivial (t_alloc Tryd.ti113 (v8s (List.replicate 32 0)) rfl) rfl (fun _ => (fun w h => .inr (h.sub SubC.h SubC.h))) (fun b8 => ?_)
            refine wpd_t 16 rfl (by kernel_rfl) trivial (t_pur Tryd.hb76 rfl fun w h => sumW b61 (((headB (hs.getD i Hop.z)) ++ (restF ⟨pf, pa, pb, pl, hv, hs⟩ i)) ++ (tailH (hs.getD i Hop.z))) w h.seenV (hsee2 h).2) rfl (fun _ => (fun w h => .inr (h.sub SubC.h SubC.h))) (fun b62 => ?_)
            refine wpd_t0 18 rfl (by kernel_rfl) trivial (t_stA Tryd.ti113 rfl rfl (by rw [v8s_length]; exact sumF_length _) (v8s_one _) (by rw [v8s_length, List.length_replicate])) (fun _ => skk rfl) (fun _ => ?_)
            refine wpd_done (by kernel_rfl) ?_
            refine ex_then ?_
            refine wpc_region ?_
            refine wpl_q (q_arAll Tryd.underlying113 Tryd.ti5 rfl rfl) rfl ?_
            refine wpl_q (q_pure rfl) rfl ?_
            refine wpl_nil ?_
            refine ex_block ?_
            refine ex_then ?_
            refine wpc_region ?_
            refine wpl_q (q_addN (b := 1) rfl rfl (by first | omega | (simp only [maxLen]; omega) | (simp only [List.length_append, List.length_cons, List.length_nil, List.length_take, maxLen]; omega) | (simp only [List.length_append, List.length_cons, List.length_nil, List.length_take]; omega))) rfl ?_
            refine wpl_q (q_pure rfl) rfl ?_
            refine wpl_nil ?_
            refine ex_again ⟨(i + 1, arv b8 32, u44, nums (.row b40 ((headB (hs.getD i Hop.z)) ++ (restF ⟨pf, pa, pb, pl, hv, hs⟩ i)).length 5 1 (v8s ((headB (hs.getD i Hop.z)) ++ (restF ⟨pf, pa, pb, pl, hv, hs⟩ i))) :: .row b39 2 32 1 [b37, rv] :: .row b37 27 5 1 (v8s (headB (hs.getD i Hop.z))) :: .blk b6 68 (hs.getD i Hop.z).c :: [rE]), .blk b8 113 (v8s (sumF (((headB (hs.getD i Hop.z)) ++ (restF ⟨pf, pa, pb, pl, hv, hs⟩ i)) ++ (tailH (hs.getD i Hop.z)))))), ⟨by show i + 1 ≤ hs.length; omega, by show SV (arv b8 32) (restF ⟨pf, pa, pb, pl, hv, hs⟩ (i + 1)).length; rw [restF, sumF_length]; exact arv_sv (by decide), by show J _ ((msgs ⟨pf, pa, pb, pl, hv, hs⟩).take (i + 1)) u44; rw [← msgs_take (p := ⟨pf, pa, pb, pl, hv, hs⟩) hil]; exact hu44, fun w h => by show Seen w.cell? _ (restF ⟨pf, pa, pb, pl, hv, hs⟩ (i + 1)).length 1 (v8s (restF ⟨pf, pa, pb, pl, hv, hs⟩ (i + 1))); rw [restF]; exact restBlk (sumF_length _) w h⟩⟩ ?_ ?_ ?_
            ·
             exact (by repeat (first | exact trivial | refine ⟨rfl, ?_⟩))
            ·
             exact fun w h => h.sel
            ·
             (show hs.length - (i + 1) < hs.length - i); omega
          ·
           refine wpa_t 17 rfl trivial (t_alloc Tryd.ti113 (v8s (List.replicate 32 0)) rfl) rfl (fun _ => (fun w h => .inr (h.sub SubC.h SubC.h))) (fun b8 => ?_)
           refine wpd_tp 15 rfl (by kernel_rfl) trivial (t_callP1 Tryd.hb73 rfl fun w h => by
             have q := joinB b60 [(b40, ((headB (hs.getD i Hop.z)) ++ (restF ⟨pf, pa, pb, pl, hv, hs⟩ i))), (b51, numK 4 (of64 (hs.getD i Hop.z).ix).toNat), (b55, (hs.getD i Hop.z).chs.flatten), (b59, (hs.getD i Hop.z).ps.flatten)] w ⟨h.seenV, fun q hq => by
             simp only [List.mem_cons, List.not_mem_nil, or_false] at hq
             rcases hq with rfl | rfl | rfl | rfl
             · exact h.seen_row (by repeat (first | exact List.mem_cons_self .. | apply List.mem_cons_of_mem))
             · have q : Seen w.cell? b51 4 1 (v8s (numK 4 (of64 (hs.getD i Hop.z).ix).toNat)) := h.seen_row (by repeat (first | exact List.mem_cons_self .. | apply List.mem_cons_of_mem))
               exact Seen.re8 q
             · have q : Seen w.cell? b55 ((hs.getD i Hop.z).chs.length * 16) 1 (v8s (hs.getD i Hop.z).chs.flatten) := h.seen_row (by repeat (first | exact List.mem_cons_self .. | apply List.mem_cons_of_mem))
               exact Seen.re8 q
             · have q : Seen w.cell? b59 ((hs.getD i Hop.z).ps.length * 16) 1 (v8s (hs.getD i Hop.z).ps.flatten) := h.seen_row (by repeat (first | exact List.mem_cons_self .. | apply List.mem_cons_of_mem))
               exact Seen.re8 q⟩ (by rw [flatK_4]; show (((headB (hs.getD i Hop.z)) ++ (restF ⟨pf, pa, pb, pl, hv, hs⟩ i)) ++ (tailH (hs.getD i Hop.z))).length ≤ 100000; rw [List.length_append, tailH_len hsi.2.1 hsi.2.2.2, List.length_append, headB_len]; omega)
             rw [flatK_4] at q
             exact q) rfl (fun _ => (fun w h => .inr (h.sub SubC.h SubC.h))) (fun b61 p61 => ?_)
           refine wpd_t 16 rfl (by kernel_rfl) trivial (t_pur Tryd.hb76 rfl fun w h => sumW b61 (((headB (hs.getD i Hop.z)) ++ (restF ⟨pf, pa, pb, pl, hv, hs⟩ i)) ++ (tailH (hs.getD i Hop.z))) w h.seenV (hsee2 h).2) rfl (fun _ => (fun w h => .inr (h.sub SubC.h SubC.h))) (fun b62 => ?_)
           refine wpd_t0 18 rfl (by kernel_rfl) trivial (t_stA Tryd.ti113 rfl rfl (by rw [v8s_length]; exact sumF_length _) (v8s_one _) (by rw [v8s_length, List.length_replicate])) (fun _ => skk rfl) (fun _ => ?_)
           refine wpd_done (by kernel_rfl) ?_
           refine ex_then ?_
           refine wpc_region ?_
           refine wpl_q (q_arAll Tryd.underlying113 Tryd.ti5 rfl rfl) rfl ?_
           refine wpl_q (q_pure rfl) rfl ?_
           refine wpl_nil ?_
           refine ex_block ?_
           refine ex_then ?_
           refine wpc_region ?_
           refine wpl_q (q_addN (b := 1) rfl rfl (by first | omega | (simp only [maxLen]; omega) | (simp only [List.length_append, List.length_cons, List.length_nil, List.length_take, maxLen]; omega) | (simp only [List.length_append, List.length_cons, List.length_nil, List.length_take]; omega))) rfl ?_
           refine wpl_q (q_pure rfl) rfl ?_
           refine wpl_nil ?_
           refine ex_again ⟨(i + 1, arv b8 32, u44, nums (.row b40 ((headB (hs.getD i Hop.z)) ++ (restF ⟨pf, pa, pb, pl, hv, hs⟩ i)).length 5 1 (v8s ((headB (hs.getD i Hop.z)) ++ (restF ⟨pf, pa, pb, pl, hv, hs⟩ i))) :: .row b39 2 32 1 [b37, rv] :: .row b37 27 5 1 (v8s (headB (hs.getD i Hop.z))) :: .blk b6 68 (hs.getD i Hop.z).c :: [rE]), .blk b8 113 (v8s (sumF (((headB (hs.getD i Hop.z)) ++ (restF ⟨pf, pa, pb, pl, hv, hs⟩ i)) ++ (tailH (hs.getD i Hop.z)))))), ⟨by show i + 1 ≤ hs.length; omega, by show SV (arv b8 32) (restF ⟨pf, pa, pb, pl, hv, hs⟩ (i + 1)).length; rw [restF, sumF_length]; exact arv_sv (by decide), by show J _ ((msgs ⟨pf, pa, pb, pl, hv, hs⟩).take (i + 1)) u44; rw [← msgs_take (p := ⟨pf, pa, pb, pl, hv, hs⟩) hil]; exact hu44, fun w h => by show Seen w.cell? _ (restF ⟨pf, pa, pb, pl, hv, hs⟩ (i + 1)).length 1 (v8s (restF ⟨pf, pa, pb, pl, hv, hs⟩ (i + 1))); rw [restF]; exact restBlk (sumF_length _) w h⟩⟩ ?_ ?_ ?_
           ·
            exact (by repeat (first | exact trivial | refine ⟨rfl, ?_⟩))
           ·
            exact fun w h => h.sel
           ·
            (show hs.length - (i + 1) < hs.length - i); omega
         ·
          refine wpa_t 17 rfl trivial (t_alloc Tryd.ti113 (v8s (List.replicate 32 0)) rfl) rfl (fun _ => (fun w h => .inr (h.sub SubC.h SubC.h))) (fun b8 => ?_)
          refine wpd_tp 14 rfl (by kernel_rfl) trivial (t_bsV [b40, b51, b55, b59] Tryd.underlying160 Tryd.ti32 rfl rfl (by decide) (by decide) rfl (by intro u hu; simp only [List.mem_cons, List.not_mem_nil, or_false] at hu; rcases hu with rfl | rfl | rfl | rfl <;> exact SV.one (by assumption))) rfl (fun _ => (fun w h => .inr (h.sub SubC.h SubC.h))) (fun b60 p60 => ?_)
          refine wpd_tp 15 rfl (by kernel_rfl) trivial (t_callP1 Tryd.hb73 rfl fun w h => by
            have q := joinB b60 [(b40, ((headB (hs.getD i Hop.z)) ++ (restF ⟨pf, pa, pb, pl, hv, hs⟩ i))), (b51, numK 4 (of64 (hs.getD i Hop.z).ix).toNat), (b55, (hs.getD i Hop.z).chs.flatten), (b59, (hs.getD i Hop.z).ps.flatten)] w ⟨h.seenV, fun q hq => by
            simp only [List.mem_cons, List.not_mem_nil, or_false] at hq
            rcases hq with rfl | rfl | rfl | rfl
            · exact h.seen_row (by repeat (first | exact List.mem_cons_self .. | apply List.mem_cons_of_mem))
            · have q : Seen w.cell? b51 4 1 (v8s (numK 4 (of64 (hs.getD i Hop.z).ix).toNat)) := h.seen_row (by repeat (first | exact List.mem_cons_self .. | apply List.mem_cons_of_mem))
              exact Seen.re8 q
            · have q : Seen w.cell? b55 ((hs.getD i Hop.z).chs.length * 16) 1 (v8s (hs.getD i Hop.z).chs.flatten) := h.seen_row (by repeat (first | exact List.mem_cons_self .. | apply List.mem_cons_of_mem))
              exact Seen.re8 q
            · have q : Seen w.cell? b59 ((hs.getD i Hop.z).ps.length * 16) 1 (v8s (hs.getD i Hop.z).ps.flatten) := h.seen_row (by repeat (first | exact List.mem_cons_self .. | apply List.mem_cons_of_mem))
              exact Seen.re8 q⟩ (by rw [flatK_4]; show (((headB (hs.getD i Hop.z)) ++ (restF ⟨pf, pa, pb, pl, hv, hs⟩ i)) ++ (tailH (hs.getD i Hop.z))).length ≤ 100000; rw [List.length_append, tailH_len hsi.2.1 hsi.2.2.2, List.length_append, headB_len]; omega)
            rw [flatK_4] at q
            exact q) rfl (fun _ => (fun w h => .inr (h.sub SubC.h SubC.h))) (fun b61 p61 => ?_)
          refine wpd_t 16 rfl (by kernel_rfl) trivial (t_pur Tryd.hb76 rfl fun w h => sumW b61 (((headB (hs.getD i Hop.z)) ++ (restF ⟨pf, pa, pb, pl, hv, hs⟩ i)) ++ (tailH (hs.getD i Hop.z))) w h.seenV (hsee2 h).2) rfl (fun _ => (fun w h => .inr (h.sub SubC.h SubC.h))) (fun b62 => ?_)
          refine wpd_t0 18 rfl (by kernel_rfl) trivial (t_stA Tryd.ti113 rfl rfl (by rw [v8s_length]; exact sumF_length _) (v8s_one _) (by rw [v8s_length, List.length_replicate])) (fun _ => skk rfl) (fun _ => ?_)
          refine wpd_done (by kernel_rfl) ?_
          refine ex_then ?_
          refine wpc_region ?_
          refine wpl_q (q_arAll Tryd.underlying113 Tryd.ti5 rfl rfl) rfl ?_
          refine wpl_q (q_pure rfl) rfl ?_
          refine wpl_nil ?_
          refine ex_block ?_
          refine ex_then ?_
          refine wpc_region ?_
          refine wpl_q (q_addN (b := 1) rfl rfl (by first | omega | (simp only [maxLen]; omega) | (simp only [List.length_append, List.length_cons, List.length_nil, List.length_take, maxLen]; omega) | (simp only [List.length_append, List.length_cons, List.length_nil, List.length_take]; omega))) rfl ?_
          refine wpl_q (q_pure rfl) rfl ?_
          refine wpl_nil ?_
          refine ex_again ⟨(i + 1, arv b8 32, u44, nums (.row b40 ((headB (hs.getD i Hop.z)) ++ (restF ⟨pf, pa, pb, pl, hv, hs⟩ i)).length 5 1 (v8s ((headB (hs.getD i Hop.z)) ++ (restF ⟨pf, pa, pb, pl, hv, hs⟩ i))) :: .row b39 2 32 1 [b37, rv] :: .row b37 27 5 1 (v8s (headB (hs.getD i Hop.z))) :: .blk b6 68 (hs.getD i Hop.z).c :: [rE]), .blk b8 113 (v8s (sumF (((headB (hs.getD i Hop.z)) ++ (restF ⟨pf, pa, pb, pl, hv, hs⟩ i)) ++ (tailH (hs.getD i Hop.z)))))), ⟨by show i + 1 ≤ hs.length; omega, by show SV (arv b8 32) (restF ⟨pf, pa, pb, pl, hv, hs⟩ (i + 1)).length; rw [restF, sumF_length]; exact arv_sv (by decide), by show J _ ((msgs ⟨pf, pa, pb, pl, hv, hs⟩).take (i + 1)) u44; rw [← msgs_take (p := ⟨pf, pa, pb, pl, hv, hs⟩) hil]; exact hu44, fun w h => by show Seen w.cell? _ (restF ⟨pf, pa, pb, pl, hv, hs⟩ (i + 1)).length 1 (v8s (restF ⟨pf, pa, pb, pl, hv, hs⟩ (i + 1))); rw [restF]; exact restBlk (sumF_length _) w h⟩⟩ ?_ ?_ ?_
          ·
           exact (by repeat (first | exact trivial | refine ⟨rfl, ?_⟩))
          ·
           exact fun w h => h.sel
          ·
           (show hs.length - (i + 1) < hs.length - i); omega
        ·
         refine wpa_t 17 rfl trivial (t_alloc Tryd.ti113 (v8s (List.replicate 32 0)) rfl) rfl (fun _ => (fun w h => .inr (h.sub SubC.h SubC.h))) (fun b8 => ?_)
         refine wpd_tp 13 rfl (by kernel_rfl) trivial (t_callP1 Tryd.hb77 rfl fun w h => shorts (hs.getD i Hop.z).pv (hs.getD i Hop.z).ps w ((hsee2 h).1.2 _ (getD_memO hil)).2.2.1 hsi.2.2.2 (by omega)) rfl (fun _ => (fun w h => .inr (h.sub SubC.h SubC.h))) (fun b59 p59 => ?_)
         refine wpd_tp 14 rfl (by kernel_rfl) trivial (t_bsV [b40, b51, b55, b59] Tryd.underlying160 Tryd.ti32 rfl rfl (by decide) (by decide) rfl (by intro u hu; simp only [List.mem_cons, List.not_mem_nil, or_false] at hu; rcases hu with rfl | rfl | rfl | rfl <;> exact SV.one (by assumption))) rfl (fun _ => (fun w h => .inr (h.sub SubC.h SubC.h))) (fun b60 p60 => ?_)
         refine wpd_tp 15 rfl (by kernel_rfl) trivial (t_callP1 Tryd.hb73 rfl fun w h => by
           have q := joinB b60 [(b40, ((headB (hs.getD i Hop.z)) ++ (restF ⟨pf, pa, pb, pl, hv, hs⟩ i))), (b51, numK 4 (of64 (hs.getD i Hop.z).ix).toNat), (b55, (hs.getD i Hop.z).chs.flatten), (b59, (hs.getD i Hop.z).ps.flatten)] w ⟨h.seenV, fun q hq => by
           simp only [List.mem_cons, List.not_mem_nil, or_false] at hq
           rcases hq with rfl | rfl | rfl | rfl
           · exact h.seen_row (by repeat (first | exact List.mem_cons_self .. | apply List.mem_cons_of_mem))
           · have q : Seen w.cell? b51 4 1 (v8s (numK 4 (of64 (hs.getD i Hop.z).ix).toNat)) := h.seen_row (by repeat (first | exact List.mem_cons_self .. | apply List.mem_cons_of_mem))
             exact Seen.re8 q
           · have q : Seen w.cell? b55 ((hs.getD i Hop.z).chs.length * 16) 1 (v8s (hs.getD i Hop.z).chs.flatten) := h.seen_row (by repeat (first | exact List.mem_cons_self .. | apply List.mem_cons_of_mem))
             exact Seen.re8 q
           · have q : Seen w.cell? b59 ((hs.getD i Hop.z).ps.length * 16) 1 (v8s (hs.getD i Hop.z).ps.flatten) := h.seen_row (by repeat (first | exact List.mem_cons_self .. | apply List.mem_cons_of_mem))
             exact Seen.re8 q⟩ (by rw [flatK_4]; show (((headB (hs.getD i Hop.z)) ++ (restF ⟨pf, pa, pb, pl, hv, hs⟩ i)) ++ (tailH (hs.getD i Hop.z))).length ≤ 100000; rw [List.length_append, tailH_len hsi.2.1 hsi.2.2.2, List.length_append, headB_len]; omega)
           rw [flatK_4] at q
           exact q) rfl (fun _ => (fun w h => .inr (h.sub SubC.h SubC.h))) (fun b61 p61 => ?_)
         refine wpd_t 16 rfl (by kernel_rfl) trivial (t_pur Tryd.hb76 rfl fun w h => sumW b61 (((headB (hs.getD i Hop.z)) ++ (restF ⟨pf, pa, pb, pl, hv, hs⟩ i)) ++ (tailH (hs.getD i Hop.z))) w h.seenV (hsee2 h).2) rfl (fun _ => (fun w h => .inr (h.sub SubC.h SubC.h))) (fun b62 => ?_)
         refine wpd_t0 18 rfl (by kernel_rfl) trivial (t_stA Tryd.ti113 rfl rfl (by rw [v8s_length]; exact sumF_length _) (v8s_one _) (by rw [v8s_length, List.length_replicate])) (fun _ => skk rfl) (fun _ => ?_)
         refine wpd_done (by kernel_rfl) ?_
         refine ex_then ?_
         refine wpc_region ?_
         refine wpl_q (q_arAll Tryd.underlying113 Tryd.ti5 rfl rfl) rfl ?_
         refine wpl_q (q_pure rfl) rfl ?_
         refine wpl_nil ?_
         refine ex_block ?_
         refine ex_then ?_
         refine wpc_region ?_
         refine wpl_q (q_addN (b := 1) rfl rfl (by first | omega | (simp only [maxLen]; omega) | (simp only [List.length_append, List.length_cons, List.length_nil, List.length_take, maxLen]; omega) | (simp only [List.length_append, List.length_cons, List.length_nil, List.length_take]; omega))) rfl ?_
         refine wpl_q (q_pure rfl) rfl ?_
         refine wpl_nil ?_
         refine ex_again ⟨(i + 1, arv b8 32, u44, nums (.row b40 ((headB (hs.getD i Hop.z)) ++ (restF ⟨pf, pa, pb, pl, hv, hs⟩ i)).length 5 1 (v8s ((headB (hs.getD i Hop.z)) ++ (restF ⟨pf, pa, pb, pl, hv, hs⟩ i))) :: .row b39 2 32 1 [b37, rv] :: .row b37 27 5 1 (v8s (headB (hs.getD i Hop.z))) :: .blk b6 68 (hs.getD i Hop.z).c :: [rE]), .blk b8 113 (v8s (sumF (((headB (hs.getD i Hop.z)) ++ (restF ⟨pf, pa, pb, pl, hv, hs⟩ i)) ++ (tailH (hs.getD i Hop.z)))))), ⟨by show i + 1 ≤ hs.length; omega, by show SV (arv b8 32) (restF ⟨pf, pa, pb, pl, hv, hs⟩ (i + 1)).length; rw [restF, sumF_length]; exact arv_sv (by decide), by show J _ ((msgs ⟨pf, pa, pb, pl, hv, hs⟩).take (i + 1)) u44; rw [← msgs_take (p := ⟨pf, pa, pb, pl, hv, hs⟩) hil]; exact hu44, fun w h => by show Seen w.cell? _ (restF ⟨pf, pa, pb, pl, hv, hs⟩ (i + 1)).length 1 (v8s (restF ⟨pf, pa, pb, pl, hv, hs⟩ (i + 1))); rw [restF]; exact restBlk (sumF_length _) w h⟩⟩ ?_ ?_ ?_
         ·
          exact (by repeat (first | exact trivial | refine ⟨rfl, ?_⟩))
         ·
          exact fun w h => h.sel
         ·
          (show hs.length - (i + 1) < hs.length - i); omega
       ·
        refine wpa_t 17 rfl trivial (t_alloc Tryd.ti113 (v8s (List.replicate 32 0)) rfl) rfl (fun _ => (fun w h => .inr (h.sub SubC.h SubC.h))) (fun b8 => ?_)
        refine wpd_tp 9 rfl (by kernel_rfl) trivial (t_callP1 Tryd.hb77 rfl fun w h => shorts (hs.getD i Hop.z).cv (hs.getD i Hop.z).chs w ((hsee2 h).1.2 _ (getD_memO hil)).1 hsi.2.1 (by omega)) rfl (fun _ => (fun w h => .inr (h.sub SubC.h SubC.h))) (fun b55 p55 => ?_)
        refine wpd_tp 13 rfl (by kernel_rfl) trivial (t_callP1 Tryd.hb77 rfl fun w h => shorts (hs.getD i Hop.z).pv (hs.getD i Hop.z).ps w ((hsee2 h).1.2 _ (getD_memO hil)).2.2.1 hsi.2.2.2 (by omega)) rfl (fun _ => (fun w h => .inr (h.sub SubC.h SubC.h))) (fun b59 p59 => ?_)
        refine wpd_tp 14 rfl (by kernel_rfl) trivial (t_bsV [b40, b51, b55, b59] Tryd.underlying160 Tryd.ti32 rfl rfl (by decide) (by decide) rfl (by intro u hu; simp only [List.mem_cons, List.not_mem_nil, or_false] at hu; rcases hu with rfl | rfl | rfl | rfl <;> exact SV.one (by assumption))) rfl (fun _ => (fun w h => .inr (h.sub SubC.h SubC.h))) (fun b60 p60 => ?_)
        refine wpd_tp 15 rfl (by kernel_rfl) trivial (t_callP1 Tryd.hb73 rfl fun w h => by
          have q := joinB b60 [(b40, ((headB (hs.getD i Hop.z)) ++ (restF ⟨pf, pa, pb, pl, hv, hs⟩ i))), (b51, numK 4 (of64 (hs.getD i Hop.z).ix).toNat), (b55, (hs.getD i Hop.z).chs.flatten), (b59, (hs.getD i Hop.z).ps.flatten)] w ⟨h.seenV, fun q hq => by
          simp only [List.mem_cons, List.not_mem_nil, or_false] at hq
          rcases hq with rfl | rfl | rfl | rfl
          · exact h.seen_row (by repeat (first | exact List.mem_cons_self .. | apply List.mem_cons_of_mem))
          · have q : Seen w.cell? b51 4 1 (v8s (numK 4 (of64 (hs.getD i Hop.z).ix).toNat)) := h.seen_row (by repeat (first | exact List.mem_cons_self .. | apply List.mem_cons_of_mem))
            exact Seen.re8 q
          · have q : Seen w.cell? b55 ((hs.getD i Hop.z).chs.length * 16) 1 (v8s (hs.getD i Hop.z).chs.flatten) := h.seen_row (by repeat (first | exact List.mem_cons_self .. | apply List.mem_cons_of_mem))
            exact Seen.re8 q
          · have q : Seen w.cell? b59 ((hs.getD i Hop.z).ps.length * 16) 1 (v8s (hs.getD i Hop.z).ps.flatten) := h.seen_row (by repeat (first | exact List.mem_cons_self .. | apply List.mem_cons_of_mem))
            exact Seen.re8 q⟩ (by rw [flatK_4]; show (((headB (hs.getD i Hop.z)) ++ (restF ⟨pf, pa, pb, pl, hv, hs⟩ i)) ++ (tailH (hs.getD i Hop.z))).length ≤ 100000; rw [List.length_append, tailH_len hsi.2.1 hsi.2.2.2, List.length_append, headB_len]; omega)
          rw [flatK_4] at q
          exact q) rfl (fun _ => (fun w h => .inr (h.sub SubC.h SubC.h))) (fun b61 p61 => ?_)
        refine wpd_t 16 rfl (by kernel_rfl) trivial (t_pur Tryd.hb76 rfl fun w h => sumW b61 (((headB (hs.getD i Hop.z)) ++ (restF ⟨pf, pa, pb, pl, hv, hs⟩ i)) ++ (tailH (hs.getD i Hop.z))) w h.seenV (hsee2 h).2) rfl (fun _ => (fun w h => .inr (h.sub SubC.h SubC.h))) (fun b62 => ?_)
        refine wpd_t0 18 rfl (by kernel_rfl) trivial (t_stA Tryd.ti113 rfl rfl (by rw [v8s_length]; exact sumF_length _) (v8s_one _) (by rw [v8s_length, List.length_replicate])) (fun _ => skk rfl) (fun _ => ?_)
        refine wpd_done (by kernel_rfl) ?_
        refine ex_then ?_
        refine wpc_region ?_
        refine wpl_q (q_arAll Tryd.underlying113 Tryd.ti5 rfl rfl) rfl ?_
        refine wpl_q (q_pure rfl) rfl ?_
        refine wpl_nil ?_
        refine ex_block ?_
        refine ex_then ?_
        refine wpc_region ?_
        refine wpl_q (q_addN (b := 1) rfl rfl (by first | omega | (simp only [maxLen]; omega) | (simp only [List.length_append, List.length_cons, List.length_nil, List.length_take, maxLen]; omega) | (simp only [List.length_append, List.length_cons, List.length_nil, List.length_take]; omega))) rfl ?_
        refine wpl_q (q_pure rfl) rfl ?_
        refine wpl_nil ?_
        refine ex_again ⟨(i + 1, arv b8 32, u44, nums (.row b40 ((headB (hs.getD i Hop.z)) ++ (restF ⟨pf, pa, pb, pl, hv, hs⟩ i)).length 5 1 (v8s ((headB (hs.getD i Hop.z)) ++ (restF ⟨pf, pa, pb, pl, hv, hs⟩ i))) :: .row b39 2 32 1 [b37, rv] :: .row b37 27 5 1 (v8s (headB (hs.getD i Hop.z))) :: .blk b6 68 (hs.getD i Hop.z).c :: [rE]), .blk b8 113 (v8s (sumF (((headB (hs.getD i Hop.z)) ++ (restF ⟨pf, pa, pb, pl, hv, hs⟩ i)) ++ (tailH (hs.getD i Hop.z)))))), ⟨by show i + 1 ≤ hs.length; omega, by show SV (arv b8 32) (restF ⟨pf, pa, pb, pl, hv, hs⟩ (i + 1)).length; rw [restF, sumF_length]; exact arv_sv (by decide), by show J _ ((msgs ⟨pf, pa, pb, pl, hv, hs⟩).take (i + 1)) u44; rw [← msgs_take (p := ⟨pf, pa, pb, pl, hv, hs⟩) hil]; exact hu44, fun w h => by show Seen w.cell? _ (restF ⟨pf, pa, pb, pl, hv, hs⟩ (i + 1)).length 1 (v8s (restF ⟨pf, pa, pb, pl, hv, hs⟩ (i + 1))); rw [restF]; exact restBlk (sumF_length _) w h⟩⟩ ?_ ?_ ?_
        ·
         exact (by repeat (first | exact trivial | refine ⟨rfl, ?_⟩))
        ·
         exact fun w h => h.sel
        ·
         (show hs.length - (i + 1) < hs.length - i); omega
      ·
       refine wpa_t 17 rfl trivial (t_alloc Tryd.ti113 (v8s (List.replicate 32 0)) rfl) rfl (fun _ => (fun w h => .inr (h.sub SubC.h SubC.h))) (fun b8 => ?_)
       refine wpd_tp 5 rfl (by kernel_rfl) trivial (t_callP1 Tryd.hb74 rfl fun w h => wordB (of64 (hs.getD i Hop.z).ix) 4 w (by decide)) rfl (fun _ => (fun w h => .inr (h.sub SubC.h SubC.h))) (fun b51 p51 => ?_)
       refine wpd_tp 9 rfl (by kernel_rfl) trivial (t_callP1 Tryd.hb77 rfl fun w h => shorts (hs.getD i Hop.z).cv (hs.getD i Hop.z).chs w ((hsee2 h).1.2 _ (getD_memO hil)).1 hsi.2.1 (by omega)) rfl (fun _ => (fun w h => .inr (h.sub SubC.h SubC.h))) (fun b55 p55 => ?_)
       refine wpd_tp 13 rfl (by kernel_rfl) trivial (t_callP1 Tryd.hb77 rfl fun w h => shorts (hs.getD i Hop.z).pv (hs.getD i Hop.z).ps w ((hsee2 h).1.2 _ (getD_memO hil)).2.2.1 hsi.2.2.2 (by omega)) rfl (fun _ => (fun w h => .inr (h.sub SubC.h SubC.h))) (fun b59 p59 => ?_)
       refine wpd_tp 14 rfl (by kernel_rfl) trivial (t_bsV [b40, b51, b55, b59] Tryd.underlying160 Tryd.ti32 rfl rfl (by decide) (by decide) rfl (by intro u hu; simp only [List.mem_cons, List.not_mem_nil, or_false] at hu; rcases hu with rfl | rfl | rfl | rfl <;> exact SV.one (by assumption))) rfl (fun _ => (fun w h => .inr (h.sub SubC.h SubC.h))) (fun b60 p60 => ?_)
       refine wpd_tp 15 rfl (by kernel_rfl) trivial (t_callP1 Tryd.hb73 rfl fun w h => by
         have q := joinB b60 [(b40, ((headB (hs.getD i Hop.z)) ++ (restF ⟨pf, pa, pb, pl, hv, hs⟩ i))), (b51, numK 4 (of64 (hs.getD i Hop.z).ix).toNat), (b55, (hs.getD i Hop.z).chs.flatten), (b59, (hs.getD i Hop.z).ps.flatten)] w ⟨h.seenV, fun q hq => by
         simp only [List.mem_cons, List.not_mem_nil, or_false] at hq
         rcases hq with rfl | rfl | rfl | rfl
         · exact h.seen_row (by repeat (first | exact List.mem_cons_self .. | apply List.mem_cons_of_mem))
         · have q : Seen w.cell? b51 4 1 (v8s (numK 4 (of64 (hs.getD i Hop.z).ix).toNat)) := h.seen_row (by repeat (first | exact List.mem_cons_self .. | apply List.mem_cons_of_mem))
           exact Seen.re8 q
         · have q : Seen w.cell? b55 ((hs.getD i Hop.z).chs.length * 16) 1 (v8s (hs.getD i Hop.z).chs.flatten) := h.seen_row (by repeat (first | exact List.mem_cons_self .. | apply List.mem_cons_of_mem))
           exact Seen.re8 q
         · have q : Seen w.cell? b59 ((hs.getD i Hop.z).ps.length * 16) 1 (v8s (hs.getD i Hop.z).ps.flatten) := h.seen_row (by repeat (first | exact List.mem_cons_self .. | apply List.mem_cons_of_mem))
           exact Seen.re8 q⟩ (by rw [flatK_4]; show (((headB (hs.getD i Hop.z)) ++ (restF ⟨pf, pa, pb, pl, hv, hs⟩ i)) ++ (tailH (hs.getD i Hop.z))).length ≤ 100000; rw [List.length_append, tailH_len hsi.2.1 hsi.2.2.2, List.length_append, headB_len]; omega)
         rw [flatK_4] at q
         exact q) rfl (fun _ => (fun w h => .inr (h.sub SubC.h SubC.h))) (fun b61 p61 => ?_)
       refine wpd_t 16 rfl (by kernel_rfl) trivial (t_pur Tryd.hb76 rfl fun w h => sumW b61 (((headB (hs.getD i Hop.z)) ++ (restF ⟨pf, pa, pb, pl, hv, hs⟩ i)) ++ (tailH (hs.getD i Hop.z))) w h.seenV (hsee2 h).2) rfl (fun _ => (fun w h => .inr (h.sub SubC.h SubC.h))) (fun b62 => ?_)
       refine wpd_t0 18 rfl (by kernel_rfl) trivial (t_stA Tryd.ti113 rfl rfl (by rw [v8s_length]; exact sumF_length _) (v8s_one _) (by rw [v8s_length, List.length_replicate])) (fun _ => skk rfl) (fun _ => ?_)
       refine wpd_done (by kernel_rfl) ?_
       refine ex_then ?_
       refine wpc_region ?_
       refine wpl_q (q_arAll Tryd.underlying113 Tryd.ti5 rfl rfl) rfl ?_
       refine wpl_q (q_pure rfl) rfl ?_
       refine wpl_nil ?_
       refine ex_block ?_
       refine ex_then ?_
       refine wpc_region ?_
       refine wpl_q (q_addN (b := 1) rfl rfl (by first | omega | (simp only [maxLen]; omega) | (simp only [List.length_append, List.length_cons, List.length_nil, List.length_take, maxLen]; omega) | (simp only [List.length_append, List.length_cons, List.length_nil, List.length_take]; omega))) rfl ?_
       refine wpl_q (q_pure rfl) rfl ?_
       refine wpl_nil ?_
       refine ex_again ⟨(i + 1, arv b8 32, u44, nums (.row b40 ((headB (hs.getD i Hop.z)) ++ (restF ⟨pf, pa, pb, pl, hv, hs⟩ i)).length 5 1 (v8s ((headB (hs.getD i Hop.z)) ++ (restF ⟨pf, pa, pb, pl, hv, hs⟩ i))) :: .row b39 2 32 1 [b37, rv] :: .row b37 27 5 1 (v8s (headB (hs.getD i Hop.z))) :: .blk b6 68 (hs.getD i Hop.z).c :: [rE]), .blk b8 113 (v8s (sumF (((headB (hs.getD i Hop.z)) ++ (restF ⟨pf, pa, pb, pl, hv, hs⟩ i)) ++ (tailH (hs.getD i Hop.z)))))), ⟨by show i + 1 ≤ hs.length; omega, by show SV (arv b8 32) (restF ⟨pf, pa, pb, pl, hv, hs⟩ (i + 1)).length; rw [restF, sumF_length]; exact arv_sv (by decide), by show J _ ((msgs ⟨pf, pa, pb, pl, hv, hs⟩).take (i + 1)) u44; rw [← msgs_take (p := ⟨pf, pa, pb, pl, hv, hs⟩) hil]; exact hu44, fun w h => by show Seen w.cell? _ (restF ⟨pf, pa, pb, pl, hv, hs⟩ (i + 1)).length 1 (v8s (restF ⟨pf, pa, pb, pl, hv, hs⟩ (i + 1))); rw [restF]; exact restBlk (sumF_length _) w h⟩⟩ ?_ ?_ ?_
       ·
        exact (by repeat (first | exact trivial | refine ⟨rfl, ?_⟩))
       ·
        exact fun w h => h.sel
       ·
        (show hs.length - (i + 1) < hs.length - i); omega
     ·
      intro u44 hu44
      refine wil_q (q_pure rfl) rfl ?_
      refine wil_nil ?_
      refine ex_then ?_
      refine wpc_cond_t rfl ?_
      refine wpc_ret ?_
      refine ex_then_ret ?_
      refine ex_block_ret ?_
      refine ex_then_ret ?_
      refine ex_then_ret ?_
      refine ex_block_ret ?_
      refine ret0 (.inl rfl) rfl ?_
      exact fun w h => iter_stop hsk hu44 h
    ·
     simp only [decide_eq_false_iff_not] at hc32
     obtain rfl : i = hs.length := by omega
     rw [msgs_all ⟨pf, pa, pb, pl, hv, hs⟩] at hi2
     refine wpc_exit ?_
     refine ex_then_exit ?_
     refine ex_then_exit ?_
     refine ex_block_hit ?_
     refine ret0 (.inr rfl) rfl ?_
     exact fun w h => iter_done hst hi2 h

end Go.Proofs.YtjpfhkjmjnjggaaDoor

namespace Go.Proofs.YtjpfhkjmjnjggaaDoor
set_option linter.unusedSimpArgs false
set_option linter.unusedVariables false
open Go Go.PL Go.RowKit

theorem msgs_mem {p : Pth} {x : Nat × List UInt8} (h : x ∈ msgs p) : x.2 = msgB p x.1 ∧ x.1 < p.hs.length := by
  simp only [msgs, List.mem_map, List.mem_range] at h
  obtain ⟨i, hi, rfl⟩ := h
  exact ⟨rfl, hi⟩
theorem msgs_at {p : Pth} {j : Nat} (h : j < p.hs.length) : (j, msgB p j) ∈ msgs p := List.mem_map.2 ⟨j, List.mem_range.2 h, rfl⟩
theorem pre_mem {α : Type} {pre xs : List α} {x : α} (h : (pre ++ [x]) <+: xs) : x ∈ xs := h.subset (by simp)
abbrev SmP (p : Pth) : Prop := ∀ h ∈ p.hs, h.chs.length ≤ 100 ∧ h.ps.length ≤ 100
theorem msgs_it (p : Pth) (pp : Nat) (w : World) (hpp : w.heap[pp]? = some (.cells p.c.toArray 29 (0, 0))) (hlim : SmP p) : IterStop Tryd.prog 72 #[.pointer (some ⟨pp, 0, none⟩)] encM AtM (InvM p) (msgs p) [pp] w :=
  fun l J K hst hinv hsk hy hJ0 => messages1 l pp p J K w hst hinv hsk hy hJ0 hpp hlim

set_option maxRecDepth 100000 in
theorem message_ (p : Pth) (j : Nat) (w : World) (hp : p.seen w.cell?) (hj : j < p.hs.length) (hlim : SmP p) (hG : Glb w) :
    Calls Tryd.prog 38 [.agg p.c.toArray, .int .i64 ((j : Nat) : Int)].toArray w (GivesP w (fun v => SV v (msgB p j).length) (fun v => v) (fun v => [.row v (msgB p j).length 5 1 (v8s (msgB p j))]) (fun _ => [])) := by
  obtain ⟨pf, pa, pb, pl, hv, hs⟩ := p
  have hh : Seen w.cell? hv hs.length 24 (hcs hs) := hp.1
  have svh := hh.sv
  have lh := svh.le
  simp only [maxLen] at lh
  refine enterN (m := 15) (R := Mem w [] [] []) Tryd.func38 rfl rfl (Nat.le_of_ble_eq_true rfl) (Mem.start w) ?_
  refine wpc_seq ?_
  refine wpc_region ?_
  refine wpl_t (t_box rfl [.int .u8 (pf.toNat : Int), .int .u64 (pa.toNat : Int), .int .u64 (pb.toNat : Int), .int .i64 pl, hv] rfl) rfl (fun b2 => ?_)
  refine wpl_t (t_box rfl [.int .i64 ((j : Nat) : Int)] rfl) rfl (fun b3 => ?_)
  refine wpl_t (t_alloc Tryd.ti32 [.slice none 0 0] rfl) rfl (fun b4 => ?_)
  refine wpl_nil ?_
  refine ex_then ?_
  refine wpc_seq ?_
  refine wpc_seq ?_
  refine wpc_region ?_
  refine wpl_q (q_ldN Tryd.underlying29 rfl Tryd.ti29 rfl LenC.h) rfl ?_
  refine wpl_t (t_call (N := fun pq => [.blk pq 29 [.int .u8 (pf.toNat : Int), .int .u64 (pa.toNat : Int), .int .u64 (pb.toNat : Int), .int .i64 pl, hv]]) (T := fun _ => []) Tryd.hb49 rfl fun w h => messages ⟨pf, pa, pb, pl, hv, hs⟩ w svh) rfl (fun b8 => ?_)
  refine wpl_nil ?_
  refine ex_then ?_
  refine wpc_block ?_
  refine wpc_mono (R' := Mem w [] ([.blk b8 29 [.int .u8 (pf.toNat : Int), .int .u64 (pa.toNat : Int), .int .u64 (pb.toNat : Int), .int .i64 pl, hv]] ++ [.blk b4 32 [.slice none 0 0], .blk b3 3 [.int .i64 ((j : Nat) : Int)], .blk b2 29 [.int .u8 (pf.toNat : Int), .int .u64 (pa.toNat : Int), .int .u64 (pb.toNat : Int), .int .i64 pl, hv]]) []) (fun w h => h) ?_
  refine wpc_rangeG (encs := encM) (At := AtM) (Inv := (InvM ⟨pf, pa, pb, pl, hv, hs⟩)) (xs := (msgs ⟨pf, pa, pb, pl, hv, hs⟩)) (ρ := Value) (β := Unit) [.blk b8 29 [.int .u8 (pf.toNat : Int), .int .u64 (pa.toNat : Int), .int .u64 (pb.toNat : Int), .int .i64 pl, hv]] (fun _ : Unit => [.blk b4 32 [.slice none 0 0], .blk b3 3 [.int .i64 ((j : Nat) : Int)], .blk b2 29 [.int .u8 (pf.toNat : Int), .int .u64 (pa.toNat : Int), .int .u64 (pb.toNat : Int), .int .i64 pl, hv]]) (fun pre _ => ∀ x ∈ pre, x.1 ≠ j) () (fun r => SV r (msgB ⟨pf, pa, pb, pl, hv, hs⟩ j).length) (fun _ => .ret) (fun r => [.blk b4 32 [r], .blk b3 3 [.int .i64 ((j : Nat) : Int)], .blk b2 29 [.int .u8 (pf.toNat : Int), .int .u64 (pa.toNat : Int), .int .u64 (pb.toNat : Int), .int .i64 pl, hv]]) (fun r => [.row r (msgB ⟨pf, pa, pb, pl, hv, hs⟩ j).length 5 1 (v8s (msgB ⟨pf, pa, pb, pl, hv, hs⟩ j))]) (fun x i _ => []) (fun x i b => [(2, .pointer (some ⟨b2, 0, none⟩)), (3, .pointer (some ⟨b3, 0, none⟩)), (4, .pointer (some ⟨b4, 0, none⟩)), (5, .int .i64 ((x.1 : Nat) : Int)), (6, i)]) rfl Tryd.hb72 (fun x hx => by cases hx) (fun w h k hk => by rw [show k = b8 by simpa [nums, Ent.num] using hk]; exact (h.new (.blk b8 29 [.int .u8 (pf.toNat : Int), .int .u64 (pa.toNat : Int), .int .u64 (pb.toNat : Int), .int .i64 pl, hv]) (by simp) b8 rfl).resolve_right (by simp)) (fun w h => msgs_it ⟨pf, pa, pb, pl, hv, hs⟩ b8 w (h.own (.blk b8 29 [.int .u8 (pf.toNat : Int), .int .u64 (pa.toNat : Int), .int .u64 (pb.toNat : Int), .int .i64 pl, hv]) (by simp)) hlim) (fun _ _ _ _ h => ⟨hp.old h, glob h hG⟩) (fun _ _ _ _ _ h hk => RowAt.keep h hk) (fun _ _ => rfl) (by decide) ?_ ?_ ?_ ?_
  ·
   intro l x i w1 K hK
   refine wic_seq ?_
   refine wic_region ?_
   refine wil_q (q_pure rfl) rfl ?_
   refine wil_nil ?_
   refine eix_then ?_
   refine wic_region ?_
   refine wil_q (q_pure rfl) rfl ?_
   refine wil_nil ?_
   exact fun a w hs h => hK () a w (hs.weaken (subs_get (by repeat (first | exact trivial | refine ⟨rfl, ?_⟩)))) h
  ·
   intro l pre x i s b w1 T hgs hpre hm hat hT
   obtain ⟨hx2, hx1⟩ := msgs_mem (pre_mem hpre)
   have hat : RowAt T (.row i x.2.length 5 1 (v8s x.2)) w1 := hat
   show WPCI _ _ _ _ (Mem w1 (nums [.blk b4 32 [.slice none 0 0], .blk b3 3 [.int .i64 ((j : Nat) : Int)], .blk b2 29 [.int .u8 (pf.toNat : Int), .int .u64 (pa.toNat : Int), .int .u64 (pb.toNat : Int), .int .i64 pl, hv]]) [.blk b4 32 [.slice none 0 0], .blk b3 3 [.int .i64 ((j : Nat) : Int)], .blk b2 29 [.int .u8 (pf.toNat : Int), .int .u64 (pa.toNat : Int), .int .u64 (pb.toNat : Int), .int .i64 pl, hv]] []) _ _
   refine wic_block ?_
   refine wic_seq ?_
   refine wic_region ?_
   refine wil_q (q_pure rfl) rfl ?_
   refine wil_q (q_ld Tryd.underlying3 rfl rfl (by first | exact vns_get (by first | decide | omega | exact Nat.zero_lt_one | (simp; omega) | (simp; done) | (simp only [v8s_length, v32s_length, vis_length, vns_length, v64s_length]; omega)) | rfl)) rfl ?_
   refine wil_q (q_pure rfl) rfl ?_
   refine wil_nil ?_
   refine eix_then ?_
   refine wic_cond rfl (fun hc13 => ?_) (fun hc13 => ?_)
   ·
    have hxq : ((x.1 : Nat) : Int) = ((j : Nat) : Int) := by simpa using hc13
    have hxj : x.1 = j := by omega
    have hsi : SV i (msgB ⟨pf, pa, pb, pl, hv, hs⟩ j).length := by rw [← hxj, ← hx2]; exact (Mem.startR w1 hat.1).seenV.sv
    refine wic_seq ?_
    refine wic_region ?_
    refine wil_q (q_pure rfl) rfl ?_
    refine wil_t0 (t_st1 Tryd.ti32 rfl rfl (SV.one (by first | assumption | exact SV.nil | exact SV.slv (by assumption) (by omega) (by omega) | exact arv_sv (by first | decide | (simp only [maxLen]; omega)))) (by first | decide | omega | exact Nat.zero_lt_one | (simp; omega) | (simp; done) | (simp only [v8s_length, v32s_length, vis_length, vns_length, v64s_length]; omega)) _ rfl) (fun _ => ?_)
    refine wil_nil ?_
    refine eix_then ?_
    refine wic_ret ?_
    refine ex_block_ret ?_
    refine ex_roundR ?_
    exact fun w h => ⟨i, hsi, rfl, h.sub (by repeat (first | exact Sub.nil | exact Sub.refl _ | with_reducible refine Sub.keep ?_ | refine Sub.drop ?_)) .nil, by rw [← hxj, ← hx2]; exact hat.gain⟩
   ·
    have hxq : ¬ ((x.1 : Nat) : Int) = ((j : Nat) : Int) := by simpa using hc13
    have hne : ¬ x.1 = j := by omega
    refine wic_skip ?_
    refine ex_block ?_
    refine ex_roundN ?_
    exact fun w h => ⟨(), fun y hy => by rcases List.mem_append.1 hy with hy | hy; exact hgs y hy; rw [List.mem_singleton] at hy; subst hy; exact hne, h.sub (by repeat (first | exact Sub.nil | exact Sub.refl _ | with_reducible refine Sub.keep ?_ | refine Sub.drop ?_)) .nil⟩
  ·
   intro D s hgs
   exact absurd rfl (hgs _ (msgs_at (p := ⟨pf, pa, pb, pl, hv, hs⟩) hj))
  ·
   intro D r hr
   have hr : SV r (msgB ⟨pf, pa, pb, pl, hv, hs⟩ j).length := hr
   refine wpc_weaken (R1 := Mem w [] [.obj D (.deferred (some [])), .blk b4 32 [r], .blk b3 3 [.int .i64 ((j : Nat) : Int)], .blk b2 29 [.int .u8 (pf.toNat : Int), .int .u64 (pa.toNat : Int), .int .u64 (pb.toNat : Int), .int .i64 pl, hv], .row r (msgB ⟨pf, pa, pb, pl, hv, hs⟩ j).length 5 1 (v8s (msgB ⟨pf, pa, pb, pl, hv, hs⟩ j))] []) (L1 := [(2, .pointer (some ⟨b2, 0, none⟩)), (3, .pointer (some ⟨b3, 0, none⟩)), (4, .pointer (some ⟨b4, 0, none⟩))]) (by repeat (first | exact trivial | refine ⟨rfl, ?_⟩)) (fun w h => h) ?_
   refine wpc_ret ?_
   refine ex_block_ret ?_
   refine ex_then_ret ?_
   refine ex_markN (.inl rfl) .here ?_
   refine retv1 (.inl rfl) rfl (rv_one Tryd.underlying32 rfl rfl (fun w h => h.cell_blk (by repeat (first | exact List.mem_cons_self .. | apply List.mem_cons_of_mem)) rfl)) ?_
   exact fun w h => ⟨r, hr, rfl, h.below, h.made (by repeat (first | exact Sub.nil | exact Sub.refl _ | with_reducible refine Sub.keep ?_ | refine Sub.drop ?_)) .nil⟩

end Go.Proofs.YtjpfhkjmjnjggaaDoor

namespace Go.Proofs.YtjpfhkjmjnjggaaDoor
set_option linter.unusedSimpArgs false
set_option linter.unusedVariables false
open Go Go.PL Go.RowKit

/-- The error of a path and an index. -/
def msgE (p : Pth) (i : Int) : Int := if chkP p ≠ 0 then chkP p else if i < 0 ∨ (p.hs.length : Int) ≤ i then 2 else 0
def msgV (p : Pth) (i : Int) : List UInt8 := if msgE p i = 0 then msgB p i.toNat else []
theorem msgE_chk {p : Pth} {i : Int} (h : chkP p ≠ 0) : msgE p i = chkP p := if_pos h
theorem msgE_arg {p : Pth} {i : Int} (h : chkP p = 0) (h2 : i < 0 ∨ (p.hs.length : Int) ≤ i) : msgE p i = 2 := (if_neg (by simp [h])).trans (if_pos h2)
theorem msgE_ok {p : Pth} {i : Int} (h : chkP p = 0) (h1 : ¬ i < 0) (h2 : ¬ (p.hs.length : Int) ≤ i) : msgE p i = 0 := (if_neg (by simp [h])).trans (if_neg (by omega))
theorem msgV_no {p : Pth} {i : Int} (h : msgE p i ≠ 0) : msgV p i = [] := if_neg h
theorem msgV_ok {p : Pth} {j : Nat} (h : msgE p (j : Int) = 0) : msgV p (j : Int) = msgB p j := if_pos h
theorem msgE_inv {p : Pth} {i : Int} (h : msgE p i = 0) : ∃ j : Nat, i = (j : Int) ∧ j < p.hs.length := by
  unfold msgE at h
  split at h
  · rename_i hk; exact absurd h hk
  · split at h
    · cases h
    · rename_i h2
      rw [not_or] at h2
      exact ⟨i.toNat, by omega, by omega⟩
theorem nilRow0 {w0 w : World} {Ln : List Nat} {M : List Ent} {S : List Fact} {p : Pth} {i : Int} (h : Mem w0 Ln M S w) (hn : msgE p i ≠ 0) : Mem w0 Ln (.row (.slice none 0 0) (msgV p i).length 5 1 (v8s (msgV p i)) :: M) S w := by
  rw [msgV_no hn]; exact h.nilRow 5 1

set_option maxRecDepth 100000 in
theorem hopMessage (p : Pth) (i : Int) (w : World) (hp : p.seen w.cell?) (hlim : SmP p) (hG : Glb w) :
    Calls Tryd.prog 13 [.agg p.c.toArray, .int .i64 i].toArray w (GivesP w (fun v => SV v (msgV p i).length) (fun v => .tuple #[v, .int .i64 (msgE p i)]) (fun v => [.row v (msgV p i).length 5 1 (v8s (msgV p i))]) (fun _ => [])) := by
  obtain ⟨pf, pa, pb, pl, hv, hs⟩ := p
  have hh : Seen w.cell? hv hs.length 24 (hcs hs) := hp.1
  have svh := hh.sv
  have lh := svh.le
  simp only [maxLen] at lh
  refine enter (m := 28) (R := Mem w [] [] []) Tryd.func13 rfl rfl (Nat.le_of_ble_eq_true rfl) (Mem.start w) ?_
  refine wpc_seq ?_
  refine wpc_region ?_
  refine wpl_t (t_box rfl [.int .u8 (pf.toNat : Int), .int .u64 (pa.toNat : Int), .int .u64 (pb.toNat : Int), .int .i64 pl, hv] rfl) rfl (fun b2 => ?_)
  refine wpl_q (q_pure rfl) rfl ?_
  refine wpl_q (q_pure rfl) rfl ?_
  refine wpl_nil ?_
  refine ex_then ?_
  refine wpc_seq ?_
  refine wpc_region ?_
  refine wpl_q (q_ldN Tryd.underlying29 rfl Tryd.ti29 rfl LenC.h) rfl ?_
  refine wpl_t (t_pur Tryd.hb17 rfl fun w h => hopCheck ⟨pf, pa, pb, pl, hv, hs⟩ w (hp.old h)) rfl (fun b8 => ?_)
  refine wpl_q (q_pure rfl) rfl ?_
  refine wpl_nil ?_
  refine ex_then ?_
  refine wpc_cutc ({ x : Int // (x = msgE ⟨pf, pa, pb, pl, hv, hs⟩ i) }) [(1, .int .i64 i), (2, .pointer (some ⟨b2, 0, none⟩))] (fun x Lc => (6, .int .i64 x.1) :: Lc) (fun x => Mem w [] [.blk b2 29 [.int .u8 (pf.toNat : Int), .int .u64 (pa.toNat : Int), .int .u64 (pb.toNat : Int), .int .i64 pl, hv]] []) ?_ ?_
  ·
   refine wpc_seq ?_
   refine wpc_region ?_
   refine wpl_q (q_pure rfl) rfl ?_
   refine wpl_q (q_pure rfl) rfl ?_
   refine wpl_q (q_pure rfl) rfl ?_
   refine wpl_bool2 11 10 rfl rfl (fun hb11 => ?_) (fun hb11 => ?_)
   ·
    have hk0 : chkP ⟨pf, pa, pb, pl, hv, hs⟩ = 0 := by simpa using hb11
    refine wpl_on rfl rfl ?_
    refine wpl_q (q_pure rfl) rfl ?_
    refine wpl_on rfl rfl ?_
    refine wpl_q (q_pure rfl) rfl ?_
    refine wpl_on rfl rfl ?_
    refine wpl_q (q_pure rfl) rfl ?_
    refine wpl_bool2 14 13 rfl rfl (fun hb14 => ?_) (fun hb14 => ?_)
    ·
     have hX : 2 = msgE ⟨pf, pa, pb, pl, hv, hs⟩ i := (msgE_arg hk0 (.inl (by simpa using hb14))).symm
     refine wpl_off rfl rfl rfl rfl ?_
     refine wpl_off rfl rfl rfl rfl ?_
     refine wpl_off rfl rfl rfl rfl ?_
     refine wpl_off rfl rfl rfl rfl ?_
     refine wpl_off rfl rfl rfl rfl ?_
     refine wpl_on rfl rfl ?_
     refine wpl_q (q_pure rfl) rfl ?_
     refine wpl_q (q_pure rfl) rfl ?_
     refine wpl_nil ?_
     refine ex_then ?_
     refine wpc_cond_t rfl ?_
     refine wpc_region ?_
     refine wpl_q (q_pure rfl) rfl ?_
     refine wpl_nil ?_
     refine ex_mid ⟨2, hX⟩ ?_ ?_
     ·
      exact (by repeat (first | exact trivial | refine ⟨rfl, ?_⟩))
     ·
      exact fun w h => by first | exact h | exact h.sub SubC.h SubC.h | exact h.sub (by repeat (first | exact Sub.nil | exact Sub.refl _ | with_reducible refine Sub.keep ?_ | refine Sub.drop ?_)) (by repeat (first | exact Sub.nil | exact Sub.refl _ | with_reducible refine Sub.keep ?_ | refine Sub.drop ?_))
    ·
     have hn1 : ¬ i < 0 := by simpa using hb14
     refine wpl_on rfl rfl ?_
     refine wpl_q (q_pure rfl) rfl ?_
     refine wpl_on rfl rfl ?_
     refine wpl_q (q_field Tryd.underlying29 rfl Tryd.ti27 rfl rfl _ rfl) rfl ?_
     refine wpl_on rfl rfl ?_
     refine wpl_q (q_ld Tryd.underlying27 rfl rfl rfl) rfl ?_
     refine wpl_on rfl rfl ?_
     refine wpl_q (q_lenW Tryd.underlying27 rfl (by first | assumption | exact SV.nil | exact SV.slv (by assumption) (by omega) (by omega) | exact arv_sv (by first | decide | (simp only [maxLen]; omega)))) rfl ?_
     refine wpl_on rfl rfl ?_
     refine wpl_q (q_pure rfl) rfl ?_
     refine wpl_on rfl rfl ?_
     refine wpl_q (q_pure rfl) rfl ?_
     refine wpl_q (q_pure rfl) rfl ?_
     refine wpl_nil ?_
     refine ex_then ?_
     refine wpc_cond rfl (fun hc21 => ?_) (fun hc21 => ?_)
     ·
      have hX : 2 = msgE ⟨pf, pa, pb, pl, hv, hs⟩ i := (msgE_arg hk0 (.inr (by simpa using hc21))).symm
      refine wpc_region ?_
      refine wpl_q (q_pure rfl) rfl ?_
      refine wpl_nil ?_
      refine ex_mid ⟨2, hX⟩ ?_ ?_
      ·
       exact (by repeat (first | exact trivial | refine ⟨rfl, ?_⟩))
      ·
       exact fun w h => by first | exact h | exact h.sub SubC.h SubC.h | exact h.sub (by repeat (first | exact Sub.nil | exact Sub.refl _ | with_reducible refine Sub.keep ?_ | refine Sub.drop ?_)) (by repeat (first | exact Sub.nil | exact Sub.refl _ | with_reducible refine Sub.keep ?_ | refine Sub.drop ?_))
     ·
      have hn2 : ¬ (hs.length : Int) ≤ i := by simpa using hc21
      have hX : chkP ⟨pf, pa, pb, pl, hv, hs⟩ = msgE ⟨pf, pa, pb, pl, hv, hs⟩ i := hk0.trans (msgE_ok (p := ⟨pf, pa, pb, pl, hv, hs⟩) hk0 hn1 hn2).symm
      refine wpc_skip ?_
      refine ex_mid ⟨chkP ⟨pf, pa, pb, pl, hv, hs⟩, hX⟩ ?_ ?_
      ·
       exact (by repeat (first | exact trivial | refine ⟨rfl, ?_⟩))
      ·
       exact fun w h => by first | exact h | exact h.sub SubC.h SubC.h | exact h.sub (by repeat (first | exact Sub.nil | exact Sub.refl _ | with_reducible refine Sub.keep ?_ | refine Sub.drop ?_)) (by repeat (first | exact Sub.nil | exact Sub.refl _ | with_reducible refine Sub.keep ?_ | refine Sub.drop ?_))
   ·
    have hk : chkP ⟨pf, pa, pb, pl, hv, hs⟩ ≠ 0 := by simpa using hb11
    have hX : chkP ⟨pf, pa, pb, pl, hv, hs⟩ = msgE ⟨pf, pa, pb, pl, hv, hs⟩ i := (msgE_chk hk).symm
    refine wpl_off rfl rfl rfl rfl ?_
    refine wpl_off rfl rfl rfl rfl ?_
    refine wpl_off rfl rfl rfl rfl ?_
    refine wpl_off rfl rfl rfl rfl ?_
    refine wpl_off rfl rfl rfl rfl ?_
    refine wpl_off rfl rfl rfl rfl ?_
    refine wpl_off rfl rfl rfl rfl ?_
    refine wpl_off rfl rfl rfl rfl ?_
    refine wpl_off rfl rfl rfl rfl ?_
    refine wpl_q (q_pure rfl) rfl ?_
    refine wpl_nil ?_
    refine ex_then ?_
    refine wpc_cond_f rfl ?_
    refine wpc_skip ?_
    refine ex_mid ⟨chkP ⟨pf, pa, pb, pl, hv, hs⟩, hX⟩ ?_ ?_
    ·
     exact (by repeat (first | exact trivial | refine ⟨rfl, ?_⟩))
    ·
     exact fun w h => by first | exact h | exact h.sub SubC.h SubC.h | exact h.sub (by repeat (first | exact Sub.nil | exact Sub.refl _ | with_reducible refine Sub.keep ?_ | refine Sub.drop ?_)) (by repeat (first | exact Sub.nil | exact Sub.refl _ | with_reducible refine Sub.keep ?_ | refine Sub.drop ?_))
  ·
   rintro ⟨e, hi0⟩; try dsimp only
   have hi0 : e = msgE ⟨pf, pa, pb, pl, hv, hs⟩ i := hi0
   refine wpc_seq ?_
   refine wpc_seq ?_
   refine wpc_region ?_
   refine wpl_q (q_pure rfl) rfl ?_
   refine wpl_q (q_pure rfl) rfl ?_
   refine wpl_nil ?_
   refine ex_then ?_
   refine wpc_cond rfl (fun hc23 => ?_) (fun hc23 => ?_)
   ·
    have hE0 : msgE ⟨pf, pa, pb, pl, hv, hs⟩ i ≠ 0 := by rw [← hi0]; simpa using hc23
    refine wpc_seq ?_
    refine wpc_region ?_
    refine wpl_q (q_pure rfl) rfl ?_
    refine wpl_q (q_pure rfl) rfl ?_
    refine wpl_q (q_pure rfl) rfl ?_
    refine wpl_nil ?_
    refine ex_then ?_
    refine wpc_ret ?_
    refine ex_then_ret ?_
    refine ret2 (.inl rfl) rfl rfl rfl ?_
    exact fun w h => ⟨.slice none 0 0, by rw [msgV_no hE0]; exact SV.nil, by rw [hi0], h.below, (nilRow0 h hE0).made SubC.h .nil⟩
   ·
    have hE : msgE ⟨pf, pa, pb, pl, hv, hs⟩ i = 0 := by rw [← hi0]; simpa using hc23
    obtain ⟨j, rfl, hj⟩ := msgE_inv hE
    refine wpc_skip ?_
    refine ex_then ?_
    refine wpc_seq ?_
    refine wpc_region ?_
    refine wpl_q (q_ldN Tryd.underlying29 rfl Tryd.ti29 rfl LenC.h) rfl ?_
    refine wpl_q (q_pure rfl) rfl ?_
    refine wpl_tp (t_callP1 Tryd.hb38 rfl fun w h => message_ ⟨pf, pa, pb, pl, hv, hs⟩ j w (hp.old h) hj hlim (glob h hG)) rfl (fun b27 p27 => ?_)
    refine wpl_q (q_pure rfl) rfl ?_
    refine wpl_q (q_pure rfl) rfl ?_
    refine wpl_nil ?_
    refine ex_then ?_
    refine wpc_ret ?_
    refine ret2 (.inl rfl) rfl rfl rfl ?_
    exact fun w h => ⟨b27, by rw [msgV_ok hE]; exact p27, by rw [hE], h.below, by rw [msgV_ok hE]; exact h.made SubC.h .nil⟩

end Go.Proofs.YtjpfhkjmjnjggaaDoor

namespace Go.Proofs.YtjpfhkjmjnjggaaDoor
set_option linter.unusedSimpArgs false
set_option linter.unusedVariables false
open Go Go.PL Go.RowKit

theorem numA (v : Value) (xs ys : List UInt8) (z : UInt64) (k n : Nat) (w : World) (hrow : (Ent.row v n 5 1 (v8s xs)).at w) (hn : n = xs.length) (sv : SV v n) (hk : 1 ≤ k) (hk8 : k ≤ 8) (hxl : n ≤ 100000) (hz : numK k z.toNat = ys) :
    Calls Tryd.prog 56 [v, .int .u64 (z.toNat : Int), .int .i64 ((k : Nat) : Int)].toArray w (GivesR w (.row v n 5 1 (v8s xs)) (n + k) 5 1 (v8s (xs ++ ys))) := by
  subst hn hz
  exact number v xs z k w hrow sv hk hk8 hxl
theorem shA (v : Value) (xs : List UInt8) (cv : Value) (l : List (List UInt8)) (n : Nat) (w : World) (hrow : (Ent.row v n 5 1 (v8s xs)).at w) (hn : n = xs.length) (sv : SV v n) (hcv : Seen (rdO (nums [.row v n 5 1 (v8s xs)]) w) cv l.length 16 (v8s l.flatten)) (hll : ∀ x ∈ l, x.length = 16) (hlim : l.length ≤ 1000) (hxl : n ≤ 100000) :
    Calls Tryd.prog 57 [v, cv].toArray w (GivesR w (.row v n 5 1 (v8s xs)) (n + l.length * 16) 5 1 (v8s (xs ++ l.flatten))) := by
  subst hn
  exact refShorts v xs cv l w hrow sv hcv hll hlim hxl
theorem hz32 (x : UInt32) (k : Nat) : numK k (of64 ((x.toNat : Nat) : Int)).toNat = numK k x.toNat := by rw [of64_nat _ (by have := x.toNat_lt; omega)]
theorem num1 (n : Nat) : numK 1 n = [of8 ((n : Nat) : Int)] := by
  show [of8 ((n % 256 : Nat) : Int)] = _
  rw [of8_mod]
theorem hz8 (x : UInt8) : numK 1 (of64 ((x.toNat : Nat) : Int)).toNat = [x] := by
  rw [of64_nat _ (by have := x.toNat_lt; omega), num1]
  congr 1
  apply UInt8.toNat_inj.1
  have h1 := of8_toNat ((x.toNat : Nat) : Int)
  have := x.toNat_lt
  omega
theorem hzi (i : Int) : numK 1 (of64 i).toNat = [of8 i] := by
  rw [num1]
  congr 1
  apply UInt8.toNat_inj.1
  have h1 := of8_toNat (((of64 i).toNat : Nat) : Int)
  have h2 := of8_toNat i
  have h3 := of64_toNat i
  omega
theorem hcs_sig {l : List Hop} {i : Nat} (hi : i < l.length) : ((hcs l).drop (i * 24 + 21)).take 3 = (l.getD i Hop.z).sig := by
  have q := cat_part Hop.c_length Hop.z hi
  rw [← Hop.c_sig, ← q, List.drop_take, List.drop_drop, List.take_take]
  rfl
theorem msg0_eq (p : Pth) (h : Hop) (hh : p.hs.getD 0 Hop.z = h) : ((((((((numK 4 h.to.toNat ++ numK 4 h.sy.toNat) ++ [h.cnt]) ++ [h.fl]) ++ [h.root.1].flatten) ++ [of8 h.ht]) ++ [p.pf]) ++ [of8 p.pl]) ++ numK 8 p.pa.toNat) ++ numK 8 p.pb.toNat = msgB p 0 := by
  rw [msgB, restF, rest0, hh, headB]
  simp
theorem msgS_eq (p : Pth) (m : Nat) (h g : Hop) (hh : p.hs.getD (m + 1) Hop.z = h) (hg : p.hs.getD m Hop.z = g) : (((((numK 4 h.to.toNat ++ numK 4 h.sy.toNat) ++ [h.cnt]) ++ [h.fl]) ++ [h.root.1].flatten) ++ [of8 h.ht]) ++ (sumF (((msgB p m ++ numK 4 (of64 g.ix).toNat) ++ g.chs.flatten) ++ g.ps.flatten)).take 32 = msgB p (m + 1) := by
  subst hh hg
  rw [List.take_of_length_le (by rw [sumF_length]; exact Nat.le_refl _)]
  show _ = headB (p.hs.getD (m + 1) Hop.z) ++ sumF ((headB (p.hs.getD m Hop.z) ++ restF p m) ++ tailH (p.hs.getD m Hop.z))
  have e : (((msgB p m ++ numK 4 (of64 (p.hs.getD m Hop.z).ix).toNat) ++ (p.hs.getD m Hop.z).chs.flatten) ++ (p.hs.getD m Hop.z).ps.flatten) = (headB (p.hs.getD m Hop.z) ++ restF p m) ++ tailH (p.hs.getD m Hop.z) := by
    rw [tailH, msgB]; simp only [List.append_assoc]
  rw [e]
  generalize sumF ((headB (p.hs.getD m Hop.z) ++ restF p m) ++ tailH (p.hs.getD m Hop.z)) = u
  rw [headB]
  simp
theorem a42_len (h : Hop) : (((((numK 4 h.to.toNat ++ numK 4 h.sy.toNat) ++ [h.cnt]) ++ [h.fl]) ++ [h.root.1].flatten) ++ [of8 h.ht]).length = 27 := by simp [numK_len, h.root.2]
theorem take_getDU {l : List UInt8} {i : Nat} (h : i < l.length) : l.take (i + 1) = l.take i ++ [l.getD i 0] := by
  rw [List.take_add_one, List.getD_eq_getElem?_getD, List.getElem?_eq_getElem h]; rfl
theorem q_ldWFN {P : Program} {n : Cx} {R : World → Prop} {L : Slots} {t : TypeId} {x : Operand} {v : Value} {m s' j k : Nat} {xs : List Value} {d : TypeDesc} {z : Value} {sz by_ : Nat} (hu : P.underlying t = some d) (hd : isAggD d = true) (ht : TyI P t z sz by_) (hx : ev L x = some (.pointer (some (((sa v).add j).add k))))
    (hs : ∀ w, R w → Seen w.cell? v m s' xs) (cs : List Value) (hc : (xs.drop (j + k)).take sz = cs) (hl : cs.length = sz) : QOp P n R L (.load t x) (.agg cs.toArray) :=
  q_ldWN hu hd ht (by rw [addr_add_add] at hx; exact hx) hs cs hc hl
instance lenC_sig {h : Hop} : LenC h.sig 3 := ⟨rfl⟩
theorem Hop.sv.sigOne {h : Hop} (hs : h.sv) : OneC h.sig := OneC.cons rfl (OneC.cons (SV.one hs.1) (OneC.cons (SV.one hs.2) oneC_nil))
instance oneC_sigz : OneC Hop.z.sig := Hop.sv.sigOne ⟨SV.nil, SV.nil⟩
theorem s16l (r : S16) : r.val.length = 16 := r.2
theorem seen_rowO {w0 w : World} {Ln : List Nat} {M : List Ent} {S : List Fact} (h : Mem w0 Ln M S w) {v : Value} {m : Nat} {e : TypeId} {sz : Nat} {xs : List Value} (hm : Ent.row v m e sz xs ∈ M) {f : Ent} (hap : ∀ k, (Ent.row v m e sz xs).num = some k → f.num ≠ some k) : Seen (rdO (nums [f]) w) v m sz xs := by
  have h2 := (h.own _ hm : w.ownsRow 0 e sz v m xs)
  refine ⟨h2.1, ?_⟩
  rcases h.row_form hm with ⟨rfl, rfl, rfl⟩ | ⟨g, cap, rfl, h3, h4⟩
  · exact ⟨none, 0, rfl, Nat.le_refl _, Nat.zero_le _, .inl ⟨rfl, rfl⟩⟩
  · refine ⟨_, _, rfl, h3, h4, .inr ⟨_, rfl, fun j u hj => ?_⟩⟩
    unfold rdO
    rw [if_neg]
    · exact h2.cells rfl j u hj
    · intro hb
      obtain ⟨f', hf, hn⟩ := mem_nums.1 hb
      rw [List.mem_singleton] at hf
      subst hf
      exact hap g rfl (by rw [hn]; congr 1; unfold Addr.add; split <;> rfl)

end Go.Proofs.YtjpfhkjmjnjggaaDoor

namespace Go.Proofs.YtjpfhkjmjnjggaaDoor
set_option linter.unusedSimpArgs false
set_option linter.unusedVariables false
open Go Go.PL Go.RowKit
set_option maxRecDepth 100000 in
theorem refMessage_step (p : Pth) (j : Nat) (w : World) (hp : p.seen w.cell?) (hj : j < p.hs.length) (hlim : SmP p) (ih : ∀ m, m + 1 = j → ∀ w, p.seen w.cell? → Calls Tryd.prog 39 [.agg p.c.toArray, .int .i64 ((m : Nat) : Int)].toArray w (GivesP w (fun v => SV v (msgB p m).length) (fun v => v) (fun v => [.row v (msgB p m).length 5 1 (v8s (msgB p m))]) (fun _ => []))) :
    Calls Tryd.prog 39 [.agg p.c.toArray, .int .i64 ((j : Nat) : Int)].toArray w (GivesP w (fun v => SV v (msgB p j).length) (fun v => v) (fun v => [.row v (msgB p j).length 5 1 (v8s (msgB p j))]) (fun _ => [])) := by
  obtain ⟨pf, pa, pb, pl, hv, hs⟩ := p
  have hh : Seen w.cell? hv hs.length 24 (hcs hs) := hp.1
  have svh := hh.sv
  have lh := svh.le
  simp only [maxLen] at lh
  refine enter (m := 101) (R := Mem w [] [] []) Tryd.func39 rfl rfl (Nat.le_of_ble_eq_true rfl) (Mem.start w) ?_
  refine wpc_seq ?_
  refine wpc_region ?_
  refine wpl_t (t_box rfl [.int .u8 (pf.toNat : Int), .int .u64 (pa.toNat : Int), .int .u64 (pb.toNat : Int), .int .i64 pl, hv] rfl) rfl (fun b2 => ?_)
  refine wpl_q (q_pure rfl) rfl ?_
  refine wpl_nil ?_
  refine ex_then ?_
  refine wpc_seq ?_
  have hsj := hp.2 _ (getD_memO hj)
  haveI := hsj.sv.one
  refine wpc_region ?_
  refine wpl_q (q_field Tryd.underlying29 rfl Tryd.ti27 rfl rfl _ rfl) rfl ?_
  refine wpl_q (q_ld Tryd.underlying27 rfl rfl rfl) rfl ?_
  refine wpl_q (q_pure rfl) rfl ?_
  refine wpl_q (q_idxW Tryd.underlying27 Tryd.ti68 rfl rfl (by first | assumption | exact SV.nil | exact SV.slv (by assumption) (by omega) (by omega) | exact arv_sv (by first | decide | (simp only [maxLen]; omega))) (by first | omega | (simp only [maxLen]; omega) | (simp only [List.length_append, List.length_cons, List.length_nil, List.length_take, maxLen]; omega) | (simp only [List.length_append, List.length_cons, List.length_nil, List.length_take]; omega))) rfl ?_
  refine wpl_q (q_ldWN Tryd.underlying68 rfl Tryd.ti68 rfl (fun w h => h.seen_old hh) (hs.getD j Hop.z).c (cat_part Hop.c_length Hop.z hj) (Hop.c_length _)) rfl ?_
  refine wpl_t (t_alloc Tryd.ti68 Hop.z.c rfl) rfl (fun b5 => ?_)
  refine wpl_t0 (t_stA Tryd.ti68 rfl rfl LenC.h OneC.h LenC.h) (fun _ => ?_)
  refine wpl_nil ?_
  refine ex_then ?_
  refine wpc_seq ?_
  refine wpc_draw 99 (by kernel_rfl) (fun _ h => h.drew) ?_
  refine wpd_p 0 rfl (by kernel_rfl) trivial (q_field Tryd.underlying68 rfl Tryd.ti49 rfl rfl _ rfl) rfl sk0 ?_
  refine wpd_q 1 rfl (by kernel_rfl) trivial (q_ld Tryd.underlying49 rfl rfl (Hop.c_to _)) rfl (fun _ h => h) ?_
  refine wpd_p 2 rfl (by kernel_rfl) trivial (q64_conv Tryd.underlying49 Tryd.underlying22 rfl) rfl sk0 ?_
  refine wpd_p 4 rfl (by kernel_rfl) trivial (q_field Tryd.underlying68 rfl Tryd.ti49 rfl rfl _ rfl) rfl sk0 ?_
  refine wpd_q 5 rfl (by kernel_rfl) trivial (q_ld Tryd.underlying49 rfl rfl (Hop.c_sy _)) rfl (fun _ h => h) ?_
  refine wpd_p 6 rfl (by kernel_rfl) trivial (q64_conv Tryd.underlying49 Tryd.underlying22 rfl) rfl sk0 ?_
  refine wpd_p 8 rfl (by kernel_rfl) trivial (q_field Tryd.underlying68 rfl Tryd.ti5 rfl rfl _ rfl) rfl sk0 ?_
  refine wpd_q 9 rfl (by kernel_rfl) trivial (q_ld Tryd.underlying5 rfl rfl (Hop.c_cnt _)) rfl (fun _ h => h) ?_
  refine wpd_p 10 rfl (by kernel_rfl) trivial (q64_conv Tryd.underlying5 Tryd.underlying22 rfl) rfl sk0 ?_
  refine wpd_p 12 rfl (by kernel_rfl) trivial (q_field Tryd.underlying68 rfl Tryd.ti5 rfl rfl _ rfl) rfl sk0 ?_
  refine wpd_q 13 rfl (by kernel_rfl) trivial (q_ld Tryd.underlying5 rfl rfl (Hop.c_fl _)) rfl (fun _ h => h) ?_
  refine wpd_p 14 rfl (by kernel_rfl) trivial (q64_conv Tryd.underlying5 Tryd.underlying22 rfl) rfl sk0 ?_
  refine wpd_tp 3 rfl (by kernel_rfl) trivial (t_callR0 (m' := 0 + 4) (ys := v8s ([] ++ (numK 4 (hs.getD j Hop.z).to.toNat))) 5 1 Tryd.hb56 rfl fun w h hr => numA _ [] (numK 4 (hs.getD j Hop.z).to.toNat) (of64 (((hs.getD j Hop.z).to.toNat : Nat) : Int)) 4 0 w hr rfl SV.nil (by decide) (by decide) (by decide) (hz32 _ 4)) rfl (fun _ => (fun w h => .inr (h.sub SubC.h SubC.h))) (fun b19 p19 => ?_)
  refine wpd_tp 7 rfl (by kernel_rfl) trivial (t_callR (m := 4) (m' := 4 + 4) (xs := v8s (numK 4 (hs.getD j Hop.z).to.toNat)) (ys := v8s ((numK 4 (hs.getD j Hop.z).to.toNat) ++ (numK 4 (hs.getD j Hop.z).sy.toNat))) Tryd.hb56 rfl fun w h hr => numA b19 (numK 4 (hs.getD j Hop.z).to.toNat) (numK 4 (hs.getD j Hop.z).sy.toNat) (of64 (((hs.getD j Hop.z).sy.toNat : Nat) : Int)) 4 (4) w hr (by simp [numK_len, s16l]) p19 (by decide) (by decide) (by omega) (hz32 _ 4)) rfl (fun _ => (fun w h => .inr (h.sub SubC.h SubC.h))) (fun b23 p23 => ?_)
  refine wpd_tp 11 rfl (by kernel_rfl) trivial (t_callR (m := 8) (m' := 8 + 1) (xs := v8s ((numK 4 (hs.getD j Hop.z).to.toNat) ++ numK 4 (hs.getD j Hop.z).sy.toNat)) (ys := v8s (((numK 4 (hs.getD j Hop.z).to.toNat) ++ numK 4 (hs.getD j Hop.z).sy.toNat) ++ [(hs.getD j Hop.z).cnt])) Tryd.hb56 rfl fun w h hr => numA b23 ((numK 4 (hs.getD j Hop.z).to.toNat) ++ numK 4 (hs.getD j Hop.z).sy.toNat) [(hs.getD j Hop.z).cnt] (of64 (((hs.getD j Hop.z).cnt.toNat : Nat) : Int)) 1 (8) w hr (by simp [numK_len, s16l]) p23 (by decide) (by decide) (by omega) (hz8 _)) rfl (fun _ => (fun w h => .inr (h.sub SubC.h SubC.h))) (fun b27 p27 => ?_)
  refine wpd_tp 15 rfl (by kernel_rfl) trivial (t_callR (m := 9) (m' := 9 + 1) (xs := v8s (((numK 4 (hs.getD j Hop.z).to.toNat) ++ numK 4 (hs.getD j Hop.z).sy.toNat) ++ [(hs.getD j Hop.z).cnt])) (ys := v8s ((((numK 4 (hs.getD j Hop.z).to.toNat) ++ numK 4 (hs.getD j Hop.z).sy.toNat) ++ [(hs.getD j Hop.z).cnt]) ++ [(hs.getD j Hop.z).fl])) Tryd.hb56 rfl fun w h hr => numA b27 (((numK 4 (hs.getD j Hop.z).to.toNat) ++ numK 4 (hs.getD j Hop.z).sy.toNat) ++ [(hs.getD j Hop.z).cnt]) [(hs.getD j Hop.z).fl] (of64 (((hs.getD j Hop.z).fl.toNat : Nat) : Int)) 1 (9) w hr (by simp [numK_len, s16l]) p27 (by decide) (by decide) (by omega) (hz8 _)) rfl (fun _ => (fun w h => .inr (h.sub SubC.h SubC.h))) (fun b31 p31 => ?_)
  refine wpd_p 16 rfl (by kernel_rfl) trivial (q_pure rfl) rfl (fun w h => .inr (h.sub SubC.h SubC.h)) ?_
  refine wpd_done (by kernel_rfl) ?_
  refine ex_then ?_
  refine wpc_seq ?_
  refine wpc_drawM [.blk b5 68 (hs.getD j Hop.z).c] 99 (by kernel_rfl) (by repeat (first | exact Sub.nil | exact Sub.refl _ | with_reducible refine Sub.keep ?_ | refine Sub.drop ?_)) ?_
  refine wpd_p 0 rfl (by kernel_rfl) trivial (q_pure rfl) rfl (fun w h => .inr (h.sub SubC.h SubC.h)) ?_
  refine wpd_p 1 rfl (by kernel_rfl) trivial (q_field Tryd.underlying68 rfl Tryd.ti63 rfl rfl _ rfl) rfl (fun w h => .inr (h.sub SubC.h SubC.h)) ?_
  refine wpd_p 2 rfl (by kernel_rfl) trivial (q_field Tryd.underlying63 rfl Tryd.ti61 rfl rfl _ rfl) rfl (fun w h => .inr (h.sub SubC.h SubC.h)) ?_
  refine wpd_q 3 rfl (by kernel_rfl) trivial (q_ldP Tryd.underlying61 rfl Tryd.ti61 rfl (v8s (hs.getD j Hop.z).root.1) (Hop.c_root _) (S16.len _)) rfl (fun w h => h.sub SubC.h SubC.h) ?_
  refine wpd_p 6 rfl (by kernel_rfl) trivial (q_field Tryd.underlying68 rfl Tryd.ti63 rfl rfl _ rfl) rfl (fun w h => .inr (h.sub SubC.h SubC.h)) ?_
  refine wpd_p 7 rfl (by kernel_rfl) trivial (q_field Tryd.underlying63 rfl Tryd.ti3 rfl rfl _ rfl) rfl (fun w h => .inr (h.sub SubC.h SubC.h)) ?_
  refine wpd_q 8 rfl (by kernel_rfl) trivial (q_ld Tryd.underlying3 rfl rfl (Hop.c_ht _)) rfl (fun w h => h.sub SubC.h SubC.h) ?_
  refine wpd_p 9 rfl (by kernel_rfl) trivial (q64_conv Tryd.underlying3 Tryd.underlying22 rfl) rfl (fun w h => .inr (h.sub SubC.h SubC.h)) ?_
  refine wpd_tp 4 rfl (by kernel_rfl) trivial (t_bsS [(hs.getD j Hop.z).root.1] Tryd.underlying64 Tryd.ti61 rfl (by decide) rfl (by decide) (by decide) rfl (all_one (hs.getD j Hop.z).root.2)) rfl (fun _ => (fun w h => .inr (h.sub SubC.h SubC.h))) (fun b36 p36 => ?_)
  refine wpd_tp 5 rfl (by kernel_rfl) trivial (t_callR (m := 10) (m' := 10 + [(hs.getD j Hop.z).root.1].length * 16) (xs := v8s ((((numK 4 (hs.getD j Hop.z).to.toNat) ++ numK 4 (hs.getD j Hop.z).sy.toNat) ++ [(hs.getD j Hop.z).cnt]) ++ [(hs.getD j Hop.z).fl])) (ys := v8s (((((numK 4 (hs.getD j Hop.z).to.toNat) ++ numK 4 (hs.getD j Hop.z).sy.toNat) ++ [(hs.getD j Hop.z).cnt]) ++ [(hs.getD j Hop.z).fl]) ++ [(hs.getD j Hop.z).root.1].flatten)) Tryd.hb57 rfl fun w h hr => shA b31 ((((numK 4 (hs.getD j Hop.z).to.toNat) ++ numK 4 (hs.getD j Hop.z).sy.toNat) ++ [(hs.getD j Hop.z).cnt]) ++ [(hs.getD j Hop.z).fl]) b36 [(hs.getD j Hop.z).root.1] (10) w hr (by simp [numK_len, s16l]) p31 (seen_rowO h (List.mem_cons_self ..) (fun k hk => (List.pairwise_cons.1 h.apart).1 _ (by simp) k hk)) (all_one (hs.getD j Hop.z).root.2) (show 1 ≤ 1000 by decide) (by omega)) rfl (fun _ => (fun w h => .inr (h.sub SubC.h SubC.h))) (fun b37 p37 => ?_)
  refine wpd_tp 10 rfl (by kernel_rfl) trivial (t_callR (m := 26) (m' := 26 + 1) (xs := v8s (((((numK 4 (hs.getD j Hop.z).to.toNat) ++ numK 4 (hs.getD j Hop.z).sy.toNat) ++ [(hs.getD j Hop.z).cnt]) ++ [(hs.getD j Hop.z).fl]) ++ [(hs.getD j Hop.z).root.1].flatten)) (ys := v8s ((((((numK 4 (hs.getD j Hop.z).to.toNat) ++ numK 4 (hs.getD j Hop.z).sy.toNat) ++ [(hs.getD j Hop.z).cnt]) ++ [(hs.getD j Hop.z).fl]) ++ [(hs.getD j Hop.z).root.1].flatten) ++ [of8 (hs.getD j Hop.z).ht])) Tryd.hb56 rfl fun w h hr => numA b37 (((((numK 4 (hs.getD j Hop.z).to.toNat) ++ numK 4 (hs.getD j Hop.z).sy.toNat) ++ [(hs.getD j Hop.z).cnt]) ++ [(hs.getD j Hop.z).fl]) ++ [(hs.getD j Hop.z).root.1].flatten) [of8 (hs.getD j Hop.z).ht] (of64 (hs.getD j Hop.z).ht) 1 (26) w hr (by simp [numK_len, s16l]) p37 (by decide) (by decide) (by omega) (hzi _)) rfl (fun _ => (fun w h => .inr (h.sub SubC.h SubC.h))) (fun b42 p42 => ?_)
  refine wpd_p 11 rfl (by kernel_rfl) trivial (q_pure rfl) rfl (fun w h => .inr (h.sub SubC.h SubC.h)) ?_
  refine wpd_done (by kernel_rfl) ?_
  refine ex_then ?_
  refine wpc_seq ?_
  refine wpc_seq ?_
  refine wpc_region ?_
  refine wpl_q (q_pure rfl) rfl ?_
  refine wpl_q (q_pure rfl) rfl ?_
  refine wpl_nil ?_
  refine ex_then ?_
  refine wpc_cond rfl (fun hc44 => ?_) (fun hc44 => ?_)
  ·
   obtain rfl : j = 0 := by simpa using hc44
   refine wpc_seq ?_
   refine wpc_drawM [.blk b2 29 [.int .u8 (pf.toNat : Int), .int .u64 (pa.toNat : Int), .int .u64 (pb.toNat : Int), .int .i64 pl, hv]] 99 (by kernel_rfl) (by repeat (first | exact Sub.nil | exact Sub.refl _ | with_reducible refine Sub.keep ?_ | refine Sub.drop ?_)) ?_
   refine wpd_p 0 rfl (by kernel_rfl) trivial (q_pure rfl) rfl (fun w h => .inr (h.sub SubC.h SubC.h)) ?_
   refine wpd_p 1 rfl (by kernel_rfl) trivial (q_field Tryd.underlying29 rfl Tryd.ti26 rfl rfl _ rfl) rfl (fun w h => .inr (h.sub SubC.h SubC.h)) ?_
   refine wpd_p 2 rfl (by kernel_rfl) trivial (q_field Tryd.underlying26 rfl Tryd.ti5 rfl rfl _ rfl) rfl (fun w h => .inr (h.sub SubC.h SubC.h)) ?_
   refine wpd_q 3 rfl (by kernel_rfl) trivial (q_ld Tryd.underlying5 rfl rfl (by first | exact v8s_get (by first | decide | omega | exact Nat.zero_lt_one | (simp; omega) | (simp; done) | (simp only [v8s_length, v32s_length, vis_length, vns_length, v64s_length]; omega)) | rfl)) rfl (fun w h => h.sub SubC.h SubC.h) ?_
   refine wpd_p 4 rfl (by kernel_rfl) trivial (q64_conv Tryd.underlying5 Tryd.underlying22 rfl) rfl (fun w h => .inr (h.sub SubC.h SubC.h)) ?_
   refine wpd_p 6 rfl (by kernel_rfl) trivial (q_field Tryd.underlying29 rfl Tryd.ti26 rfl rfl _ rfl) rfl (fun w h => .inr (h.sub SubC.h SubC.h)) ?_
   refine wpd_p 7 rfl (by kernel_rfl) trivial (q_field Tryd.underlying26 rfl Tryd.ti3 rfl rfl _ rfl) rfl (fun w h => .inr (h.sub SubC.h SubC.h)) ?_
   refine wpd_q 8 rfl (by kernel_rfl) trivial (q_ld Tryd.underlying3 rfl rfl (by first | exact vns_get (by first | decide | omega | exact Nat.zero_lt_one | (simp; omega) | (simp; done) | (simp only [v8s_length, v32s_length, vis_length, vns_length, v64s_length]; omega)) | rfl)) rfl (fun w h => h.sub SubC.h SubC.h) ?_
   refine wpd_p 9 rfl (by kernel_rfl) trivial (q64_conv Tryd.underlying3 Tryd.underlying22 rfl) rfl (fun w h => .inr (h.sub SubC.h SubC.h)) ?_
   refine wpd_tp 5 rfl (by kernel_rfl) trivial (t_callR (m := 27) (m' := 27 + 1) (xs := v8s ((((((numK 4 (hs.getD 0 Hop.z).to.toNat) ++ numK 4 (hs.getD 0 Hop.z).sy.toNat) ++ [(hs.getD 0 Hop.z).cnt]) ++ [(hs.getD 0 Hop.z).fl]) ++ [(hs.getD 0 Hop.z).root.1].flatten) ++ [of8 (hs.getD 0 Hop.z).ht])) (ys := v8s (((((((numK 4 (hs.getD 0 Hop.z).to.toNat) ++ numK 4 (hs.getD 0 Hop.z).sy.toNat) ++ [(hs.getD 0 Hop.z).cnt]) ++ [(hs.getD 0 Hop.z).fl]) ++ [(hs.getD 0 Hop.z).root.1].flatten) ++ [of8 (hs.getD 0 Hop.z).ht]) ++ [pf])) Tryd.hb56 rfl fun w h hr => numA b42 ((((((numK 4 (hs.getD 0 Hop.z).to.toNat) ++ numK 4 (hs.getD 0 Hop.z).sy.toNat) ++ [(hs.getD 0 Hop.z).cnt]) ++ [(hs.getD 0 Hop.z).fl]) ++ [(hs.getD 0 Hop.z).root.1].flatten) ++ [of8 (hs.getD 0 Hop.z).ht]) [pf] (of64 ((pf.toNat : Nat) : Int)) 1 (27) w hr (by simp [numK_len, s16l]) p42 (by decide) (by decide) (by omega) (hz8 _)) rfl (fun _ => (fun w h => .inr (h.sub SubC.h SubC.h))) (fun b50 p50 => ?_)
   refine wpd_tp 10 rfl (by kernel_rfl) trivial (t_callR (m := 28) (m' := 28 + 1) (xs := v8s (((((((numK 4 (hs.getD 0 Hop.z).to.toNat) ++ numK 4 (hs.getD 0 Hop.z).sy.toNat) ++ [(hs.getD 0 Hop.z).cnt]) ++ [(hs.getD 0 Hop.z).fl]) ++ [(hs.getD 0 Hop.z).root.1].flatten) ++ [of8 (hs.getD 0 Hop.z).ht]) ++ [pf])) (ys := v8s ((((((((numK 4 (hs.getD 0 Hop.z).to.toNat) ++ numK 4 (hs.getD 0 Hop.z).sy.toNat) ++ [(hs.getD 0 Hop.z).cnt]) ++ [(hs.getD 0 Hop.z).fl]) ++ [(hs.getD 0 Hop.z).root.1].flatten) ++ [of8 (hs.getD 0 Hop.z).ht]) ++ [pf]) ++ [of8 pl])) Tryd.hb56 rfl fun w h hr => numA b50 (((((((numK 4 (hs.getD 0 Hop.z).to.toNat) ++ numK 4 (hs.getD 0 Hop.z).sy.toNat) ++ [(hs.getD 0 Hop.z).cnt]) ++ [(hs.getD 0 Hop.z).fl]) ++ [(hs.getD 0 Hop.z).root.1].flatten) ++ [of8 (hs.getD 0 Hop.z).ht]) ++ [pf]) [of8 pl] (of64 pl) 1 (28) w hr (by simp [numK_len, s16l]) p50 (by decide) (by decide) (by omega) (hzi _)) rfl (fun _ => (fun w h => .inr (h.sub SubC.h SubC.h))) (fun b55 p55 => ?_)
   refine wpd_p 11 rfl (by kernel_rfl) trivial (q_pure rfl) rfl (fun w h => .inr (h.sub SubC.h SubC.h)) ?_
   refine wpd_done (by kernel_rfl) ?_
   refine ex_then ?_
   refine wpc_seq ?_
   refine wpc_drawM [.blk b2 29 [.int .u8 (pf.toNat : Int), .int .u64 (pa.toNat : Int), .int .u64 (pb.toNat : Int), .int .i64 pl, hv]] 99 (by kernel_rfl) (by repeat (first | exact Sub.nil | exact Sub.refl _ | with_reducible refine Sub.keep ?_ | refine Sub.drop ?_)) ?_
   refine wpd_p 0 rfl (by kernel_rfl) trivial (q_pure rfl) rfl (fun w h => .inr (h.sub SubC.h SubC.h)) ?_
   refine wpd_p 1 rfl (by kernel_rfl) trivial (q_field Tryd.underlying29 rfl Tryd.ti26 rfl rfl _ rfl) rfl (fun w h => .inr (h.sub SubC.h SubC.h)) ?_
   refine wpd_p 2 rfl (by kernel_rfl) trivial (q_field Tryd.underlying26 rfl Tryd.ti24 rfl rfl _ rfl) rfl (fun w h => .inr (h.sub SubC.h SubC.h)) ?_
   refine wpd_p 3 rfl (by kernel_rfl) trivial (q_field Tryd.underlying24 rfl Tryd.ti22 rfl rfl _ rfl) rfl (fun w h => .inr (h.sub SubC.h SubC.h)) ?_
   refine wpd_q 4 rfl (by kernel_rfl) trivial (q_ld Tryd.underlying22 rfl rfl (by first | exact v64s_get (by first | decide | omega | exact Nat.zero_lt_one | (simp; omega) | (simp; done) | (simp only [v8s_length, v32s_length, vis_length, vns_length, v64s_length]; omega)) | rfl)) rfl (fun w h => h.sub SubC.h SubC.h) ?_
   refine wpd_p 6 rfl (by kernel_rfl) trivial (q_field Tryd.underlying29 rfl Tryd.ti26 rfl rfl _ rfl) rfl (fun w h => .inr (h.sub SubC.h SubC.h)) ?_
   refine wpd_p 7 rfl (by kernel_rfl) trivial (q_field Tryd.underlying26 rfl Tryd.ti24 rfl rfl _ rfl) rfl (fun w h => .inr (h.sub SubC.h SubC.h)) ?_
   refine wpd_p 8 rfl (by kernel_rfl) trivial (q_field Tryd.underlying24 rfl Tryd.ti22 rfl rfl _ rfl) rfl (fun w h => .inr (h.sub SubC.h SubC.h)) ?_
   refine wpd_q 9 rfl (by kernel_rfl) trivial (q_ld Tryd.underlying22 rfl rfl (by first | exact v64s_get (by first | decide | omega | exact Nat.zero_lt_one | (simp; omega) | (simp; done) | (simp only [v8s_length, v32s_length, vis_length, vns_length, v64s_length]; omega)) | rfl)) rfl (fun w h => h.sub SubC.h SubC.h) ?_
   refine wpd_tp 5 rfl (by kernel_rfl) trivial (t_callR (m := 29) (m' := 29 + 8) (xs := v8s ((((((((numK 4 (hs.getD 0 Hop.z).to.toNat) ++ numK 4 (hs.getD 0 Hop.z).sy.toNat) ++ [(hs.getD 0 Hop.z).cnt]) ++ [(hs.getD 0 Hop.z).fl]) ++ [(hs.getD 0 Hop.z).root.1].flatten) ++ [of8 (hs.getD 0 Hop.z).ht]) ++ [pf]) ++ [of8 pl])) (ys := v8s (((((((((numK 4 (hs.getD 0 Hop.z).to.toNat) ++ numK 4 (hs.getD 0 Hop.z).sy.toNat) ++ [(hs.getD 0 Hop.z).cnt]) ++ [(hs.getD 0 Hop.z).fl]) ++ [(hs.getD 0 Hop.z).root.1].flatten) ++ [of8 (hs.getD 0 Hop.z).ht]) ++ [pf]) ++ [of8 pl]) ++ (numK 8 pa.toNat))) Tryd.hb56 rfl fun w h hr => numA b55 ((((((((numK 4 (hs.getD 0 Hop.z).to.toNat) ++ numK 4 (hs.getD 0 Hop.z).sy.toNat) ++ [(hs.getD 0 Hop.z).cnt]) ++ [(hs.getD 0 Hop.z).fl]) ++ [(hs.getD 0 Hop.z).root.1].flatten) ++ [of8 (hs.getD 0 Hop.z).ht]) ++ [pf]) ++ [of8 pl]) (numK 8 pa.toNat) pa 8 (29) w hr (by simp [numK_len, s16l]) p55 (by decide) (by decide) (by omega) rfl) rfl (fun _ => (fun w h => .inr (h.sub SubC.h SubC.h))) (fun b61 p61 => ?_)
   refine wpd_tp 10 rfl (by kernel_rfl) trivial (t_callR (m := 37) (m' := 37 + 8) (xs := v8s (((((((((numK 4 (hs.getD 0 Hop.z).to.toNat) ++ numK 4 (hs.getD 0 Hop.z).sy.toNat) ++ [(hs.getD 0 Hop.z).cnt]) ++ [(hs.getD 0 Hop.z).fl]) ++ [(hs.getD 0 Hop.z).root.1].flatten) ++ [of8 (hs.getD 0 Hop.z).ht]) ++ [pf]) ++ [of8 pl]) ++ numK 8 pa.toNat)) (ys := v8s ((((((((((numK 4 (hs.getD 0 Hop.z).to.toNat) ++ numK 4 (hs.getD 0 Hop.z).sy.toNat) ++ [(hs.getD 0 Hop.z).cnt]) ++ [(hs.getD 0 Hop.z).fl]) ++ [(hs.getD 0 Hop.z).root.1].flatten) ++ [of8 (hs.getD 0 Hop.z).ht]) ++ [pf]) ++ [of8 pl]) ++ numK 8 pa.toNat) ++ (numK 8 pb.toNat))) Tryd.hb56 rfl fun w h hr => numA b61 (((((((((numK 4 (hs.getD 0 Hop.z).to.toNat) ++ numK 4 (hs.getD 0 Hop.z).sy.toNat) ++ [(hs.getD 0 Hop.z).cnt]) ++ [(hs.getD 0 Hop.z).fl]) ++ [(hs.getD 0 Hop.z).root.1].flatten) ++ [of8 (hs.getD 0 Hop.z).ht]) ++ [pf]) ++ [of8 pl]) ++ numK 8 pa.toNat) (numK 8 pb.toNat) pb 8 (37) w hr (by simp [numK_len, s16l]) p61 (by decide) (by decide) (by omega) rfl) rfl (fun _ => (fun w h => .inr (h.sub SubC.h SubC.h))) (fun b66 p66 => ?_)
   refine wpd_p 11 rfl (by kernel_rfl) trivial (q_pure rfl) rfl (fun w h => .inr (h.sub SubC.h SubC.h)) ?_
   refine wpd_done (by kernel_rfl) ?_
   refine ex_then ?_
   refine wpc_ret ?_
   refine ex_then_ret ?_
   refine ret1 (.inl rfl) rfl rfl ?_
   have hfe := msg0_eq ⟨pf, pa, pb, pl, hv, hs⟩ _ rfl
   have hfl : 45 = (msgB ⟨pf, pa, pb, pl, hv, hs⟩ 0).length := by rw [← hfe]; simp [numK_len, s16l]
   exact fun w h => ⟨b66, hfl ▸ p66, rfl, h.below, by rw [← hfl, ← hfe]; exact h.made SubC.h .nil⟩
  ·
   have hj0 : ¬ j = 0 := by simpa using hc44
   obtain ⟨m, rfl⟩ : ∃ m, j = m + 1 := ⟨j - 1, by omega⟩
   have hjq : m + 1 < hs.length := hj
   have hjm : m < hs.length := by omega
   have hsm : ((hs.getD m Hop.z)).seen w.cell? := hp.2 _ (getD_memO hjm)
   have hlm : (hs.getD m Hop.z).chs.length ≤ 100 ∧ (hs.getD m Hop.z).ps.length ≤ 100 := hlim _ (getD_memO hjm)
   haveI := hsm.sv.sigOne
   have hml := msgB_len ⟨pf, pa, pb, pl, hv, hs⟩ m
   refine wpc_skip ?_
   refine ex_then ?_
   refine wpc_seq ?_
   refine wpc_region ?_
   refine wpl_q (q_field Tryd.underlying29 rfl Tryd.ti27 rfl rfl _ rfl) rfl ?_
   refine wpl_q (q_ld Tryd.underlying27 rfl rfl rfl) rfl ?_
   refine wpl_q (q_pure rfl) rfl ?_
   refine wpl_q (q_subN (b := 1) rfl rfl (by omega) (by first | omega | (simp only [maxLen]; omega) | (simp only [List.length_append, List.length_cons, List.length_nil, List.length_take, maxLen]; omega) | (simp only [List.length_append, List.length_cons, List.length_nil, List.length_take]; omega))) rfl ?_
   refine wpl_q (q_idxW Tryd.underlying27 Tryd.ti68 rfl rfl (by first | assumption | exact SV.nil | exact SV.slv (by assumption) (by omega) (by omega) | exact arv_sv (by first | decide | (simp only [maxLen]; omega))) (by first | omega | (simp only [maxLen]; omega) | (simp only [List.length_append, List.length_cons, List.length_nil, List.length_take, maxLen]; omega) | (simp only [List.length_append, List.length_cons, List.length_nil, List.length_take]; omega))) rfl ?_
   refine wpl_q (q_fieldPo 21 Tryd.underlying68 rfl Tryd.ti66 rfl rfl rfl) rfl ?_
   refine wpl_q (q_ldWFN Tryd.underlying66 rfl Tryd.ti66 rfl (fun w h => h.seen_old hh) (hs.getD m Hop.z).sig (hcs_sig hjm) rfl) rfl ?_
   refine wpl_t (t_alloc Tryd.ti66 Hop.z.sig rfl) rfl (fun b7 => ?_)
   refine wpl_t0 (t_stA Tryd.ti66 rfl rfl LenC.h OneC.h LenC.h) (fun _ => ?_)
   refine wpl_nil ?_
   refine ex_then ?_
   refine wpc_seq ?_
   refine wpc_draw 99 (by kernel_rfl) (fun _ h => h.drew) ?_
   refine wpd_q 0 rfl (by kernel_rfl) trivial (q_ldN Tryd.underlying29 rfl Tryd.ti29 rfl LenC.h) rfl (fun _ h => h) ?_
   refine wpd_p 1 rfl (by kernel_rfl) trivial (q_pure rfl) rfl sk0 ?_
   refine wpd_p 2 rfl (by kernel_rfl) trivial (q_subN (b := 1) rfl rfl (by omega) (by first | omega | (simp only [maxLen]; omega) | (simp only [List.length_append, List.length_cons, List.length_nil, List.length_take, maxLen]; omega) | (simp only [List.length_append, List.length_cons, List.length_nil, List.length_take]; omega))) rfl sk0 ?_
   refine wpd_p 4 rfl (by kernel_rfl) trivial (q_field Tryd.underlying66 rfl Tryd.ti3 rfl rfl _ rfl) rfl sk0 ?_
   refine wpd_q 5 rfl (by kernel_rfl) trivial (q_ld Tryd.underlying3 rfl rfl (by first | exact vns_get (by first | decide | omega | exact Nat.zero_lt_one | (simp; omega) | (simp; done) | (simp only [v8s_length, v32s_length, vis_length, vns_length, v64s_length]; omega)) | rfl)) rfl (fun _ h => h) ?_
   refine wpd_p 6 rfl (by kernel_rfl) trivial (q64_conv Tryd.underlying3 Tryd.underlying22 rfl) rfl sk0 ?_
   refine wpd_tp 3 rfl (by kernel_rfl) trivial (t_callP1 Tryd.hb39 rfl fun w h => ih m rfl w (hp.old h)) rfl (fun _ => (fun w h => .inr (h.sub SubC.h SubC.h))) (fun b77 p77 => ?_)
   refine wpd_tp 7 rfl (by kernel_rfl) trivial (t_callR (m := (msgB ⟨pf, pa, pb, pl, hv, hs⟩ m).length) (m' := (msgB ⟨pf, pa, pb, pl, hv, hs⟩ m).length + 4) (xs := v8s (msgB ⟨pf, pa, pb, pl, hv, hs⟩ m)) (ys := v8s ((msgB ⟨pf, pa, pb, pl, hv, hs⟩ m) ++ (numK 4 (of64 (hs.getD m Hop.z).ix).toNat))) Tryd.hb56 rfl fun w h hr => numA b77 (msgB ⟨pf, pa, pb, pl, hv, hs⟩ m) (numK 4 (of64 (hs.getD m Hop.z).ix).toNat) (of64 (hs.getD m Hop.z).ix) 4 ((msgB ⟨pf, pa, pb, pl, hv, hs⟩ m).length) w hr rfl p77 (by decide) (by decide) (by omega) rfl) rfl (fun _ => (fun w h => .inr (h.sub SubC.h SubC.h))) (fun b81 p81 => ?_)
   refine wpd_p 8 rfl (by kernel_rfl) trivial (q_pure rfl) rfl (fun w h => .inr (h.sub SubC.h SubC.h)) ?_
   refine wpd_done (by kernel_rfl) ?_
   refine ex_then ?_
   refine wpc_seq ?_
   refine wpc_drawM [.blk b7 66 (hs.getD m Hop.z).sig] 9 (by kernel_rfl) (by repeat (first | exact Sub.nil | exact Sub.refl _ | with_reducible refine Sub.keep ?_ | refine Sub.drop ?_)) ?_
   refine wpd_p 0 rfl (by kernel_rfl) trivial (q_pure rfl) rfl (fun w h => .inr (h.sub SubC.h SubC.h)) ?_
   refine wpd_p 1 rfl (by kernel_rfl) trivial (q_field Tryd.underlying66 rfl Tryd.ti64 rfl rfl _ rfl) rfl (fun w h => .inr (h.sub SubC.h SubC.h)) ?_
   refine wpd_q 2 rfl (by kernel_rfl) trivial (q_ld Tryd.underlying64 rfl rfl rfl) rfl (fun w h => h.sub SubC.h SubC.h) ?_
   refine wpd_p 4 rfl (by kernel_rfl) trivial (q_field Tryd.underlying66 rfl Tryd.ti64 rfl rfl _ rfl) rfl (fun w h => .inr (h.sub SubC.h SubC.h)) ?_
   refine wpd_q 5 rfl (by kernel_rfl) trivial (q_ld Tryd.underlying64 rfl rfl rfl) rfl (fun w h => h.sub SubC.h SubC.h) ?_
   refine wpd_two 3 8 (by kernel_rfl) ?_ ?_
   ·
    refine wpa_tp 3 rfl trivial (t_callR (m := (msgB ⟨pf, pa, pb, pl, hv, hs⟩ m).length + 4) (m' := (msgB ⟨pf, pa, pb, pl, hv, hs⟩ m).length + 4 + (hs.getD m Hop.z).chs.length * 16) (xs := v8s ((msgB ⟨pf, pa, pb, pl, hv, hs⟩ m) ++ numK 4 (of64 (hs.getD m Hop.z).ix).toNat)) (ys := v8s (((msgB ⟨pf, pa, pb, pl, hv, hs⟩ m) ++ numK 4 (of64 (hs.getD m Hop.z).ix).toNat) ++ (hs.getD m Hop.z).chs.flatten)) Tryd.hb57 rfl fun w h hr => shA b81 ((msgB ⟨pf, pa, pb, pl, hv, hs⟩ m) ++ numK 4 (of64 (hs.getD m Hop.z).ix).toNat) (hs.getD m Hop.z).cv (hs.getD m Hop.z).chs ((msgB ⟨pf, pa, pb, pl, hv, hs⟩ m).length + 4) w hr (by rw [List.length_append, numK_len]) p81 (hsm.1.mono (rdo_nil h (by simp))) hsm.2.1 (by omega) (by omega)) rfl (fun _ => (fun w h => .inr (h.sub SubC.h SubC.h))) (fun b85 p85 => ?_)
    refine wpd_two 6 8 (by kernel_rfl) ?_ ?_
    ·
     refine wpa_tp 6 rfl trivial (t_callR (m := (msgB ⟨pf, pa, pb, pl, hv, hs⟩ m).length + 4 + (hs.getD m Hop.z).chs.length * 16) (m' := (msgB ⟨pf, pa, pb, pl, hv, hs⟩ m).length + 4 + (hs.getD m Hop.z).chs.length * 16 + (hs.getD m Hop.z).ps.length * 16) (xs := v8s (((msgB ⟨pf, pa, pb, pl, hv, hs⟩ m) ++ numK 4 (of64 (hs.getD m Hop.z).ix).toNat) ++ (hs.getD m Hop.z).chs.flatten)) (ys := v8s ((((msgB ⟨pf, pa, pb, pl, hv, hs⟩ m) ++ numK 4 (of64 (hs.getD m Hop.z).ix).toNat) ++ (hs.getD m Hop.z).chs.flatten) ++ (hs.getD m Hop.z).ps.flatten)) Tryd.hb57 rfl fun w h hr => shA b85 (((msgB ⟨pf, pa, pb, pl, hv, hs⟩ m) ++ numK 4 (of64 (hs.getD m Hop.z).ix).toNat) ++ (hs.getD m Hop.z).chs.flatten) (hs.getD m Hop.z).pv (hs.getD m Hop.z).ps ((msgB ⟨pf, pa, pb, pl, hv, hs⟩ m).length + 4 + (hs.getD m Hop.z).chs.length * 16) w hr (by rw [List.length_append, List.length_append, numK_len, flat_len16 hsm.2.1]) p85 (hsm.2.2.1.mono (rdo_nil h (by simp))) hsm.2.2.2 (by omega) (by omega)) rfl (fun _ => (fun w h => .inr (h.sub SubC.h SubC.h))) (fun b88 p88 => ?_)
     refine wpd_two 7 8 (by kernel_rfl) ?_ ?_
     ·
      refine wpa_t 7 rfl trivial (t_pur Tryd.hb58 rfl fun w h => refSum b88 ((((msgB ⟨pf, pa, pb, pl, hv, hs⟩ m) ++ numK 4 (of64 (hs.getD m Hop.z).ix).toNat) ++ (hs.getD m Hop.z).chs.flatten) ++ (hs.getD m Hop.z).ps.flatten) w (Seen.re8 (show Seen w.cell? b88 ((msgB ⟨pf, pa, pb, pl, hv, hs⟩ m).length + 4 + (hs.getD m Hop.z).chs.length * 16 + (hs.getD m Hop.z).ps.length * 16) 1 (v8s ((((msgB ⟨pf, pa, pb, pl, hv, hs⟩ m) ++ numK 4 (of64 (hs.getD m Hop.z).ix).toNat) ++ (hs.getD m Hop.z).chs.flatten) ++ (hs.getD m Hop.z).ps.flatten)) from h.seen_row (by repeat (first | exact List.mem_cons_self .. | apply List.mem_cons_of_mem)))) (by rw [List.length_append, List.length_append, List.length_append, numK_len, flat_len16 hsm.2.1, flat_len16 hsm.2.2.2]; omega)) rfl (fun _ => (fun w h => .inr (h.sub SubC.h SubC.h))) (fun b89 => ?_)
      refine wpd_t 8 rfl (by kernel_rfl) trivial (t_alloc Tryd.ti113 (v8s (List.replicate 32 0)) rfl) rfl (fun _ => (fun w h => .inr (h.sub SubC.h SubC.h))) (fun b9 => ?_)
      refine wpd_t0 9 rfl (by kernel_rfl) trivial (t_stA Tryd.ti113 rfl rfl (by rw [v8s_length]; exact sumF_length _) (v8s_one _) (by rw [v8s_length, List.length_replicate])) (fun _ => skk rfl) (fun _ => ?_)
      refine wpd_done (by kernel_rfl) ?_
      refine ex_then ?_
      refine wpc_seq ?_
      refine wpc_seq ?_
      refine wpc_region ?_
      refine wpl_q (q_pure rfl) rfl ?_
      refine wpl_nil ?_
      refine ex_then ?_
      refine wpc_block ?_
      refine wpc_loopc (ι := { x : Nat × Value // (x.1 ≤ 32) ∧ (SV x.2 (27 + x.1)) }) [(9, _)] (fun x Lc => (10, .int .i64 ((x.1.1 : Nat) : Int)) :: (6, x.1.2) :: Lc) (fun x => Mem w [] [.row x.1.2 (27 + x.1.1) 5 1 (v8s (((((((numK 4 (hs.getD (m + 1) Hop.z).to.toNat) ++ numK 4 (hs.getD (m + 1) Hop.z).sy.toNat) ++ [(hs.getD (m + 1) Hop.z).cnt]) ++ [(hs.getD (m + 1) Hop.z).fl]) ++ [(hs.getD (m + 1) Hop.z).root.1].flatten) ++ [of8 (hs.getD (m + 1) Hop.z).ht]) ++ (sumF ((((msgB ⟨pf, pa, pb, pl, hv, hs⟩ m) ++ numK 4 (of64 (hs.getD m Hop.z).ix).toNat) ++ (hs.getD m Hop.z).chs.flatten) ++ (hs.getD m Hop.z).ps.flatten)).take x.1.1)), .blk b9 113 (v8s (sumF ((((msgB ⟨pf, pa, pb, pl, hv, hs⟩ m) ++ numK 4 (of64 (hs.getD m Hop.z).ix).toNat) ++ (hs.getD m Hop.z).chs.flatten) ++ (hs.getD m Hop.z).ps.flatten)))] []) (fun x => 32 - x.1.1) ⟨(0, b42), ⟨Nat.zero_le _, p42⟩⟩ (by repeat (first | exact trivial | refine ⟨rfl, ?_⟩)) ?_ ?_
      ·
       exact fun w h => by
         dsimp only
         rw [List.take_zero, List.append_nil]
         exact h.sel
      ·
       rintro ⟨⟨i, v6⟩, ⟨hi0, hi1⟩⟩; try dsimp only
       have hi0 : i ≤ 32 := hi0; have hi1 : SV v6 (27 + i) := hi1
       refine wpc_seq ?_
       refine wpc_seq ?_
       refine wpc_region ?_
       refine wpl_q (q_pure rfl) rfl ?_
       refine wpl_q (q_pure rfl) rfl ?_
       refine wpl_nil ?_
       refine ex_then ?_
       refine wpc_cond rfl (fun hc91 => ?_) (fun hc91 => ?_)
       ·
        simp only [decide_eq_true_eq] at hc91
        have hi32 : i < 32 := by omega
        have hsl := sumF_length ((((msgB ⟨pf, pa, pb, pl, hv, hs⟩ m) ++ numK 4 (of64 (hs.getD m Hop.z).ix).toNat) ++ (hs.getD m Hop.z).chs.flatten) ++ (hs.getD m Hop.z).ps.flatten)
        refine wpc_skip ?_
        refine ex_then ?_
        refine wpc_seq ?_
        refine wpc_block ?_
        refine wpc_region ?_
        refine wpl_q (q_pure rfl) rfl ?_
        refine wpl_q (q_pure rfl) rfl ?_
        refine wpl_q (q_idxA1 Tryd.underlying113 Tryd.ti5 rfl rfl (by omega)) rfl ?_
        refine wpl_q (q_ld Tryd.underlying5 rfl rfl (v8s_get (by rw [hsl]; exact hi32))) rfl ?_
        refine wpl_tp (t_bsV (v8s [_]) Tryd.underlying32 Tryd.ti5 rfl rfl (by decide) (by decide) rfl (v8s_one _)) rfl (fun b98 p98 => ?_)
        refine wpl_tp (t_apW Tryd.underlying32 Tryd.ti5 rfl (by decide) rfl rfl (fun w h => by first | exact h.seenV | exact h.seenA (by first | decide | (simp only [maxLen]; omega)) (by first | (with_reducible exact key_len _ _ (by (first | with_reducible assumption | exact L16.h))) | with_reducible rfl | (simp only [v8s_length, v32s_length, vis_length, vns_length, v64s_length, List.length_replicate]; first | done | with_reducible assumption | omega) | (rw [v8s_length]; (first | with_reducible assumption | exact L16.h)) | rfl) | exact h.seen_old (by assumption) | exact h.seen_oldL (by assumption) (by assumption) | exact h.seen_fact (by repeat (first | exact List.mem_cons_self .. | apply List.mem_cons_of_mem))) OneC.h (by first | omega | (simp only [maxLen]; omega) | (simp only [List.length_append, List.length_cons, List.length_nil, List.length_take, maxLen]; omega) | (simp only [List.length_append, List.length_cons, List.length_nil, List.length_take]; omega)) (by first | omega | (simp only [maxLen]; omega) | (simp only [List.length_append, List.length_cons, List.length_nil, List.length_take, maxLen]; omega) | (simp only [List.length_append, List.length_cons, List.length_nil, List.length_take]; omega)) (v8s (((((((numK 4 (hs.getD (m + 1) Hop.z).to.toNat) ++ numK 4 (hs.getD (m + 1) Hop.z).sy.toNat) ++ [(hs.getD (m + 1) Hop.z).cnt]) ++ [(hs.getD (m + 1) Hop.z).fl]) ++ [(hs.getD (m + 1) Hop.z).root.1].flatten) ++ [of8 (hs.getD (m + 1) Hop.z).ht]) ++ (sumF ((((msgB ⟨pf, pa, pb, pl, hv, hs⟩ m) ++ numK 4 (of64 (hs.getD m Hop.z).ix).toNat) ++ (hs.getD m Hop.z).chs.flatten) ++ (hs.getD m Hop.z).ps.flatten)).take (i + 1))) (by rw [take_getDU (by rw [hsl]; exact hi32), ← List.append_assoc]; exact (v8s_append _ _).symm)) rfl (fun b99 p99 => ?_)
        refine wpl_q (q_pure rfl) rfl ?_
        refine wpl_nil ?_
        refine ex_block ?_
        refine ex_then ?_
        refine wpc_region ?_
        refine wpl_q (q_pure rfl) rfl ?_
        refine wpl_q (q_addN (b := 1) rfl rfl (by first | omega | (simp only [maxLen]; omega) | (simp only [List.length_append, List.length_cons, List.length_nil, List.length_take, maxLen]; omega) | (simp only [List.length_append, List.length_cons, List.length_nil, List.length_take]; omega))) rfl ?_
        refine wpl_q (q_pure rfl) rfl ?_
        refine wpl_nil ?_
        refine ex_again ⟨(i + 1, b99), ⟨by dsimp only; omega, p99⟩⟩ ?_ ?_ ?_
        ·
         exact (by repeat (first | exact trivial | refine ⟨rfl, ?_⟩))
        ·
         exact fun w h => h.sel
        ·
         (show 32 - (i + 1) < 32 - i); omega
       ·
        simp only [decide_eq_false_iff_not] at hc91
        obtain rfl : i = 32 := by omega
        have hsl := sumF_length ((((msgB ⟨pf, pa, pb, pl, hv, hs⟩ m) ++ numK 4 (of64 (hs.getD m Hop.z).ix).toNat) ++ (hs.getD m Hop.z).chs.flatten) ++ (hs.getD m Hop.z).ps.flatten)
        refine wpc_exit ?_
        refine ex_then_exit ?_
        refine ex_then_exit ?_
        refine ex_block_hit ?_
        refine ex_then ?_
        refine wpc_seq ?_
        refine wpc_region ?_
        refine wpl_q (q_pure rfl) rfl ?_
        refine wpl_q (q_pure rfl) rfl ?_
        refine wpl_nil ?_
        refine ex_then ?_
        refine wpc_ret ?_
        refine ret1 (.inl rfl) rfl rfl ?_
        have hfe := msgS_eq ⟨pf, pa, pb, pl, hv, hs⟩ m _ _ rfl rfl
        have hfl : 59 = (msgB ⟨pf, pa, pb, pl, hv, hs⟩ (m + 1)).length := by rw [← hfe, List.length_append, a42_len, List.length_take, hsl]; rfl
        exact fun w h => ⟨v6, hfl ▸ hi1, rfl, h.below, by rw [← hfl, ← hfe]; exact h.made SubC.h .nil⟩
     ·
      refine wpa_t 8 rfl trivial (t_alloc Tryd.ti113 (v8s (List.replicate 32 0)) rfl) rfl (fun _ => (fun w h => .inr (h.sub SubC.h SubC.h))) (fun b9 => ?_)
      refine wpd_t 7 rfl (by kernel_rfl) trivial (t_pur Tryd.hb58 rfl fun w h => refSum b88 ((((msgB ⟨pf, pa, pb, pl, hv, hs⟩ m) ++ numK 4 (of64 (hs.getD m Hop.z).ix).toNat) ++ (hs.getD m Hop.z).chs.flatten) ++ (hs.getD m Hop.z).ps.flatten) w (Seen.re8 (show Seen w.cell? b88 ((msgB ⟨pf, pa, pb, pl, hv, hs⟩ m).length + 4 + (hs.getD m Hop.z).chs.length * 16 + (hs.getD m Hop.z).ps.length * 16) 1 (v8s ((((msgB ⟨pf, pa, pb, pl, hv, hs⟩ m) ++ numK 4 (of64 (hs.getD m Hop.z).ix).toNat) ++ (hs.getD m Hop.z).chs.flatten) ++ (hs.getD m Hop.z).ps.flatten)) from h.seen_row (by repeat (first | exact List.mem_cons_self .. | apply List.mem_cons_of_mem)))) (by rw [List.length_append, List.length_append, List.length_append, numK_len, flat_len16 hsm.2.1, flat_len16 hsm.2.2.2]; omega)) rfl (fun _ => (fun w h => .inr (h.sub SubC.h SubC.h))) (fun b89 => ?_)
      refine wpd_t0 9 rfl (by kernel_rfl) trivial (t_stA Tryd.ti113 rfl rfl (by rw [v8s_length]; exact sumF_length _) (v8s_one _) (by rw [v8s_length, List.length_replicate])) (fun _ => skk rfl) (fun _ => ?_)
      refine wpd_done (by kernel_rfl) ?_
      refine ex_then ?_
      refine wpc_seq ?_
      refine wpc_seq ?_
      refine wpc_region ?_
      refine wpl_q (q_pure rfl) rfl ?_
      refine wpl_nil ?_
      refine ex_then ?_
      refine wpc_block ?_
      refine wpc_loopc (ι := { x : Nat × Value // (x.1 ≤ 32) ∧ (SV x.2 (27 + x.1)) }) [(9, _)] (fun x Lc => (10, .int .i64 ((x.1.1 : Nat) : Int)) :: (6, x.1.2) :: Lc) (fun x => Mem w [] [.row x.1.2 (27 + x.1.1) 5 1 (v8s (((((((numK 4 (hs.getD (m + 1) Hop.z).to.toNat) ++ numK 4 (hs.getD (m + 1) Hop.z).sy.toNat) ++ [(hs.getD (m + 1) Hop.z).cnt]) ++ [(hs.getD (m + 1) Hop.z).fl]) ++ [(hs.getD (m + 1) Hop.z).root.1].flatten) ++ [of8 (hs.getD (m + 1) Hop.z).ht]) ++ (sumF ((((msgB ⟨pf, pa, pb, pl, hv, hs⟩ m) ++ numK 4 (of64 (hs.getD m Hop.z).ix).toNat) ++ (hs.getD m Hop.z).chs.flatten) ++ (hs.getD m Hop.z).ps.flatten)).take x.1.1)), .blk b9 113 (v8s (sumF ((((msgB ⟨pf, pa, pb, pl, hv, hs⟩ m) ++ numK 4 (of64 (hs.getD m Hop.z).ix).toNat) ++ (hs.getD m Hop.z).chs.flatten) ++ (hs.getD m Hop.z).ps.flatten)))] []) (fun x => 32 - x.1.1) ⟨(0, b42), ⟨Nat.zero_le _, p42⟩⟩ (by repeat (first | exact trivial | refine ⟨rfl, ?_⟩)) ?_ ?_
      ·
       exact fun w h => by
         dsimp only
         rw [List.take_zero, List.append_nil]
         exact h.sel
      ·
       rintro ⟨⟨i, v6⟩, ⟨hi0, hi1⟩⟩; try dsimp only
       have hi0 : i ≤ 32 := hi0; have hi1 : SV v6 (27 + i) := hi1
       refine wpc_seq ?_
       refine wpc_seq ?_
       refine wpc_region ?_
       refine wpl_q (q_pure rfl) rfl ?_
       refine wpl_q (q_pure rfl) rfl ?_
       refine wpl_nil ?_
       refine ex_then ?_
       refine wpc_cond rfl (fun hc91 => ?_) (fun hc91 => ?_)
       ·
        simp only [decide_eq_true_eq] at hc91
        have hi32 : i < 32 := by omega
        have hsl := sumF_length ((((msgB ⟨pf, pa, pb, pl, hv, hs⟩ m) ++ numK 4 (of64 (hs.getD m Hop.z).ix).toNat) ++ (hs.getD m Hop.z).chs.flatten) ++ (hs.getD m Hop.z).ps.flatten)
        refine wpc_skip ?_
        refine ex_then ?_
        refine wpc_seq ?_
        refine wpc_block ?_
        refine wpc_region ?_
        refine wpl_q (q_pure rfl) rfl ?_
        refine wpl_q (q_pure rfl) rfl ?_
        refine wpl_q (q_idxA1 Tryd.underlying113 Tryd.ti5 rfl rfl (by omega)) rfl ?_
        refine wpl_q (q_ld Tryd.underlying5 rfl rfl (v8s_get (by rw [hsl]; exact hi32))) rfl ?_
        refine wpl_tp (t_bsV (v8s [_]) Tryd.underlying32 Tryd.ti5 rfl rfl (by decide) (by decide) rfl (v8s_one _)) rfl (fun b98 p98 => ?_)
        refine wpl_tp (t_apW Tryd.underlying32 Tryd.ti5 rfl (by decide) rfl rfl (fun w h => by first | exact h.seenV | exact h.seenA (by first | decide | (simp only [maxLen]; omega)) (by first | (with_reducible exact key_len _ _ (by (first | with_reducible assumption | exact L16.h))) | with_reducible rfl | (simp only [v8s_length, v32s_length, vis_length, vns_length, v64s_length, List.length_replicate]; first | done | with_reducible assumption | omega) | (rw [v8s_length]; (first | with_reducible assumption | exact L16.h)) | rfl) | exact h.seen_old (by assumption) | exact h.seen_oldL (by assumption) (by assumption) | exact h.seen_fact (by repeat (first | exact List.mem_cons_self .. | apply List.mem_cons_of_mem))) OneC.h (by first | omega | (simp only [maxLen]; omega) | (simp only [List.length_append, List.length_cons, List.length_nil, List.length_take, maxLen]; omega) | (simp only [List.length_append, List.length_cons, List.length_nil, List.length_take]; omega)) (by first | omega | (simp only [maxLen]; omega) | (simp only [List.length_append, List.length_cons, List.length_nil, List.length_take, maxLen]; omega) | (simp only [List.length_append, List.length_cons, List.length_nil, List.length_take]; omega)) (v8s (((((((numK 4 (hs.getD (m + 1) Hop.z).to.toNat) ++ numK 4 (hs.getD (m + 1) Hop.z).sy.toNat) ++ [(hs.getD (m + 1) Hop.z).cnt]) ++ [(hs.getD (m + 1) Hop.z).fl]) ++ [(hs.getD (m + 1) Hop.z).root.1].flatten) ++ [of8 (hs.getD (m + 1) Hop.z).ht]) ++ (sumF ((((msgB ⟨pf, pa, pb, pl, hv, hs⟩ m) ++ numK 4 (of64 (hs.getD m Hop.z).ix).toNat) ++ (hs.getD m Hop.z).chs.flatten) ++ (hs.getD m Hop.z).ps.flatten)).take (i + 1))) (by rw [take_getDU (by rw [hsl]; exact hi32), ← List.append_assoc]; exact (v8s_append _ _).symm)) rfl (fun b99 p99 => ?_)
        refine wpl_q (q_pure rfl) rfl ?_
        refine wpl_nil ?_
        refine ex_block ?_
        refine ex_then ?_
        refine wpc_region ?_
        refine wpl_q (q_pure rfl) rfl ?_
        refine wpl_q (q_addN (b := 1) rfl rfl (by first | omega | (simp only [maxLen]; omega) | (simp only [List.length_append, List.length_cons, List.length_nil, List.length_take, maxLen]; omega) | (simp only [List.length_append, List.length_cons, List.length_nil, List.length_take]; omega))) rfl ?_
        refine wpl_q (q_pure rfl) rfl ?_
        refine wpl_nil ?_
        refine ex_again ⟨(i + 1, b99), ⟨by dsimp only; omega, p99⟩⟩ ?_ ?_ ?_
        ·
         exact (by repeat (first | exact trivial | refine ⟨rfl, ?_⟩))
        ·
         exact fun w h => h.sel
        ·
         (show 32 - (i + 1) < 32 - i); omega
       ·
        simp only [decide_eq_false_iff_not] at hc91
        obtain rfl : i = 32 := by omega
        have hsl := sumF_length ((((msgB ⟨pf, pa, pb, pl, hv, hs⟩ m) ++ numK 4 (of64 (hs.getD m Hop.z).ix).toNat) ++ (hs.getD m Hop.z).chs.flatten) ++ (hs.getD m Hop.z).ps.flatten)
        refine wpc_exit ?_
        refine ex_then_exit ?_
        refine ex_then_exit ?_
        refine ex_block_hit ?_
        refine ex_then ?_
        refine wpc_seq ?_
        refine wpc_region ?_
        refine wpl_q (q_pure rfl) rfl ?_
        refine wpl_q (q_pure rfl) rfl ?_
        refine wpl_nil ?_
        refine ex_then ?_
        refine wpc_ret ?_
        refine ret1 (.inl rfl) rfl rfl ?_
        have hfe := msgS_eq ⟨pf, pa, pb, pl, hv, hs⟩ m _ _ rfl rfl
        have hfl : 59 = (msgB ⟨pf, pa, pb, pl, hv, hs⟩ (m + 1)).length := by rw [← hfe, List.length_append, a42_len, List.length_take, hsl]; rfl
        exact fun w h => ⟨v6, hfl ▸ hi1, rfl, h.below, by rw [← hfl, ← hfe]; exact h.made SubC.h .nil⟩
    ·
     refine wpa_t 8 rfl trivial (t_alloc Tryd.ti113 (v8s (List.replicate 32 0)) rfl) rfl (fun _ => (fun w h => .inr (h.sub SubC.h SubC.h))) (fun b9 => ?_)
     refine wpd_tp 6 rfl (by kernel_rfl) trivial (t_callR (m := (msgB ⟨pf, pa, pb, pl, hv, hs⟩ m).length + 4 + (hs.getD m Hop.z).chs.length * 16) (m' := (msgB ⟨pf, pa, pb, pl, hv, hs⟩ m).length + 4 + (hs.getD m Hop.z).chs.length * 16 + (hs.getD m Hop.z).ps.length * 16) (xs := v8s (((msgB ⟨pf, pa, pb, pl, hv, hs⟩ m) ++ numK 4 (of64 (hs.getD m Hop.z).ix).toNat) ++ (hs.getD m Hop.z).chs.flatten)) (ys := v8s ((((msgB ⟨pf, pa, pb, pl, hv, hs⟩ m) ++ numK 4 (of64 (hs.getD m Hop.z).ix).toNat) ++ (hs.getD m Hop.z).chs.flatten) ++ (hs.getD m Hop.z).ps.flatten)) Tryd.hb57 rfl fun w h hr => shA b85 (((msgB ⟨pf, pa, pb, pl, hv, hs⟩ m) ++ numK 4 (of64 (hs.getD m Hop.z).ix).toNat) ++ (hs.getD m Hop.z).chs.flatten) (hs.getD m Hop.z).pv (hs.getD m Hop.z).ps ((msgB ⟨pf, pa, pb, pl, hv, hs⟩ m).length + 4 + (hs.getD m Hop.z).chs.length * 16) w hr (by rw [List.length_append, List.length_append, numK_len, flat_len16 hsm.2.1]) p85 (hsm.2.2.1.mono (rdo_nil h (by simp))) hsm.2.2.2 (by omega) (by omega)) rfl (fun _ => (fun w h => .inr (h.sub SubC.h SubC.h))) (fun b88 p88 => ?_)
     refine wpd_t 7 rfl (by kernel_rfl) trivial (t_pur Tryd.hb58 rfl fun w h => refSum b88 ((((msgB ⟨pf, pa, pb, pl, hv, hs⟩ m) ++ numK 4 (of64 (hs.getD m Hop.z).ix).toNat) ++ (hs.getD m Hop.z).chs.flatten) ++ (hs.getD m Hop.z).ps.flatten) w (Seen.re8 (show Seen w.cell? b88 ((msgB ⟨pf, pa, pb, pl, hv, hs⟩ m).length + 4 + (hs.getD m Hop.z).chs.length * 16 + (hs.getD m Hop.z).ps.length * 16) 1 (v8s ((((msgB ⟨pf, pa, pb, pl, hv, hs⟩ m) ++ numK 4 (of64 (hs.getD m Hop.z).ix).toNat) ++ (hs.getD m Hop.z).chs.flatten) ++ (hs.getD m Hop.z).ps.flatten)) from h.seen_row (by repeat (first | exact List.mem_cons_self .. | apply List.mem_cons_of_mem)))) (by rw [List.length_append, List.length_append, List.length_append, numK_len, flat_len16 hsm.2.1, flat_len16 hsm.2.2.2]; omega)) rfl (fun _ => (fun w h => .inr (h.sub SubC.h SubC.h))) (fun b89 => ?_)
     refine wpd_t0 9 rfl (by kernel_rfl) trivial (t_stA Tryd.ti113 rfl rfl (by rw [v8s_length]; exact sumF_length _) (v8s_one _) (by rw [v8s_length, List.length_replicate])) (fun _ => skk rfl) (fun _ => ?_)
     refine wpd_done (by kernel_rfl) ?_
     refine ex_then ?_
     refine wpc_seq ?_
     refine wpc_seq ?_
     refine wpc_region ?_
     refine wpl_q (q_pure rfl) rfl ?_
     refine wpl_nil ?_
     refine ex_then ?_
     refine wpc_block ?_
     refine wpc_loopc (ι := { x : Nat × Value // (x.1 ≤ 32) ∧ (SV x.2 (27 + x.1)) }) [(9, _)] (fun x Lc => (10, .int .i64 ((x.1.1 : Nat) : Int)) :: (6, x.1.2) :: Lc) (fun x => Mem w [] [.row x.1.2 (27 + x.1.1) 5 1 (v8s (((((((numK 4 (hs.getD (m + 1) Hop.z).to.toNat) ++ numK 4 (hs.getD (m + 1) Hop.z).sy.toNat) ++ [(hs.getD (m + 1) Hop.z).cnt]) ++ [(hs.getD (m + 1) Hop.z).fl]) ++ [(hs.getD (m + 1) Hop.z).root.1].flatten) ++ [of8 (hs.getD (m + 1) Hop.z).ht]) ++ (sumF ((((msgB ⟨pf, pa, pb, pl, hv, hs⟩ m) ++ numK 4 (of64 (hs.getD m Hop.z).ix).toNat) ++ (hs.getD m Hop.z).chs.flatten) ++ (hs.getD m Hop.z).ps.flatten)).take x.1.1)), .blk b9 113 (v8s (sumF ((((msgB ⟨pf, pa, pb, pl, hv, hs⟩ m) ++ numK 4 (of64 (hs.getD m Hop.z).ix).toNat) ++ (hs.getD m Hop.z).chs.flatten) ++ (hs.getD m Hop.z).ps.flatten)))] []) (fun x => 32 - x.1.1) ⟨(0, b42), ⟨Nat.zero_le _, p42⟩⟩ (by repeat (first | exact trivial | refine ⟨rfl, ?_⟩)) ?_ ?_
     ·
      exact fun w h => by
        dsimp only
        rw [List.take_zero, List.append_nil]
        exact h.sel
     ·
      rintro ⟨⟨i, v6⟩, ⟨hi0, hi1⟩⟩; try dsimp only
      have hi0 : i ≤ 32 := hi0; have hi1 : SV v6 (27 + i) := hi1
      refine wpc_seq ?_
      refine wpc_seq ?_
      refine wpc_region ?_
      refine wpl_q (q_pure rfl) rfl ?_
      refine wpl_q (q_pure rfl) rfl ?_
      refine wpl_nil ?_
      refine ex_then ?_
      refine wpc_cond rfl (fun hc91 => ?_) (fun hc91 => ?_)
      ·
       simp only [decide_eq_true_eq] at hc91
       have hi32 : i < 32 := by omega
       have hsl := sumF_length ((((msgB ⟨pf, pa, pb, pl, hv, hs⟩ m) ++ numK 4 (of64 (hs.getD m Hop.z).ix).toNat) ++ (hs.getD m Hop.z).chs.flatten) ++ (hs.getD m Hop.z).ps.flatten)
       refine wpc_skip ?_
       refine ex_then ?_
       refine wpc_seq ?_
       refine wpc_block ?_
       refine wpc_region ?_
       refine wpl_q (q_pure rfl) rfl ?_
       refine wpl_q (q_pure rfl) rfl ?_
       refine wpl_q (q_idxA1 Tryd.underlying113 Tryd.ti5 rfl rfl (by omega)) rfl ?_
       refine wpl_q (q_ld Tryd.underlying5 rfl rfl (v8s_get (by rw [hsl]; exact hi32))) rfl ?_
       refine wpl_tp (t_bsV (v8s [_]) Tryd.underlying32 Tryd.ti5 rfl rfl (by decide) (by decide) rfl (v8s_one _)) rfl (fun b98 p98 => ?_)
       refine wpl_tp (t_apW Tryd.underlying32 Tryd.ti5 rfl (by decide) rfl rfl (fun w h => by first | exact h.seenV | exact h.seenA (by first | decide | (simp only [maxLen]; omega)) (by first | (with_reducible exact key_len _ _ (by (first | with_reducible assumption | exact L16.h))) | with_reducible rfl | (simp only [v8s_length, v32s_length, vis_length, vns_length, v64s_length, List.length_replicate]; first | done | with_reducible assumption | omega) | (rw [v8s_length]; (first | with_reducible assumption | exact L16.h)) | rfl) | exact h.seen_old (by assumption) | exact h.seen_oldL (by assumption) (by assumption) | exact h.seen_fact (by repeat (first | exact List.mem_cons_self .. | apply List.mem_cons_of_mem))) OneC.h (by first | omega | (simp only [maxLen]; omega) | (simp only [List.length_append, List.length_cons, List.length_nil, List.length_take, maxLen]; omega) | (simp only [List.length_append, List.length_cons, List.length_nil, List.length_take]; omega)) (by first | omega | (simp only [maxLen]; omega) | (simp only [List.length_append, List.length_cons, List.length_nil, List.length_take, maxLen]; omega) | (simp only [List.length_append, List.length_cons, List.length_nil, List.length_take]; omega)) (v8s (((((((numK 4 (hs.getD (m + 1) Hop.z).to.toNat) ++ numK 4 (hs.getD (m + 1) Hop.z).sy.toNat) ++ [(hs.getD (m + 1) Hop.z).cnt]) ++ [(hs.getD (m + 1) Hop.z).fl]) ++ [(hs.getD (m + 1) Hop.z).root.1].flatten) ++ [of8 (hs.getD (m + 1) Hop.z).ht]) ++ (sumF ((((msgB ⟨pf, pa, pb, pl, hv, hs⟩ m) ++ numK 4 (of64 (hs.getD m Hop.z).ix).toNat) ++ (hs.getD m Hop.z).chs.flatten) ++ (hs.getD m Hop.z).ps.flatten)).take (i + 1))) (by rw [take_getDU (by rw [hsl]; exact hi32), ← List.append_assoc]; exact (v8s_append _ _).symm)) rfl (fun b99 p99 => ?_)
       refine wpl_q (q_pure rfl) rfl ?_
       refine wpl_nil ?_
       refine ex_block ?_
       refine ex_then ?_
       refine wpc_region ?_
       refine wpl_q (q_pure rfl) rfl ?_
       refine wpl_q (q_addN (b := 1) rfl rfl (by first | omega | (simp only [maxLen]; omega) | (simp only [List.length_append, List.length_cons, List.length_nil, List.length_take, maxLen]; omega) | (simp only [List.length_append, List.length_cons, List.length_nil, List.length_take]; omega))) rfl ?_
       refine wpl_q (q_pure rfl) rfl ?_
       refine wpl_nil ?_
       refine ex_again ⟨(i + 1, b99), ⟨by dsimp only; omega, p99⟩⟩ ?_ ?_ ?_
       ·
        exact (by repeat (first | exact trivial | refine ⟨rfl, ?_⟩))
       ·
        exact fun w h => h.sel
       ·
        (show 32 - (i + 1) < 32 - i); omega
      ·
       simp only [decide_eq_false_iff_not] at hc91
       obtain rfl : i = 32 := by omega
       have hsl := sumF_length ((((msgB ⟨pf, pa, pb, pl, hv, hs⟩ m) ++ numK 4 (of64 (hs.getD m Hop.z).ix).toNat) ++ (hs.getD m Hop.z).chs.flatten) ++ (hs.getD m Hop.z).ps.flatten)
       refine wpc_exit ?_
       refine ex_then_exit ?_
       refine ex_then_exit ?_
       refine ex_block_hit ?_
       refine ex_then ?_
       refine wpc_seq ?_
       refine wpc_region ?_
       refine wpl_q (q_pure rfl) rfl ?_
       refine wpl_q (q_pure rfl) rfl ?_
       refine wpl_nil ?_
       refine ex_then ?_
       refine wpc_ret ?_
       refine ret1 (.inl rfl) rfl rfl ?_
       have hfe := msgS_eq ⟨pf, pa, pb, pl, hv, hs⟩ m _ _ rfl rfl
       have hfl : 59 = (msgB ⟨pf, pa, pb, pl, hv, hs⟩ (m + 1)).length := by rw [← hfe, List.length_append, a42_len, List.length_take, hsl]; rfl
       exact fun w h => ⟨v6, hfl ▸ hi1, rfl, h.below, by rw [← hfl, ← hfe]; exact h.made SubC.h .nil⟩
   ·
    refine wpa_t 8 rfl trivial (t_alloc Tryd.ti113 (v8s (List.replicate 32 0)) rfl) rfl (fun _ => (fun w h => .inr (h.sub SubC.h SubC.h))) (fun b9 => ?_)
    refine wpd_tp 3 rfl (by kernel_rfl) trivial (t_callR (m := (msgB ⟨pf, pa, pb, pl, hv, hs⟩ m).length + 4) (m' := (msgB ⟨pf, pa, pb, pl, hv, hs⟩ m).length + 4 + (hs.getD m Hop.z).chs.length * 16) (xs := v8s ((msgB ⟨pf, pa, pb, pl, hv, hs⟩ m) ++ numK 4 (of64 (hs.getD m Hop.z).ix).toNat)) (ys := v8s (((msgB ⟨pf, pa, pb, pl, hv, hs⟩ m) ++ numK 4 (of64 (hs.getD m Hop.z).ix).toNat) ++ (hs.getD m Hop.z).chs.flatten)) Tryd.hb57 rfl fun w h hr => shA b81 ((msgB ⟨pf, pa, pb, pl, hv, hs⟩ m) ++ numK 4 (of64 (hs.getD m Hop.z).ix).toNat) (hs.getD m Hop.z).cv (hs.getD m Hop.z).chs ((msgB ⟨pf, pa, pb, pl, hv, hs⟩ m).length + 4) w hr (by rw [List.length_append, numK_len]) p81 (hsm.1.mono (rdo_nil h (by simp))) hsm.2.1 (by omega) (by omega)) rfl (fun _ => (fun w h => .inr (h.sub SubC.h SubC.h))) (fun b85 p85 => ?_)
    refine wpd_tp 6 rfl (by kernel_rfl) trivial (t_callR (m := (msgB ⟨pf, pa, pb, pl, hv, hs⟩ m).length + 4 + (hs.getD m Hop.z).chs.length * 16) (m' := (msgB ⟨pf, pa, pb, pl, hv, hs⟩ m).length + 4 + (hs.getD m Hop.z).chs.length * 16 + (hs.getD m Hop.z).ps.length * 16) (xs := v8s (((msgB ⟨pf, pa, pb, pl, hv, hs⟩ m) ++ numK 4 (of64 (hs.getD m Hop.z).ix).toNat) ++ (hs.getD m Hop.z).chs.flatten)) (ys := v8s ((((msgB ⟨pf, pa, pb, pl, hv, hs⟩ m) ++ numK 4 (of64 (hs.getD m Hop.z).ix).toNat) ++ (hs.getD m Hop.z).chs.flatten) ++ (hs.getD m Hop.z).ps.flatten)) Tryd.hb57 rfl fun w h hr => shA b85 (((msgB ⟨pf, pa, pb, pl, hv, hs⟩ m) ++ numK 4 (of64 (hs.getD m Hop.z).ix).toNat) ++ (hs.getD m Hop.z).chs.flatten) (hs.getD m Hop.z).pv (hs.getD m Hop.z).ps ((msgB ⟨pf, pa, pb, pl, hv, hs⟩ m).length + 4 + (hs.getD m Hop.z).chs.length * 16) w hr (by rw [List.length_append, List.length_append, numK_len, flat_len16 hsm.2.1]) p85 (hsm.2.2.1.mono (rdo_nil h (by simp))) hsm.2.2.2 (by omega) (by omega)) rfl (fun _ => (fun w h => .inr (h.sub SubC.h SubC.h))) (fun b88 p88 => ?_)
    refine wpd_t 7 rfl (by kernel_rfl) trivial (t_pur Tryd.hb58 rfl fun w h => refSum b88 ((((msgB ⟨pf, pa, pb, pl, hv, hs⟩ m) ++ numK 4 (of64 (hs.getD m Hop.z).ix).toNat) ++ (hs.getD m Hop.z).chs.flatten) ++ (hs.getD m Hop.z).ps.flatten) w (Seen.re8 (show Seen w.cell? b88 ((msgB ⟨pf, pa, pb, pl, hv, hs⟩ m).length + 4 + (hs.getD m Hop.z).chs.length * 16 + (hs.getD m Hop.z).ps.length * 16) 1 (v8s ((((msgB ⟨pf, pa, pb, pl, hv, hs⟩ m) ++ numK 4 (of64 (hs.getD m Hop.z).ix).toNat) ++ (hs.getD m Hop.z).chs.flatten) ++ (hs.getD m Hop.z).ps.flatten)) from h.seen_row (by repeat (first | exact List.mem_cons_self .. | apply List.mem_cons_of_mem)))) (by rw [List.length_append, List.length_append, List.length_append, numK_len, flat_len16 hsm.2.1, flat_len16 hsm.2.2.2]; omega)) rfl (fun _ => (fun w h => .inr (h.sub SubC.h SubC.h))) (fun b89 => ?_)
    refine wpd_t0 9 rfl (by kernel_rfl) trivial (t_stA Tryd.ti113 rfl rfl (by rw [v8s_length]; exact sumF_length _) (v8s_one _) (by rw [v8s_length, List.length_replicate])) (fun _ => skk rfl) (fun _ => ?_)
    refine wpd_done (by kernel_rfl) ?_
    refine ex_then ?_
    refine wpc_seq ?_
    refine wpc_seq ?_
    refine wpc_region ?_
    refine wpl_q (q_pure rfl) rfl ?_
    refine wpl_nil ?_
    refine ex_then ?_
    refine wpc_block ?_
    refine wpc_loopc (ι := { x : Nat × Value // (x.1 ≤ 32) ∧ (SV x.2 (27 + x.1)) }) [(9, _)] (fun x Lc => (10, .int .i64 ((x.1.1 : Nat) : Int)) :: (6, x.1.2) :: Lc) (fun x => Mem w [] [.row x.1.2 (27 + x.1.1) 5 1 (v8s (((((((numK 4 (hs.getD (m + 1) Hop.z).to.toNat) ++ numK 4 (hs.getD (m + 1) Hop.z).sy.toNat) ++ [(hs.getD (m + 1) Hop.z).cnt]) ++ [(hs.getD (m + 1) Hop.z).fl]) ++ [(hs.getD (m + 1) Hop.z).root.1].flatten) ++ [of8 (hs.getD (m + 1) Hop.z).ht]) ++ (sumF ((((msgB ⟨pf, pa, pb, pl, hv, hs⟩ m) ++ numK 4 (of64 (hs.getD m Hop.z).ix).toNat) ++ (hs.getD m Hop.z).chs.flatten) ++ (hs.getD m Hop.z).ps.flatten)).take x.1.1)), .blk b9 113 (v8s (sumF ((((msgB ⟨pf, pa, pb, pl, hv, hs⟩ m) ++ numK 4 (of64 (hs.getD m Hop.z).ix).toNat) ++ (hs.getD m Hop.z).chs.flatten) ++ (hs.getD m Hop.z).ps.flatten)))] []) (fun x => 32 - x.1.1) ⟨(0, b42), ⟨Nat.zero_le _, p42⟩⟩ (by repeat (first | exact trivial | refine ⟨rfl, ?_⟩)) ?_ ?_
    ·
     exact fun w h => by
       dsimp only
       rw [List.take_zero, List.append_nil]
       exact h.sel
    ·
     rintro ⟨⟨i, v6⟩, ⟨hi0, hi1⟩⟩; try dsimp only
     have hi0 : i ≤ 32 := hi0; have hi1 : SV v6 (27 + i) := hi1
     refine wpc_seq ?_
     refine wpc_seq ?_
     refine wpc_region ?_
     refine wpl_q (q_pure rfl) rfl ?_
     refine wpl_q (q_pure rfl) rfl ?_
     refine wpl_nil ?_
     refine ex_then ?_
     refine wpc_cond rfl (fun hc91 => ?_) (fun hc91 => ?_)
     ·
      simp only [decide_eq_true_eq] at hc91
      have hi32 : i < 32 := by omega
      have hsl := sumF_length ((((msgB ⟨pf, pa, pb, pl, hv, hs⟩ m) ++ numK 4 (of64 (hs.getD m Hop.z).ix).toNat) ++ (hs.getD m Hop.z).chs.flatten) ++ (hs.getD m Hop.z).ps.flatten)
      refine wpc_skip ?_
      refine ex_then ?_
      refine wpc_seq ?_
      refine wpc_block ?_
      refine wpc_region ?_
      refine wpl_q (q_pure rfl) rfl ?_
      refine wpl_q (q_pure rfl) rfl ?_
      refine wpl_q (q_idxA1 Tryd.underlying113 Tryd.ti5 rfl rfl (by omega)) rfl ?_
      refine wpl_q (q_ld Tryd.underlying5 rfl rfl (v8s_get (by rw [hsl]; exact hi32))) rfl ?_
      refine wpl_tp (t_bsV (v8s [_]) Tryd.underlying32 Tryd.ti5 rfl rfl (by decide) (by decide) rfl (v8s_one _)) rfl (fun b98 p98 => ?_)
      refine wpl_tp (t_apW Tryd.underlying32 Tryd.ti5 rfl (by decide) rfl rfl (fun w h => by first | exact h.seenV | exact h.seenA (by first | decide | (simp only [maxLen]; omega)) (by first | (with_reducible exact key_len _ _ (by (first | with_reducible assumption | exact L16.h))) | with_reducible rfl | (simp only [v8s_length, v32s_length, vis_length, vns_length, v64s_length, List.length_replicate]; first | done | with_reducible assumption | omega) | (rw [v8s_length]; (first | with_reducible assumption | exact L16.h)) | rfl) | exact h.seen_old (by assumption) | exact h.seen_oldL (by assumption) (by assumption) | exact h.seen_fact (by repeat (first | exact List.mem_cons_self .. | apply List.mem_cons_of_mem))) OneC.h (by first | omega | (simp only [maxLen]; omega) | (simp only [List.length_append, List.length_cons, List.length_nil, List.length_take, maxLen]; omega) | (simp only [List.length_append, List.length_cons, List.length_nil, List.length_take]; omega)) (by first | omega | (simp only [maxLen]; omega) | (simp only [List.length_append, List.length_cons, List.length_nil, List.length_take, maxLen]; omega) | (simp only [List.length_append, List.length_cons, List.length_nil, List.length_take]; omega)) (v8s (((((((numK 4 (hs.getD (m + 1) Hop.z).to.toNat) ++ numK 4 (hs.getD (m + 1) Hop.z).sy.toNat) ++ [(hs.getD (m + 1) Hop.z).cnt]) ++ [(hs.getD (m + 1) Hop.z).fl]) ++ [(hs.getD (m + 1) Hop.z).root.1].flatten) ++ [of8 (hs.getD (m + 1) Hop.z).ht]) ++ (sumF ((((msgB ⟨pf, pa, pb, pl, hv, hs⟩ m) ++ numK 4 (of64 (hs.getD m Hop.z).ix).toNat) ++ (hs.getD m Hop.z).chs.flatten) ++ (hs.getD m Hop.z).ps.flatten)).take (i + 1))) (by rw [take_getDU (by rw [hsl]; exact hi32), ← List.append_assoc]; exact (v8s_append _ _).symm)) rfl (fun b99 p99 => ?_)
      refine wpl_q (q_pure rfl) rfl ?_
      refine wpl_nil ?_
      refine ex_block ?_
      refine ex_then ?_
      refine wpc_region ?_
      refine wpl_q (q_pure rfl) rfl ?_
      refine wpl_q (q_addN (b := 1) rfl rfl (by first | omega | (simp only [maxLen]; omega) | (simp only [List.length_append, List.length_cons, List.length_nil, List.length_take, maxLen]; omega) | (simp only [List.length_append, List.length_cons, List.length_nil, List.length_take]; omega))) rfl ?_
      refine wpl_q (q_pure rfl) rfl ?_
      refine wpl_nil ?_
      refine ex_again ⟨(i + 1, b99), ⟨by dsimp only; omega, p99⟩⟩ ?_ ?_ ?_
      ·
       exact (by repeat (first | exact trivial | refine ⟨rfl, ?_⟩))
      ·
       exact fun w h => h.sel
      ·
       (show 32 - (i + 1) < 32 - i); omega
     ·
      simp only [decide_eq_false_iff_not] at hc91
      obtain rfl : i = 32 := by omega
      have hsl := sumF_length ((((msgB ⟨pf, pa, pb, pl, hv, hs⟩ m) ++ numK 4 (of64 (hs.getD m Hop.z).ix).toNat) ++ (hs.getD m Hop.z).chs.flatten) ++ (hs.getD m Hop.z).ps.flatten)
      refine wpc_exit ?_
      refine ex_then_exit ?_
      refine ex_then_exit ?_
      refine ex_block_hit ?_
      refine ex_then ?_
      refine wpc_seq ?_
      refine wpc_region ?_
      refine wpl_q (q_pure rfl) rfl ?_
      refine wpl_q (q_pure rfl) rfl ?_
      refine wpl_nil ?_
      refine ex_then ?_
      refine wpc_ret ?_
      refine ret1 (.inl rfl) rfl rfl ?_
      have hfe := msgS_eq ⟨pf, pa, pb, pl, hv, hs⟩ m _ _ rfl rfl
      have hfl : 59 = (msgB ⟨pf, pa, pb, pl, hv, hs⟩ (m + 1)).length := by rw [← hfe, List.length_append, a42_len, List.length_take, hsl]; rfl
      exact fun w h => ⟨v6, hfl ▸ hi1, rfl, h.below, by rw [← hfl, ← hfe]; exact h.made SubC.h .nil⟩

end Go.Proofs.YtjpfhkjmjnjggaaDoor

namespace Go.Proofs.YtjpfhkjmjnjggaaDoor
set_option linter.unusedSimpArgs false
set_option linter.unusedVariables false
open Go Go.PL Go.RowKit

theorem refMessage (p : Pth) (hlim : SmP p) : ∀ (j : Nat) (w : World) (hp : p.seen w.cell?) (hj : j < p.hs.length), Calls Tryd.prog 39 [.agg p.c.toArray, .int .i64 ((j : Nat) : Int)].toArray w (GivesP w (fun v => SV v (msgB p j).length) (fun v => v) (fun v => [.row v (msgB p j).length 5 1 (v8s (msgB p j))]) (fun _ => []))
  | 0, w, hp, hj => refMessage_step p 0 w hp hj hlim fun m hm => by cases hm
  | j + 1, w, hp, hj => refMessage_step p (j + 1) w hp hj hlim fun m hm w hp => by
    cases hm
    exact refMessage p hlim j w hp (by omega)

set_option maxRecDepth 100000 in
theorem refMessage42 (p : Pth) (i : Int) (w : World) (hp : p.seen w.cell?) (hlim : SmP p) (hG : Glb w) :
    Calls Tryd.prog 14 [.agg p.c.toArray, .int .i64 i].toArray w (GivesP w (fun v => SV v (msgV p i).length) (fun v => .tuple #[v, .int .i64 (msgE p i)]) (fun v => [.row v (msgV p i).length 5 1 (v8s (msgV p i))]) (fun _ => [])) := by
  obtain ⟨pf, pa, pb, pl, hv, hs⟩ := p
  have hh : Seen w.cell? hv hs.length 24 (hcs hs) := hp.1
  have svh := hh.sv
  have lh := svh.le
  simp only [maxLen] at lh
  refine enter (m := 28) (R := Mem w [] [] []) Tryd.func14 rfl rfl (Nat.le_of_ble_eq_true rfl) (Mem.start w) ?_
  refine wpc_seq ?_
  refine wpc_region ?_
  refine wpl_t (t_box rfl [.int .u8 (pf.toNat : Int), .int .u64 (pa.toNat : Int), .int .u64 (pb.toNat : Int), .int .i64 pl, hv] rfl) rfl (fun b2 => ?_)
  refine wpl_q (q_pure rfl) rfl ?_
  refine wpl_q (q_pure rfl) rfl ?_
  refine wpl_nil ?_
  refine ex_then ?_
  refine wpc_seq ?_
  refine wpc_region ?_
  refine wpl_q (q_ldN Tryd.underlying29 rfl Tryd.ti29 rfl LenC.h) rfl ?_
  refine wpl_t (t_pur Tryd.hb18 rfl fun w h => refCheck42 ⟨pf, pa, pb, pl, hv, hs⟩ w (hp.old h)) rfl (fun b8 => ?_)
  refine wpl_q (q_pure rfl) rfl ?_
  refine wpl_nil ?_
  refine ex_then ?_
  refine wpc_cutc ({ x : Int // (x = msgE ⟨pf, pa, pb, pl, hv, hs⟩ i) }) [(1, .int .i64 i), (2, .pointer (some ⟨b2, 0, none⟩))] (fun x Lc => (6, .int .i64 x.1) :: Lc) (fun x => Mem w [] [.blk b2 29 [.int .u8 (pf.toNat : Int), .int .u64 (pa.toNat : Int), .int .u64 (pb.toNat : Int), .int .i64 pl, hv]] []) ?_ ?_
  ·
   refine wpc_seq ?_
   refine wpc_region ?_
   refine wpl_q (q_pure rfl) rfl ?_
   refine wpl_q (q_pure rfl) rfl ?_
   refine wpl_q (q_pure rfl) rfl ?_
   refine wpl_bool2 11 10 rfl rfl (fun hb11 => ?_) (fun hb11 => ?_)
   ·
    have hk0 : chkP ⟨pf, pa, pb, pl, hv, hs⟩ = 0 := by simpa using hb11
    refine wpl_on rfl rfl ?_
    refine wpl_q (q_pure rfl) rfl ?_
    refine wpl_on rfl rfl ?_
    refine wpl_q (q_pure rfl) rfl ?_
    refine wpl_on rfl rfl ?_
    refine wpl_q (q_pure rfl) rfl ?_
    refine wpl_bool2 14 13 rfl rfl (fun hb14 => ?_) (fun hb14 => ?_)
    ·
     have hX : 2 = msgE ⟨pf, pa, pb, pl, hv, hs⟩ i := (msgE_arg hk0 (.inl (by simpa using hb14))).symm
     refine wpl_off rfl rfl rfl rfl ?_
     refine wpl_off rfl rfl rfl rfl ?_
     refine wpl_off rfl rfl rfl rfl ?_
     refine wpl_off rfl rfl rfl rfl ?_
     refine wpl_off rfl rfl rfl rfl ?_
     refine wpl_on rfl rfl ?_
     refine wpl_q (q_pure rfl) rfl ?_
     refine wpl_q (q_pure rfl) rfl ?_
     refine wpl_nil ?_
     refine ex_then ?_
     refine wpc_cond_t rfl ?_
     refine wpc_region ?_
     refine wpl_q (q_pure rfl) rfl ?_
     refine wpl_nil ?_
     refine ex_mid ⟨2, hX⟩ ?_ ?_
     ·
      exact (by repeat (first | exact trivial | refine ⟨rfl, ?_⟩))
     ·
      exact fun w h => by first | exact h | exact h.sub SubC.h SubC.h | exact h.sub (by repeat (first | exact Sub.nil | exact Sub.refl _ | with_reducible refine Sub.keep ?_ | refine Sub.drop ?_)) (by repeat (first | exact Sub.nil | exact Sub.refl _ | with_reducible refine Sub.keep ?_ | refine Sub.drop ?_))
    ·
     have hn1 : ¬ i < 0 := by simpa using hb14
     refine wpl_on rfl rfl ?_
     refine wpl_q (q_pure rfl) rfl ?_
     refine wpl_on rfl rfl ?_
     refine wpl_q (q_field Tryd.underlying29 rfl Tryd.ti27 rfl rfl _ rfl) rfl ?_
     refine wpl_on rfl rfl ?_
     refine wpl_q (q_ld Tryd.underlying27 rfl rfl rfl) rfl ?_
     refine wpl_on rfl rfl ?_
     refine wpl_q (q_lenW Tryd.underlying27 rfl (by first | assumption | exact SV.nil | exact SV.slv (by assumption) (by omega) (by omega) | exact arv_sv (by first | decide | (simp only [maxLen]; omega)))) rfl ?_
     refine wpl_on rfl rfl ?_
     refine wpl_q (q_pure rfl) rfl ?_
     refine wpl_on rfl rfl ?_
     refine wpl_q (q_pure rfl) rfl ?_
     refine wpl_q (q_pure rfl) rfl ?_
     refine wpl_nil ?_
     refine ex_then ?_
     refine wpc_cond rfl (fun hc21 => ?_) (fun hc21 => ?_)
     ·
      have hX : 2 = msgE ⟨pf, pa, pb, pl, hv, hs⟩ i := (msgE_arg hk0 (.inr (by simpa using hc21))).symm
      refine wpc_region ?_
      refine wpl_q (q_pure rfl) rfl ?_
      refine wpl_nil ?_
      refine ex_mid ⟨2, hX⟩ ?_ ?_
      ·
       exact (by repeat (first | exact trivial | refine ⟨rfl, ?_⟩))
      ·
       exact fun w h => by first | exact h | exact h.sub SubC.h SubC.h | exact h.sub (by repeat (first | exact Sub.nil | exact Sub.refl _ | with_reducible refine Sub.keep ?_ | refine Sub.drop ?_)) (by repeat (first | exact Sub.nil | exact Sub.refl _ | with_reducible refine Sub.keep ?_ | refine Sub.drop ?_))
     ·
      have hn2 : ¬ (hs.length : Int) ≤ i := by simpa using hc21
      have hX : chkP ⟨pf, pa, pb, pl, hv, hs⟩ = msgE ⟨pf, pa, pb, pl, hv, hs⟩ i := hk0.trans (msgE_ok (p := ⟨pf, pa, pb, pl, hv, hs⟩) hk0 hn1 hn2).symm
      refine wpc_skip ?_
      refine ex_mid ⟨chkP ⟨pf, pa, pb, pl, hv, hs⟩, hX⟩ ?_ ?_
      ·
       exact (by repeat (first | exact trivial | refine ⟨rfl, ?_⟩))
      ·
       exact fun w h => by first | exact h | exact h.sub SubC.h SubC.h | exact h.sub (by repeat (first | exact Sub.nil | exact Sub.refl _ | with_reducible refine Sub.keep ?_ | refine Sub.drop ?_)) (by repeat (first | exact Sub.nil | exact Sub.refl _ | with_reducible refine Sub.keep ?_ | refine Sub.drop ?_))
   ·
    have hk : chkP ⟨pf, pa, pb, pl, hv, hs⟩ ≠ 0 := by simpa using hb11
    have hX : chkP ⟨pf, pa, pb, pl, hv, hs⟩ = msgE ⟨pf, pa, pb, pl, hv, hs⟩ i := (msgE_chk hk).symm
    refine wpl_off rfl rfl rfl rfl ?_
    refine wpl_off rfl rfl rfl rfl ?_
    refine wpl_off rfl rfl rfl rfl ?_
    refine wpl_off rfl rfl rfl rfl ?_
    refine wpl_off rfl rfl rfl rfl ?_
    refine wpl_off rfl rfl rfl rfl ?_
    refine wpl_off rfl rfl rfl rfl ?_
    refine wpl_off rfl rfl rfl rfl ?_
    refine wpl_off rfl rfl rfl rfl ?_
    refine wpl_q (q_pure rfl) rfl ?_
    refine wpl_nil ?_
    refine ex_then ?_
    refine wpc_cond_f rfl ?_
    refine wpc_skip ?_
    refine ex_mid ⟨chkP ⟨pf, pa, pb, pl, hv, hs⟩, hX⟩ ?_ ?_
    ·
     exact (by repeat (first | exact trivial | refine ⟨rfl, ?_⟩))
    ·
     exact fun w h => by first | exact h | exact h.sub SubC.h SubC.h | exact h.sub (by repeat (first | exact Sub.nil | exact Sub.refl _ | with_reducible refine Sub.keep ?_ | refine Sub.drop ?_)) (by repeat (first | exact Sub.nil | exact Sub.refl _ | with_reducible refine Sub.keep ?_ | refine Sub.drop ?_))
  ·
   rintro ⟨e, hi0⟩; try dsimp only
   have hi0 : e = msgE ⟨pf, pa, pb, pl, hv, hs⟩ i := hi0
   refine wpc_seq ?_
   refine wpc_seq ?_
   refine wpc_region ?_
   refine wpl_q (q_pure rfl) rfl ?_
   refine wpl_q (q_pure rfl) rfl ?_
   refine wpl_nil ?_
   refine ex_then ?_
   refine wpc_cond rfl (fun hc23 => ?_) (fun hc23 => ?_)
   ·
    have hE0 : msgE ⟨pf, pa, pb, pl, hv, hs⟩ i ≠ 0 := by rw [← hi0]; simpa using hc23
    refine wpc_seq ?_
    refine wpc_region ?_
    refine wpl_q (q_pure rfl) rfl ?_
    refine wpl_q (q_pure rfl) rfl ?_
    refine wpl_q (q_pure rfl) rfl ?_
    refine wpl_nil ?_
    refine ex_then ?_
    refine wpc_ret ?_
    refine ex_then_ret ?_
    refine ret2 (.inl rfl) rfl rfl rfl ?_
    exact fun w h => ⟨.slice none 0 0, by rw [msgV_no hE0]; exact SV.nil, by rw [hi0], h.below, (nilRow0 h hE0).made SubC.h .nil⟩
   ·
    have hE : msgE ⟨pf, pa, pb, pl, hv, hs⟩ i = 0 := by rw [← hi0]; simpa using hc23
    obtain ⟨j, rfl, hj⟩ := msgE_inv hE
    refine wpc_skip ?_
    refine ex_then ?_
    refine wpc_seq ?_
    refine wpc_region ?_
    refine wpl_q (q_ldN Tryd.underlying29 rfl Tryd.ti29 rfl LenC.h) rfl ?_
    refine wpl_q (q_pure rfl) rfl ?_
    refine wpl_tp (t_callP1 Tryd.hb39 rfl fun w h => refMessage ⟨pf, pa, pb, pl, hv, hs⟩ hlim j w (hp.old h) hj) rfl (fun b27 p27 => ?_)
    refine wpl_q (q_pure rfl) rfl ?_
    refine wpl_q (q_pure rfl) rfl ?_
    refine wpl_nil ?_
    refine ex_then ?_
    refine wpc_ret ?_
    refine ret2 (.inl rfl) rfl rfl rfl ?_
    exact fun w h => ⟨b27, by rw [msgV_ok hE]; exact p27, by rw [hE], h.below, by rw [msgV_ok hE]; exact h.made SubC.h .nil⟩

end Go.Proofs.YtjpfhkjmjnjggaaDoor

namespace Go.Proofs.YtjpfhkjmjnjggaaDoor
set_option linter.unusedSimpArgs false
set_option linter.unusedVariables false
open Go Go.PL Go.RowKit

/-- A copy into the whole of a row of one's own. -/
theorem t_copyA {P : Program} {Q : Exit → Act → World → Prop} {n : Cx} {L : Slots} {w0 : World} {Ln : List Nat} {M : List Ent} {S : List Fact} {dT sT e : TypeId} {x y : Operand} {v u : Value} {m mu : Nat} {xs vs : List Value} {f : Ent → List Ent} {z : Value} {by_ : Nat} (hu : P.underlying dT = some (.slice e)) (he : TyI P e z 1 by_)
    [hr : ReplV M v m e 1 xs f] (hx : ev L x = some v) (hy : ev L y = some u)
    (hsrc : ∀ w, Mem w0 Ln M S w → Seen w.cell? u mu 1 vs) (h1 : ∀ v ∈ vs, v.oneCell' = true) (q : Nat) (hq : min mu m = q) (ys : List Value) (hys : vs.take q ++ xs.drop q = ys) :
    TOp P Q n (Mem w0 Ln M S) L (.call { callee := .builtin .copy, args := #[x, y], argTypes := #[dT, sT] }) Unit (fun _ => .int .i64 (q : Nat)) (fun _ => Mem w0 Ln (f (.row v m e 1 ys)) S) := by
  by_cases hm0 : m = 0
  · intro d ty pos af g a w K hs hm hk
    obtain ⟨i, hi, hz, hsz, _⟩ := he.info
    have hown : w.ownsRow 0 e 1 v m xs := hm.own _ (hr.out (.blk 0 0 [])).mem
    have hxl : xs = [] := List.length_eq_zero_iff.1 (by rw [hown.1, hm0])
    have q0 : q = 0 := by omega
    subst q0 hxl
    obtain rfl : ys = [] := by rw [← hys]; simp
    obtain ⟨ad, dc, rfl⟩ : ∃ ad dc, v = .slice ad m dc := by
      rcases hown.2 with ⟨h, h0⟩ | ⟨gb, cap, cur, hv, _⟩
      · exact ⟨none, 0, by rw [h, h0]⟩
      · exact ⟨_, _, hv⟩
    obtain ⟨q1, ad2, scap, rfl, q3, q4, q5⟩ := hsrc w hm
    have r1 := run_copy_none (P := P) w dT sT ty e ad ad2 m dc mu scap hu (by simp [hi, hsz]) (by show min mu m = 0; omega)
    have r2 : Mem w0 Ln (f (.row (.slice ad m dc) m e 1 [])) S w := hm.turn (hr.out _) rfl rfl rfl (Nat.le_refl _) (fun _ _ _ => rfl) hown (fun k hk => .inl hk)
    have hrun : (execOp a.eval ⟨d, .call { callee := .builtin .copy, args := #[x, y], argTypes := #[dT, sT] }, ty, pos, af, g⟩).run P w = .ok (.value (.int .i64 ((0 : Nat) : Int))) w := by
      simp only [execOp, resolve, invoke, builtin, Sem.run_bind, Sem.run_pure, Result.andThen_ok, List.map_toArray, List.map_cons, List.map_nil, hs.eval hx, hs.eval hy, r1]
      rfl
    unfold Oper.wp
    rw [hrun]
    exact hk () _ r2
  · exact t_copyW hu he v hx (fun g cap hv => ⟨cap, hv⟩) (l := 0) (dl := m) (by omega) (by omega) hy hsrc h1 q hq ys (by rw [List.take_zero, List.nil_append, Nat.zero_add]; exact hys)
def mulHi (x y : UInt64) : UInt64 := (((sr64 x 32 * sr64 y 32) + sr64 (sr64 x 32 * (y &&& 4294967295) + sr64 ((x &&& 4294967295) * (y &&& 4294967295)) 32) 32) + sr64 (((sr64 x 32 * (y &&& 4294967295) + sr64 ((x &&& 4294967295) * (y &&& 4294967295)) 32) &&& 4294967295) + ((x &&& 4294967295) * sr64 y 32)) 32)
set_option maxRecDepth 100000 in
theorem mul_small : ∀ n < 256, mulHi (of64 ((1 : Nat) : Int)) (of64 ((n : Nat) : Int)) = 0 ∧ (of64 ((1 : Nat) : Int) * of64 ((n : Nat) : Int)).toNat = n := by decide

set_option maxRecDepth 100000 in
theorem mul64 (x : UInt64) (y : UInt64) (w : World)   :
    Calls Tryd.prog 90 [.int .u64 x.toNat, .int .u64 y.toNat].toArray w (Pur w (.tuple #[.int .u64 ((mulHi x y).toNat : Int), .int .u64 ((x * y).toNat : Int)])) := by
  refine enter (m := 51) (R := Mem w [] [] []) Tryd.func90 rfl rfl (Nat.le_of_ble_eq_true rfl) (Mem.start w) ?_
  refine wpc_seq ?_
  refine wpc_region ?_
  refine wpl_q (q_pure rfl) rfl ?_
  refine wpl_q (q_pure rfl) rfl ?_
  refine wpl_nil ?_
  refine ex_then ?_
  refine wpc_seq ?_
  refine wpc_region ?_
  refine wpl_q (q_pure rfl) rfl ?_
  refine wpl_q (q64_and (b := (4294967295 : UInt64)) rfl rfl) rfl ?_
  refine wpl_q (q_pure rfl) rfl ?_
  refine wpl_nil ?_
  refine ex_then ?_
  refine wpc_seq ?_
  refine wpc_region ?_
  refine wpl_q (q_pure rfl) rfl ?_
  refine wpl_q (q64_shr rfl rfl (by first | decide | omega) 32 rfl) rfl ?_
  refine wpl_q (q_pure rfl) rfl ?_
  refine wpl_nil ?_
  refine ex_then ?_
  refine wpc_seq ?_
  refine wpc_region ?_
  refine wpl_q (q_pure rfl) rfl ?_
  refine wpl_q (q64_and (b := (4294967295 : UInt64)) rfl rfl) rfl ?_
  refine wpl_q (q_pure rfl) rfl ?_
  refine wpl_nil ?_
  refine ex_then ?_
  refine wpc_seq ?_
  refine wpc_region ?_
  refine wpl_q (q_pure rfl) rfl ?_
  refine wpl_q (q64_shr rfl rfl (by first | decide | omega) 32 rfl) rfl ?_
  refine wpl_q (q_pure rfl) rfl ?_
  refine wpl_nil ?_
  refine ex_then ?_
  refine wpc_seq ?_
  refine wpc_region ?_
  refine wpl_q (q_pure rfl) rfl ?_
  refine wpl_q (q_pure rfl) rfl ?_
  refine wpl_q (q64_mul rfl rfl) rfl ?_
  refine wpl_q (q_pure rfl) rfl ?_
  refine wpl_nil ?_
  refine ex_then ?_
  refine wpc_seq ?_
  refine wpc_region ?_
  refine wpl_q (q_pure rfl) rfl ?_
  refine wpl_q (q_pure rfl) rfl ?_
  refine wpl_q (q64_mul rfl rfl) rfl ?_
  refine wpl_q (q_pure rfl) rfl ?_
  refine wpl_q (q64_shr rfl rfl (by first | decide | omega) 32 rfl) rfl ?_
  refine wpl_q (q64_add rfl rfl) rfl ?_
  refine wpl_q (q_pure rfl) rfl ?_
  refine wpl_nil ?_
  refine ex_then ?_
  refine wpc_seq ?_
  refine wpc_region ?_
  refine wpl_q (q_pure rfl) rfl ?_
  refine wpl_q (q64_and (b := (4294967295 : UInt64)) rfl rfl) rfl ?_
  refine wpl_q (q_pure rfl) rfl ?_
  refine wpl_nil ?_
  refine ex_then ?_
  refine wpc_seq ?_
  refine wpc_region ?_
  refine wpl_q (q_pure rfl) rfl ?_
  refine wpl_q (q64_shr rfl rfl (by first | decide | omega) 32 rfl) rfl ?_
  refine wpl_q (q_pure rfl) rfl ?_
  refine wpl_nil ?_
  refine ex_then ?_
  refine wpc_seq ?_
  refine wpc_region ?_
  refine wpl_q (q_pure rfl) rfl ?_
  refine wpl_q (q_pure rfl) rfl ?_
  refine wpl_q (q_pure rfl) rfl ?_
  refine wpl_q (q64_mul rfl rfl) rfl ?_
  refine wpl_q (q64_add rfl rfl) rfl ?_
  refine wpl_q (q_pure rfl) rfl ?_
  refine wpl_nil ?_
  refine ex_then ?_
  refine wpc_seq ?_
  refine wpc_region ?_
  refine wpl_q (q_pure rfl) rfl ?_
  refine wpl_q (q_pure rfl) rfl ?_
  refine wpl_q (q64_mul rfl rfl) rfl ?_
  refine wpl_q (q_pure rfl) rfl ?_
  refine wpl_q (q64_add rfl rfl) rfl ?_
  refine wpl_q (q_pure rfl) rfl ?_
  refine wpl_q (q64_shr rfl rfl (by first | decide | omega) 32 rfl) rfl ?_
  refine wpl_q (q64_add rfl rfl) rfl ?_
  refine wpl_q (q_pure rfl) rfl ?_
  refine wpl_nil ?_
  refine ex_then ?_
  refine wpc_seq ?_
  refine wpc_region ?_
  refine wpl_q (q_pure rfl) rfl ?_
  refine wpl_q (q_pure rfl) rfl ?_
  refine wpl_q (q64_mul rfl rfl) rfl ?_
  refine wpl_q (q_pure rfl) rfl ?_
  refine wpl_nil ?_
  refine ex_then ?_
  refine wpc_ret ?_
  refine ret2 (.inl rfl) rfl rfl rfl ?_
  exact fun w h => ⟨rfl, h.below⟩

set_option maxRecDepth 100000 in
theorem mul (x : UInt64) (y : UInt64) (w : World)   :
    Calls Tryd.prog 60 [.int .u64 x.toNat, .int .u64 y.toNat].toArray w (Pur w (.tuple #[.int .u64 ((mulHi x y).toNat : Int), .int .u64 ((x * y).toNat : Int)])) := by
  refine enter (m := 30) (R := Mem w [] [] []) Tryd.func60 rfl rfl (Nat.le_of_ble_eq_true rfl) (Mem.start w) ?_
  refine wpc_seq ?_
  refine wpc_region ?_
  refine wpl_q (q_pure rfl) rfl ?_
  refine wpl_q (q_pure rfl) rfl ?_
  refine wpl_nil ?_
  refine ex_then ?_
  refine wpc_seq ?_
  refine wpc_cond_f rfl ?_
  refine wpc_skip ?_
  refine ex_then ?_
  refine wpc_seq ?_
  refine wpc_region ?_
  refine wpl_q (q_pure rfl) rfl ?_
  refine wpl_q (q_pure rfl) rfl ?_
  refine wpl_t (t_pur Tryd.hb90 rfl fun w h => mul64 x y w) rfl (fun b25 => ?_)
  refine wpl_q (q_pure rfl) rfl ?_
  refine wpl_q (q_pure rfl) rfl ?_
  refine wpl_q (q_pure rfl) rfl ?_
  refine wpl_q (q_pure rfl) rfl ?_
  refine wpl_q (q_pure rfl) rfl ?_
  refine wpl_nil ?_
  refine ex_then ?_
  refine wpc_seq ?_
  refine wpc_region ?_
  refine wpl_q (q_pure rfl) rfl ?_
  refine wpl_q (q_pure rfl) rfl ?_
  refine wpl_q (q_pure rfl) rfl ?_
  refine wpl_q (q_pure rfl) rfl ?_
  refine wpl_nil ?_
  refine ex_then ?_
  refine wpc_ret ?_
  refine ret2 (.inl rfl) rfl rfl rfl ?_
  exact fun w h => ⟨rfl, h.below⟩

end Go.Proofs.YtjpfhkjmjnjggaaDoor

namespace Go.Proofs.YtjpfhkjmjnjggaaDoor
set_option linter.unusedSimpArgs false
set_option linter.unusedVariables false
open Go Go.PL Go.RowKit

theorem rep_snoc (x : UInt32) (a b : Nat) : List.replicate a x ++ List.replicate b x = List.replicate (a + b) x := by rw [List.replicate_append_replicate]
def fillF (x : UInt32) (n k : Nat) : List UInt32 := List.replicate k x ++ List.replicate (n - k) 0
theorem fillF_take (x : UInt32) (n k : Nat) : (fillF x n k).take k = List.replicate k x := by rw [fillF, List.take_left' List.length_replicate]
theorem fillF_drop (x : UInt32) (n k q : Nat) : (fillF x n k).drop (k + q) = List.replicate (n - (k + q)) 0 := by
  rw [fillF, ← List.drop_drop, List.drop_left' List.length_replicate, List.drop_replicate]; congr 1; omega
theorem fillF_next (x : UInt32) {n k q : Nat} (hq : q ≤ k) : (fillF x n k).take k ++ (List.replicate k x).take q ++ (fillF x n k).drop (k + q) = fillF x n (k + q) := by
  rw [fillF_take, fillF_drop, List.take_replicate, Nat.min_eq_left hq, rep_snoc]; rfl
theorem fill0 (x : UInt32) (n : Nat) : (v32s [x]).take (min 1 n) ++ (v32s (List.replicate n 0)).drop (min 1 n) = v32s (fillF x n (min 1 n)) := by
  rw [v32s_take, v32s_drop, ← v32s_append, fillF, List.drop_replicate]
  congr 2
  cases n with
  | zero => rfl
  | succ n => rw [Nat.min_eq_left (by omega)]; rfl
theorem fillN (x : UInt32) {n k : Nat} (hk : k < n) : (v32s (fillF x n k)).take k ++ (v32s (((fillF x n k).drop 0).take (k - 0))).take (min k (n - k)) ++ (v32s (fillF x n k)).drop (k + min k (n - k)) = v32s (fillF x n (k + min k (n - k))) := by
  rw [List.drop_zero, Nat.sub_zero, v32s_take, v32s_take, v32s_drop, ← v32s_append, ← v32s_append, fillF_take, ← fillF_next x (show min k (n - k) ≤ k by omega), fillF_take]
theorem Seen.slv32 {r : Rd} {v : Value} {m : Nat} {bs : List UInt32} (h : Seen r v m 1 (v32s bs)) (l k : Nat) (h1 : l ≤ k) (h2 : k ≤ m) : Seen r (slv v l k 1) (k - l) 1 (v32s ((bs.drop l).take (k - l))) := by
  have := Go.PL.Seen.slv h l k h1 h2
  rwa [Nat.mul_one, Nat.mul_one, v32s_drop, v32s_take] at this
theorem slv_form {v : Value} {g cap k n : Nat} (hs : SV v n) (hv : v = .slice (some ⟨g, 0, none⟩) n cap) (hk : k < n) : ∃ dc, slv v k n 1 = .slice (some ⟨g, k, none⟩) (n - k) dc := by
  obtain ⟨a, c, rfl, h1, _⟩ := hs
  cases hv
  refine ⟨cap - k, ?_⟩
  have : ¬ cap = k := by omega
  simp [slv, sliced, Addr.add, this]
  intro h; exact h.symm
theorem fillF_all (x : UInt32) (n : Nat) : fillF x n n = List.replicate n x := by rw [fillF, Nat.sub_self, List.replicate_zero, List.append_nil]

set_option maxRecDepth 100000 in
theorem repeat_ (cv : Value) (sy : UInt32) (n : Nat) (w : World) (hcv : Seen w.cell? cv 1 1 (v32s [sy])) (hn : n < 256) :
    Calls Tryd.prog 41 [cv, .int .i64 ((n : Nat) : Int)].toArray w (GivesP w (fun v => SV v n) (fun v => v) (fun v => [.row v n 49 1 (v32s (List.replicate n sy))]) (fun _ => [])) := by
  have scv := hcv.sv
  refine enter (m := 48) (R := Mem w [] [] []) Tryd.func41 rfl rfl (Nat.le_of_ble_eq_true rfl) (Mem.start w) ?_
  refine wpc_seq ?_
  refine wpc_region ?_
  refine wpl_q (q_pure rfl) rfl ?_
  refine wpl_nil ?_
  refine ex_then ?_
  refine wpc_seq ?_
  refine wpc_seq ?_
  refine wpc_region ?_
  refine wpl_q (q_pure rfl) rfl ?_
  refine wpl_q (q_pure rfl) rfl ?_
  refine wpl_nil ?_
  refine ex_then ?_
  refine wpc_cond rfl (fun hc10 => ?_) (fun hc10 => ?_)
  ·
   simp only [decide_eq_true_eq] at hc10; omega
  ·
   have hms := mul_small n hn
   refine wpc_skip ?_
   refine ex_then ?_
   refine wpc_seq ?_
   refine wpc_region ?_
   refine wpl_q (q_pure rfl) rfl ?_
   refine wpl_q (q_lenW Tryd.underlying38 rfl (by first | assumption | exact SV.nil | exact SV.slv (by assumption) (by omega) (by omega) | exact arv_sv (by first | decide | (simp only [maxLen]; omega)))) rfl ?_
   refine wpl_q (q64_conv Tryd.underlying3 Tryd.underlying116 rfl) rfl ?_
   refine wpl_q (q_pure rfl) rfl ?_
   refine wpl_q (q64_conv Tryd.underlying3 Tryd.underlying116 rfl) rfl ?_
   refine wpl_t (t_pur Tryd.hb60 rfl fun w h => mul (of64 ((1 : Nat) : Int)) (of64 ((n : Nat) : Int)) w) rfl (fun b18 => ?_)
   refine wpl_q (q_pure rfl) rfl ?_
   refine wpl_q (q_pure rfl) rfl ?_
   refine wpl_q (q_pure rfl) rfl ?_
   refine wpl_q (q_pure rfl) rfl ?_
   refine wpl_q (q_pure rfl) rfl ?_
   refine wpl_nil ?_
   refine ex_then ?_
   refine wpc_seq ?_
   refine wpc_seq ?_
   refine wpc_region ?_
   refine wpl_q (q_pure rfl) rfl ?_
   refine wpl_q (q_pure rfl) rfl ?_
   refine wpl_q (q_pure rfl) rfl ?_
   refine wpl_bool2 23 22 rfl rfl (fun hb23 => ?_) (fun hb23 => ?_)
   ·
    rw [hms.1] at hb23; exact absurd hb23 (by decide)
   ·
    refine wpl_on rfl rfl ?_
    refine wpl_q (q_pure rfl) rfl ?_
    refine wpl_on rfl rfl ?_
    refine wpl_q (q_pure rfl) rfl ?_
    refine wpl_q (q_pure rfl) rfl ?_
    refine wpl_nil ?_
    refine ex_then ?_
    refine wpc_cond rfl (fun hc26 => ?_) (fun hc26 => ?_)
    ·
     have q : (9223372036854775807 : Int) < (((of64 ((1 : Nat) : Int) * of64 ((n : Nat) : Int)).toNat : Nat) : Int) := of_decide_eq_true hc26
     rw [hms.2] at q
     omega
    ·
     refine wpc_skip ?_
     refine ex_then ?_
     refine wpc_seq ?_
     refine wpc_region ?_
     refine wpl_q (q_pure rfl) rfl ?_
     refine wpl_q (q64_intN Tryd.underlying116 Tryd.underlying3 rfl (by rw [hms.2]; omega)) rfl ?_
     refine wpl_re 29 rfl (congrArg (Value.int .i64) (show (((of64 ((1 : Nat) : Int) * of64 ((n : Nat) : Int)).toNat : Nat) : Int) = ((n : Nat) : Int) from by rw [hms.2])) ?_
     refine wpl_tp (t_mkW Tryd.underlying38 Tryd.ti49 rfl rfl (by first | omega | (simp only [maxLen]; omega) | (simp only [List.length_append, List.length_cons, List.length_nil, List.length_take, maxLen]; omega) | (simp only [List.length_append, List.length_cons, List.length_nil, List.length_take]; omega)) (by first | omega | (simp only [maxLen]; omega) | (simp only [List.length_append, List.length_cons, List.length_nil, List.length_take, maxLen]; omega) | (simp only [List.length_append, List.length_cons, List.length_nil, List.length_take]; omega)) (by first | omega | (simp only [maxLen]; omega) | (simp only [List.length_append, List.length_cons, List.length_nil, List.length_take, maxLen]; omega) | (simp only [List.length_append, List.length_cons, List.length_nil, List.length_take]; omega)) _ rfl (mk32 _)) rfl (fun b30 p30 => ?_)
     refine wpl_q (q_pure rfl) rfl ?_
     refine wpl_nil ?_
     refine ex_then ?_
     refine wpc_seq ?_
     refine wpc_region ?_
     refine wpl_q (q_pure rfl) rfl ?_
     refine wpl_q (q_pure rfl) rfl ?_
     refine wpl_t (t_copyA Tryd.underlying38 Tryd.ti49 rfl rfl (fun w h => h.seen_old hcv) (v32s_one _) (min 1 n) rfl (v32s (fillF sy n (min 1 n))) (fill0 sy n)) rfl (fun b33 => ?_)
     refine wpl_q (q_pure rfl) rfl ?_
     refine wpl_nil ?_
     refine ex_then ?_
     refine wpc_seq ?_
     refine wpc_block ?_
     refine wpc_loopc (ι := { x : Nat // (x ≤ n) ∧ (n = 0 ∨ 0 < x) }) [(7, _)] (fun x Lc => (8, .int .i64 ((x.1 : Nat) : Int)) :: Lc) (fun x => Mem w [] [.row b30 n 49 1 (v32s (fillF sy n x.1))] []) (fun x => n - x.1) ⟨min 1 n, ⟨by omega, by omega⟩⟩ (by repeat (first | exact trivial | refine ⟨rfl, ?_⟩)) ?_ ?_
     ·
      exact fun w h => h
     ·
      rintro ⟨k, ⟨hi0, hi1⟩⟩; try dsimp only
      have hi0 : k ≤ n := hi0; have hi1 : n = 0 ∨ 0 < k := hi1
      refine wpc_seq ?_
      refine wpc_seq ?_
      refine wpc_region ?_
      refine wpl_q (q_pure rfl) rfl ?_
      refine wpl_q (q_pure rfl) rfl ?_
      refine wpl_q (q_lenW Tryd.underlying38 rfl (by first | assumption | exact SV.nil | exact SV.slv (by assumption) (by omega) (by omega) | exact arv_sv (by first | decide | (simp only [maxLen]; omega)))) rfl ?_
      refine wpl_q (q_pure rfl) rfl ?_
      refine wpl_nil ?_
      refine ex_then ?_
      refine wpc_cond rfl (fun hc37 => ?_) (fun hc37 => ?_)
      ·
       simp only [decide_eq_true_eq] at hc37
       have hk : k < n := by omega
       have hk0 : 0 < k := by omega
       refine wpc_skip ?_
       refine ex_then ?_
       refine wpc_block ?_
       refine wpc_draw 7 (by kernel_rfl) (fun _ h => h.drew) ?_
       refine wpd_p 0 rfl (by kernel_rfl) trivial (q_pure rfl) rfl sk0 ?_
       refine wpd_p 1 rfl (by kernel_rfl) trivial (q_pure rfl) rfl sk0 ?_
       refine wpd_p 2 rfl (by kernel_rfl) trivial (q_pure rfl) rfl sk0 ?_
       refine wpd_p 3 rfl (by kernel_rfl) trivial (q_slWl Tryd.underlying38 Tryd.ti49 rfl rfl (by first | assumption | exact SV.nil | exact SV.slv (by assumption) (by omega) (by omega) | exact arv_sv (by first | decide | (simp only [maxLen]; omega))) (by omega)) rfl sk0 ?_
       refine wpd_p 4 rfl (by kernel_rfl) trivial (q_pure rfl) rfl sk0 ?_
       refine wpd_p 5 rfl (by kernel_rfl) trivial (q_pure rfl) rfl sk0 ?_
       refine wpd_p 6 rfl (by kernel_rfl) trivial (q_slWh Tryd.underlying38 Tryd.ti49 rfl rfl (by first | assumption | exact SV.nil | exact SV.slv (by assumption) (by omega) (by omega) | exact arv_sv (by first | decide | (simp only [maxLen]; omega))) (by omega)) rfl sk0 ?_
       refine wpd_t 7 rfl (by kernel_rfl) trivial (t_copyW (v := b30) (m := n) (l := k) (dl := n - k) Tryd.underlying38 Tryd.ti49 (slv b30 k n 1) rfl (fun g cap hv => slv_form p30 hv hk) (by omega) (by omega) rfl (fun w h => Seen.slv32 (h.seenV (m := n)) 0 k (Nat.zero_le _) (by omega)) (v32s_one _) (min k (n - k)) (by rw [Nat.sub_zero]) (v32s (fillF sy n (k + min k (n - k)))) (fillN sy hk)) rfl (fun _ => skk rfl) (fun b45 => ?_)
       refine wpd_p 8 rfl (by kernel_rfl) trivial (q_addN rfl rfl (by first | omega | (simp only [maxLen]; omega) | (simp only [List.length_append, List.length_cons, List.length_nil, List.length_take, maxLen]; omega) | (simp only [List.length_append, List.length_cons, List.length_nil, List.length_take]; omega))) rfl (skk rfl) ?_
       refine wpd_p 9 rfl (by kernel_rfl) trivial (q_pure rfl) rfl (skk rfl) ?_
       refine wpd_done (by kernel_rfl) ?_
       refine ex_block ?_
       refine ex_again ⟨k + min k (n - k), ⟨by show k + min k (n - k) ≤ n; omega, by show n = 0 ∨ 0 < k + min k (n - k); omega⟩⟩ ?_ ?_ ?_
       ·
        exact (by repeat (first | exact trivial | refine ⟨rfl, ?_⟩))
       ·
        exact fun w h => by first | exact h | exact h.sub SubC.h SubC.h | exact h.sub (by repeat (first | exact Sub.nil | exact Sub.refl _ | with_reducible refine Sub.keep ?_ | refine Sub.drop ?_)) (by repeat (first | exact Sub.nil | exact Sub.refl _ | with_reducible refine Sub.keep ?_ | refine Sub.drop ?_))
       ·
        (show n - (k + min k (n - k)) < n - k); omega
      ·
       simp only [decide_eq_false_iff_not] at hc37
       obtain rfl : k = n := by omega
       rw [fillF_all]
       refine wpc_exit ?_
       refine ex_then_exit ?_
       refine ex_then_exit ?_
       refine ex_block_hit ?_
       refine ex_then ?_
       refine wpc_seq ?_
       refine wpc_region ?_
       refine wpl_q (q_pure rfl) rfl ?_
       refine wpl_q (q_pure rfl) rfl ?_
       refine wpl_nil ?_
       refine ex_then ?_
       refine wpc_ret ?_
       refine ret1 (.inl rfl) rfl rfl ?_
       exact fun w h => ⟨b30, p30, rfl, h.below, h.made SubC.h .nil⟩

end Go.Proofs.YtjpfhkjmjnjggaaDoor

namespace Go.Proofs.YtjpfhkjmjnjggaaDoor
set_option linter.unusedSimpArgs false
set_option linter.unusedVariables false
open Go Go.PL Go.RowKit

theorem ex_mark0 {P : Program} {fn : Func} {post : Ending → World → Prop} {m : Nat} {e : Exit} {L : Slots} {R : World → Prop} (he : e = .ret ∨ e = .normal)
    (h : EX (bodyPost P fn post) e ⟨m, []⟩ R L) : EX (NPQ (bodyPostM Fence.wide 0 P fn post)) e ⟨m, []⟩ R L := fun a w hs hr => by
  have h1 := h a w hs hr
  have hd : a.defers = [] := hs.defers
  rcases he with rfl | rfl
  · obtain ⟨_, v, hv, hp⟩ := h1
    show LeavesInM _ _ _ _ _ _ a.defers _ _
    rw [hd]
    exact ⟨v, hv, hp⟩
  · obtain ⟨_, v, hv, hp⟩ := h1
    show LeavesInM _ _ _ _ _ _ a.defers _ _
    rw [hd]
    exact ⟨v, hv, hp⟩
/-- A hop whose handles can be read. -/
abbrev HopS := { h : Hop // h.sv }
def HopS.z : HopS := ⟨Hop.z, SV.nil, SV.nil⟩
def HopS.c (h : HopS) : List Value := h.1.c
theorem HopS.c_length (h : HopS) : h.c.length = 24 := h.1.c_length
instance lenC_hops {h : HopS} : LenC h.1.c 24 := ⟨h.1.c_length⟩
instance oneC_hops {h : HopS} : OneC h.1.c := h.2.one
def hopsS (l : List Hop) (hl : ∀ h ∈ l, h.sv) : List HopS := l.attach.map fun h => ⟨h.1, hl h.1 h.2⟩
theorem hopsS_val (l : List Hop) (hl : ∀ h ∈ l, h.sv) : (hopsS l hl).map (·.1) = l := by
  rw [hopsS, List.map_map]
  exact List.attach_map_subtype_val l
def hcS (l : List HopS) : List Value := (l.map HopS.c).flatten
theorem hopsS_cells (l : List Hop) (hl : ∀ h ∈ l, h.sv) : hcS (hopsS l hl) = hcs l := by
  show ((hopsS l hl).map HopS.c).flatten = _
  rw [show (HopS.c : HopS → List Value) = Hop.c ∘ (·.1) from rfl, ← List.map_map, hopsS_val]
theorem hopsS_len (l : List Hop) (hl : ∀ h ∈ l, h.sv) : (hopsS l hl).length = l.length := by rw [hopsS, List.length_map, List.length_attach]
/-- The hops from the last one to the first. -/
def backL (l : List HopS) : List (Nat × HopS) := ((List.range l.length).map fun i => (i, l.getD i HopS.z)).reverse
theorem backL_len (l : List HopS) : (backL l).length = l.length := by rw [backL, List.length_reverse, List.length_map, List.length_range]
theorem back_take {l : List HopS} {m : Nat} (h : m < l.length) : (backL l).take (l.length - (m + 1)) ++ [(m, l.getD m HopS.z)] = (backL l).take (l.length - m) := by
  rw [show l.length - m = (l.length - (m + 1)) + 1 by omega, List.take_add_one]
  congr 1
  have e : (backL l)[l.length - (m + 1)]? = some (m, l.getD m HopS.z) := by
    rw [backL, List.getElem?_reverse (by rw [List.length_map, List.length_range]; omega), List.length_map, List.length_range, List.getElem?_map, show l.length - 1 - (l.length - (m + 1)) = m by omega, List.getElem?_range h]
    rfl
  rw [e]; rfl
theorem back_pre {l : List HopS} {m : Nat} (h : m < l.length) : ((backL l).take (l.length - (m + 1)) ++ [(m, l.getD m HopS.z)]) <+: backL l := by rw [back_take h]; exact List.take_prefix _ _
theorem back_all (l : List HopS) : (backL l).take (l.length - 0) = backL l := List.take_of_length_le (by rw [backL_len]; omega)
def encBk (x : Nat × HopS) (_ : Unit) : Array Value := #[.int .i64 ((x.1 : Nat) : Int), .agg x.2.1.c.toArray]
def AtBk (_ : List Nat) (_ : Nat × HopS) (_ : Unit) (_ : World) : Prop := True

set_option maxRecDepth 100000 in
theorem backward (hv : Value) (n : Nat) (w : World) (svh : SV hv n)  :
    Calls Tryd.prog 40 [hv].toArray w (Gives w (fun pp : Nat => .func (.func 59) #[] #[.pointer (some ⟨pp, 0, none⟩)]) (fun pp => [.blk pp 27 [hv]]) (fun _ => [])) := by
  refine enter (m := 4) (R := Mem w [] [] []) Tryd.func40 rfl rfl (Nat.le_of_ble_eq_true rfl) (Mem.start w) ?_
  refine wpc_seq ?_
  refine wpc_region ?_
  refine wpl_t (t_box rfl [hv] svh.cells) rfl (fun b1 => ?_)
  refine wpl_q (q_pure rfl) rfl ?_
  refine wpl_nil ?_
  refine ex_then ?_
  refine wpc_seq ?_
  refine wpc_region ?_
  refine wpl_q (q_fn (us := []) (vs := [.pointer (some ⟨b1, 0, none⟩)]) rfl rfl) rfl ?_
  refine wpl_q (q_pure rfl) rfl ?_
  refine wpl_nil ?_
  refine ex_then ?_
  refine wpc_ret ?_
  refine ret1 (.inl rfl) rfl rfl ?_
  exact fun w h => ⟨b1, rfl, h.below, h.made SubC.h .nil⟩

end Go.Proofs.YtjpfhkjmjnjggaaDoor

namespace Go.Proofs.YtjpfhkjmjnjggaaDoor
set_option linter.unusedSimpArgs false
set_option linter.unusedVariables false
open Go Go.PL Go.RowKit
set_option maxRecDepth 100000 in
theorem backward1 (yl : Nat) (pb : Nat) (hv : Value) (l : List HopS) (J : List Nat → List (Nat × HopS) → World → Prop) (K : World → Prop) (w : World)  (hst : StabJ J) (hinv : ∀ T pre w1, J T pre w1 → Seen w1.cell? hv l.length 24 (hcS l)) (hsk : StabK K) (hy : YieldS Tryd.prog yl encBk AtBk (backL l) J K) (hJ0 : J [pb] [] w) (hpb : w.heap[pb]? = some (.cells #[hv] 27 (0, 0))) :
    Calls Tryd.prog 59 [.func (.yield yl) #[] #[], .pointer (some ⟨pb, 0, none⟩)].toArray w (IterPost J K (backL l)) := by
  have svh := (hinv _ _ _ hJ0).sv
  have lh := svh.le
  simp only [maxLen] at lh
  refine enter (m := 19) (R := Mem w [pb] [.blk pb 27 [hv]] []) Tryd.func59 rfl rfl (Nat.le_of_ble_eq_true rfl) (Mem.start1 w hpb) ?_
  refine wpc_seq ?_
  refine wpc_region ?_
  refine wpl_q (q_ld Tryd.underlying27 rfl rfl rfl) rfl ?_
  refine wpl_q (q_lenW Tryd.underlying27 rfl (by first | assumption | exact SV.nil | exact SV.slv (by assumption) (by omega) (by omega) | exact arv_sv (by first | decide | (simp only [maxLen]; omega)))) rfl ?_
  first | refine wpl_q (qop_eq (q_pure rfl) (congrArg (Value.int .i64) (wk_i64 (by omega) (by omega)))) rfl ?_ | refine wpl_q (q_pure rfl) rfl ?_
  refine wpl_q (q_pure rfl) rfl ?_
  refine wpl_nil ?_
  refine ex_then ?_
  refine wpc_block ?_
  refine wpc_loopc (ι := { x : Nat × World × List Nat // (x.1 ≤ l.length) ∧ (J x.2.2 ((backL l).take (l.length - x.1)) x.2.1) }) [(0, _), (1, _)] (fun x Lc => (3, .int .i64 (((x.1.1 : Nat) : Int) - 1)) :: Lc) (fun x => Mem x.1.2.1 x.1.2.2 [.blk pb 27 [hv]] []) (fun x => x.1.1) ⟨(l.length, w, [pb]), ⟨Nat.le_refl _, by rw [Nat.sub_self, List.take_zero]; exact hJ0⟩⟩ (by repeat (first | exact trivial | refine ⟨rfl, ?_⟩)) ?_ ?_
  ·
   exact fun w h => h
  ·
   rintro ⟨⟨s, wb, T⟩, ⟨hi0, hi1⟩⟩; try dsimp only
   have hi0 : s ≤ l.length := hi0; have hi1 : J T ((backL l).take (l.length - s)) wb := hi1
   have hsee : ∀ {M : List Ent} {S : List Fact} {w : World}, Mem wb T M S w → Seen w.cell? hv l.length 24 (hcS l) := fun h => hinv _ _ _ (hst _ _ _ _ _ hi1 (h.sub .nil .nil) (nums_lt h))
   refine wpc_seq ?_
   refine wpc_seq ?_
   refine wpc_region ?_
   refine wpl_q (q_pure rfl) rfl ?_
   refine wpl_q (q_pure rfl) rfl ?_
   refine wpl_nil ?_
   refine ex_then ?_
   refine wpc_cond rfl (fun hc8 => ?_) (fun hc8 => ?_)
   ·
    simp only [decide_eq_true_eq, ge_iff_le] at hc8
    obtain ⟨m, rfl⟩ : ∃ m, s = m + 1 := ⟨s - 1, by omega⟩
    have hml : m < l.length := by omega
    refine wpc_re 3 rfl (congrArg (Value.int .i64) (show (((m + 1 : Nat) : Int) - 1) = ((m : Nat) : Int) by omega)) ?_
    refine wpc_skip ?_
    refine ex_then ?_
    refine wpc_seq ?_
    refine wpc_block ?_
    refine wpc_seq ?_
    refine wpc_region_y ?_
    refine wil_q (q_pure rfl) rfl ?_
    refine wil_q (q_pure rfl) rfl ?_
    refine wil_q (q_ld Tryd.underlying27 rfl rfl rfl) rfl ?_
    refine wil_q (q_pure rfl) rfl ?_
    refine wil_q (q_idxW Tryd.underlying27 Tryd.ti68 rfl rfl (by first | assumption | exact SV.nil | exact SV.slv (by assumption) (by omega) (by omega) | exact arv_sv (by first | decide | (simp only [maxLen]; omega))) (by first | omega | (simp only [maxLen]; omega) | (simp only [List.length_append, List.length_cons, List.length_nil, List.length_take, maxLen]; omega) | (simp only [List.length_append, List.length_cons, List.length_nil, List.length_take]; omega))) rfl ?_
    refine wil_q (q_ldWN Tryd.underlying68 rfl Tryd.ti68 rfl (fun w h => hsee h) (l.getD m HopS.z).1.c (cat_part HopS.c_length HopS.z hml) (HopS.c_length _)) rfl ?_
    refine wil_yieldS ((m, (l.getD m HopS.z))) (()) rfl rfl hst hy hi1 (back_pre hml) rfl (fun _ _ => trivial) rfl ?_ ?_
    ·
     intro u17 hu17
     refine wil_q (q_pure rfl) rfl ?_
     refine wil_nil ?_
     refine ex_then ?_
     refine wpc_cond_f rfl ?_
     refine wpc_skip ?_
     refine ex_block ?_
     refine ex_then ?_
     refine wpc_region ?_
     refine wpl_q (q_pure rfl) rfl ?_
     first | refine wpl_q (qop_eq (q_pure rfl) (congrArg (Value.int .i64) (wk_i64 (by omega) (by omega)))) rfl ?_ | refine wpl_q (q_pure rfl) rfl ?_
     refine wpl_q (q_pure rfl) rfl ?_
     refine wpl_nil ?_
     refine ex_again ⟨(m, u17, nums [.blk pb 27 [hv]]), ⟨by show m ≤ l.length; omega, by show J _ ((backL l).take (l.length - m)) u17; rw [← back_take hml]; exact hu17⟩⟩ ?_ ?_ ?_
     ·
      exact (by repeat (first | exact trivial | refine ⟨rfl, ?_⟩))
     ·
      exact fun w h => h
     ·
      show m < m + 1; omega
    ·
     intro u17 hu17
     refine wil_q (q_pure rfl) rfl ?_
     refine wil_nil ?_
     refine ex_then ?_
     refine wpc_cond_t rfl ?_
     refine wpc_ret ?_
     refine ex_block_ret ?_
     refine ex_then_ret ?_
     refine ex_then_ret ?_
     refine ex_block_ret ?_
     refine ret0 (.inl rfl) rfl ?_
     exact fun w h => iter_stop hsk hu17 h
   ·
    simp only [decide_eq_false_iff_not, ge_iff_le] at hc8
    obtain rfl : s = 0 := by omega
    rw [back_all] at hi1
    refine wpc_exit ?_
    refine ex_then_exit ?_
    refine ex_then_exit ?_
    refine ex_block_hit ?_
    refine ret0 (.inr rfl) rfl ?_
    exact fun w h => iter_done hst hi1 h

end Go.Proofs.YtjpfhkjmjnjggaaDoor

namespace Go.Proofs.YtjpfhkjmjnjggaaDoor
set_option linter.unusedSimpArgs false
set_option linter.unusedVariables false
open Go Go.PL Go.RowKit

theorem back_it (hv : Value) (l : List HopS) (pb : Nat) (w : World) (hpb : w.heap[pb]? = some (.cells #[hv] 27 (0, 0))) : IterStop Tryd.prog 59 #[.pointer (some ⟨pb, 0, none⟩)] encBk AtBk (fun w => Seen w.cell? hv l.length 24 (hcS l)) (backL l) [pb] w :=
  fun yl J K hst hinv hsk hy hJ0 => backward1 yl pb hv l J K w hst hinv hsk hy hJ0 hpb
/-- The systems of the last k hops, from the last one. -/
def sysG (hs : List Hop) : Nat → List UInt32
  | 0 => []
  | k + 1 => sysG hs k ++ List.replicate (hs.getD (hs.length - 1 - k) Hop.z).cnt.toNat (hs.getD (hs.length - 1 - k) Hop.z).sy
def sysR (hs : List Hop) : List UInt32 := sysG hs hs.length
def sysE (p : Pth) : Int := if chkP p ≠ 0 then chkP p else if 30 < (sysR p.hs).length then 4 else 0
def sysV (p : Pth) : List UInt32 := if sysE p = 0 then sysR p.hs else []
theorem sysG_len (hs : List Hop) : ∀ k, (sysG hs k).length ≤ 255 * k
  | 0 => Nat.le_refl _
  | k + 1 => by
    have := sysG_len hs k
    have h := (hs.getD (hs.length - 1 - k) Hop.z).cnt.toNat_lt
    rw [sysG, List.length_append, List.length_replicate]; omega
theorem sysE_chk {p : Pth} (h : chkP p ≠ 0) : sysE p = chkP p := if_pos h
theorem sysE_many {p : Pth} (h : chkP p = 0) (h2 : 30 < (sysR p.hs).length) : sysE p = 4 := (if_neg (by simp [h])).trans (if_pos h2)
theorem sysE_ok {p : Pth} (h : chkP p = 0) (h2 : ¬ 30 < (sysR p.hs).length) : sysE p = 0 := (if_neg (by simp [h])).trans (if_neg h2)
theorem sysV_no {p : Pth} (h : sysE p ≠ 0) : sysV p = [] := if_neg h
theorem sysV_ok {p : Pth} (h : sysE p = 0) : sysV p = sysR p.hs := if_pos h
theorem nilRowS {w0 w : World} {Ln : List Nat} {M : List Ent} {S : List Fact} {p : Pth} (h : Mem w0 Ln M S w) (hn : sysE p ≠ 0) : Mem w0 Ln (.row (.slice none 0 0) (sysV p).length 49 1 (v32s (sysV p)) :: M) S w := by
  rw [sysV_no hn]; exact h.nilRow 49 1
theorem back_get {l : List HopS} {pre : List (Nat × HopS)} {x : Nat × HopS} (h : (pre ++ [x]) <+: backL l) : pre.length < l.length ∧ x.2 = l.getD (l.length - 1 - pre.length) HopS.z := by
  have hl := h.length_le
  rw [backL_len, List.length_append, List.length_singleton] at hl
  refine ⟨by omega, ?_⟩
  obtain ⟨t, ht⟩ := h
  have e : (backL l)[pre.length]? = some x := by rw [← ht]; simp
  rw [backL, List.getElem?_reverse (by rw [List.length_map, List.length_range]; omega), List.length_map, List.length_range, List.getElem?_map, List.getElem?_range (by omega)] at e
  cases e; rfl
theorem hopsS_get (l : List Hop) (hl : ∀ h ∈ l, h.sv) (i : Nat) (hi : i < l.length) : ((hopsS l hl).getD i HopS.z).1 = l.getD i Hop.z := by
  have e := hopsS_val l hl
  have q : ((hopsS l hl).map (·.1))[i]? = l[i]? := by rw [e]
  rw [List.getElem?_map] at q
  rw [List.getD_eq_getElem?_getD, List.getD_eq_getElem?_getD, ← q]
  have : i < (hopsS l hl).length := by rw [hopsS_len]; exact hi
  rw [List.getElem?_eq_getElem this]; rfl
theorem sys_next {hs : List Hop} {hl : ∀ h ∈ hs, h.sv} {pre : List (Nat × HopS)} {x : Nat × HopS} (h : (pre ++ [x]) <+: backL (hopsS hs hl)) : sysG hs pre.length ++ List.replicate x.2.1.cnt.toNat x.2.1.sy = sysG hs (pre ++ [x]).length := by
  obtain ⟨h1, h2⟩ := back_get h
  rw [hopsS_len] at h1 h2
  rw [List.length_append, List.length_singleton, sysG, h2, hopsS_get _ _ _ (by omega)]

end Go.Proofs.YtjpfhkjmjnjggaaDoor

namespace Go.Proofs.YtjpfhkjmjnjggaaDoor
set_option linter.unusedSimpArgs false
set_option linter.unusedVariables false
open Go Go.PL Go.RowKit

theorem sysG_step {hs : List Hop} {m : Nat} (h : m < hs.length) : sysG hs (hs.length - m) = sysG hs (hs.length - (m + 1)) ++ List.replicate (hs.getD m Hop.z).cnt.toNat (hs.getD m Hop.z).sy := by
  rw [show hs.length - m = (hs.length - (m + 1)) + 1 by omega, sysG, show hs.length - 1 - (hs.length - (m + 1)) = m by omega]
theorem rep_one (a : List UInt32) (x : UInt32) (k : Nat) : v32s (a ++ List.replicate k x) ++ v32s [x] = v32s (a ++ List.replicate (k + 1) x) := by
  rw [← v32s_append, List.replicate_succ', List.append_assoc]

set_option maxRecDepth 100000 in
theorem refSystems (p : Pth) (w : World) (hp : p.seen w.cell?)  :
    Calls Tryd.prog 16 [.agg p.c.toArray].toArray w (GivesP w (fun v => SV v (sysV p).length) (fun v => .tuple #[v, .int .i64 (sysE p)]) (fun v => [.row v (sysV p).length 49 1 (v32s (sysV p))]) (fun _ => [])) := by
  obtain ⟨pf, pa, pb, pl, hv, hs⟩ := p
  have hh : Seen w.cell? hv hs.length 24 (hcs hs) := hp.1
  have svh := hh.sv
  have lh := svh.le
  simp only [maxLen] at lh
  refine enter (m := 45) (R := Mem w [] [] []) Tryd.func16 rfl rfl (Nat.le_of_ble_eq_true rfl) (Mem.start w) ?_
  refine wpc_seq ?_
  refine wpc_region ?_
  refine wpl_t (t_box rfl [.int .u8 (pf.toNat : Int), .int .u64 (pa.toNat : Int), .int .u64 (pb.toNat : Int), .int .i64 pl, hv] rfl) rfl (fun b1 => ?_)
  refine wpl_q (q_pure rfl) rfl ?_
  refine wpl_q (q_pure rfl) rfl ?_
  refine wpl_nil ?_
  refine ex_then ?_
  refine wpc_seq ?_
  refine wpc_region ?_
  refine wpl_q (q_ldN Tryd.underlying29 rfl Tryd.ti29 rfl LenC.h) rfl ?_
  refine wpl_t (t_pur Tryd.hb18 rfl fun w h => refCheck42 ⟨pf, pa, pb, pl, hv, hs⟩ w (hp.old h)) rfl (fun b9 => ?_)
  refine wpl_q (q_pure rfl) rfl ?_
  refine wpl_nil ?_
  refine ex_then ?_
  refine wpc_seq ?_
  refine wpc_seq ?_
  refine wpc_region ?_
  refine wpl_q (q_pure rfl) rfl ?_
  refine wpl_q (q_pure rfl) rfl ?_
  refine wpl_nil ?_
  refine ex_then ?_
  refine wpc_cond rfl (fun hc11 => ?_) (fun hc11 => ?_)
  ·
   have hk : chkP ⟨pf, pa, pb, pl, hv, hs⟩ ≠ 0 := by simpa using hc11
   have hE : sysE ⟨pf, pa, pb, pl, hv, hs⟩ = chkP ⟨pf, pa, pb, pl, hv, hs⟩ := sysE_chk hk
   have hE0 : sysE ⟨pf, pa, pb, pl, hv, hs⟩ ≠ 0 := by rw [hE]; exact hk
   refine wpc_seq ?_
   refine wpc_region ?_
   refine wpl_q (q_pure rfl) rfl ?_
   refine wpl_q (q_pure rfl) rfl ?_
   refine wpl_q (q_pure rfl) rfl ?_
   refine wpl_nil ?_
   refine ex_then ?_
   refine wpc_ret ?_
   refine ex_then_ret ?_
   refine ret2 (.inl rfl) rfl rfl rfl ?_
   exact fun w h => ⟨.slice none 0 0, by rw [sysV_no hE0]; exact SV.nil, by rw [hE], h.below, (nilRowS h hE0).made SubC.h .nil⟩
  ·
   have hk0 : chkP ⟨pf, pa, pb, pl, hv, hs⟩ = 0 := by simpa using hc11
   have hn30 : hs.length ≤ 30 := (chk_inv hk0).1
   refine wpc_skip ?_
   refine ex_then ?_
   refine wpc_seq ?_
   refine wpc_region ?_
   refine wpl_q (q_pure rfl) rfl ?_
   refine wpl_nil ?_
   refine ex_then ?_
   refine wpc_seq ?_
   refine wpc_seq ?_
   refine wpc_region ?_
   refine wpl_q (q_field Tryd.underlying29 rfl Tryd.ti27 rfl rfl _ rfl) rfl ?_
   refine wpl_q (q_ld Tryd.underlying27 rfl rfl rfl) rfl ?_
   refine wpl_q (q_lenW Tryd.underlying27 rfl (by first | assumption | exact SV.nil | exact SV.slv (by assumption) (by omega) (by omega) | exact arv_sv (by first | decide | (simp only [maxLen]; omega)))) rfl ?_
   first | refine wpl_q (qop_eq (q_pure rfl) (congrArg (Value.int .i64) (wk_i64 (by omega) (by omega)))) rfl ?_ | refine wpl_q (q_pure rfl) rfl ?_
   refine wpl_q (q_pure rfl) rfl ?_
   refine wpl_nil ?_
   refine ex_then ?_
   refine wpc_block ?_
   refine wpc_loopc (ι := { x : Nat × Value // (x.1 ≤ hs.length) ∧ (SV x.2 (sysG hs (hs.length - x.1)).length) }) [(1, _)] (fun x Lc => (6, .int .i64 (((x.1.1 : Nat) : Int) - 1)) :: (5, x.1.2) :: Lc) (fun x => Mem w [] [.row x.1.2 (sysG hs (hs.length - x.1.1)).length 49 1 (v32s (sysG hs (hs.length - x.1.1))), .blk b1 29 [.int .u8 (pf.toNat : Int), .int .u64 (pa.toNat : Int), .int .u64 (pb.toNat : Int), .int .i64 pl, hv]] []) (fun x => x.1.1) ⟨(hs.length, .slice none 0 0), ⟨Nat.le_refl _, by rw [Nat.sub_self]; exact SV.nil⟩⟩ (by repeat (first | exact trivial | refine ⟨rfl, ?_⟩)) ?_ ?_
   ·
    exact fun w h => by
      dsimp only
      rw [Nat.sub_self]
      exact h.nilRow 49 1
   ·
    rintro ⟨⟨s, v⟩, ⟨hi0, hi1⟩⟩; try dsimp only
    have hi0 : s ≤ hs.length := hi0; have hi1 : SV v (sysG hs (hs.length - s)).length := hi1
    refine wpc_seq ?_
    refine wpc_seq ?_
    refine wpc_region ?_
    refine wpl_q (q_pure rfl) rfl ?_
    refine wpl_q (q_pure rfl) rfl ?_
    refine wpl_nil ?_
    refine ex_then ?_
    refine wpc_cond rfl (fun hc18 => ?_) (fun hc18 => ?_)
    ·
     simp only [decide_eq_true_eq, ge_iff_le] at hc18
     obtain ⟨m, rfl⟩ : ∃ m, s = m + 1 := ⟨s - 1, by omega⟩
     have hml : m < hs.length := by omega
     have hi1v := hi1
     refine wpc_re 6 rfl (congrArg (Value.int .i64) (show (((m + 1 : Nat) : Int) - 1) = ((m : Nat) : Int) by omega)) ?_
     refine wpc_skip ?_
     refine ex_then ?_
     refine wpc_seq ?_
     refine wpc_block ?_
     refine wpc_seq ?_
     refine wpc_region ?_
     refine wpl_q (q_pure rfl) rfl ?_
     refine wpl_nil ?_
     refine ex_then ?_
     refine wpc_block ?_
     refine wpc_loopc (ι := { x : Nat × Value // (x.1 ≤ (hs.getD m Hop.z).cnt.toNat) ∧ (SV x.2 (sysG hs (hs.length - (m + 1)) ++ List.replicate x.1 (hs.getD m Hop.z).sy).length) }) [(1, _), (6, _)] (fun x Lc => (7, .int .i64 ((x.1.1 : Nat) : Int)) :: (5, x.1.2) :: Lc) (fun x => Mem w [] [.row x.1.2 (sysG hs (hs.length - (m + 1)) ++ List.replicate x.1.1 (hs.getD m Hop.z).sy).length 49 1 (v32s (sysG hs (hs.length - (m + 1)) ++ List.replicate x.1.1 (hs.getD m Hop.z).sy)), .blk b1 29 [.int .u8 (pf.toNat : Int), .int .u64 (pa.toNat : Int), .int .u64 (pb.toNat : Int), .int .i64 pl, hv]] []) (fun x => (hs.getD m Hop.z).cnt.toNat - x.1.1) ⟨(0, v), ⟨Nat.zero_le _, by rw [List.replicate_zero, List.append_nil]; exact hi1v⟩⟩ (by repeat (first | exact trivial | refine ⟨rfl, ?_⟩)) ?_ ?_
     ·
      exact fun w h => by
        dsimp only
        rw [List.replicate_zero, List.append_nil]
        exact h
     ·
      rintro ⟨⟨k, v2⟩, ⟨hi0, hi1⟩⟩; try dsimp only
      have hi0 : k ≤ (hs.getD m Hop.z).cnt.toNat := hi0; have hi1 : SV v2 (sysG hs (hs.length - (m + 1)) ++ List.replicate k (hs.getD m Hop.z).sy).length := hi1
      have hs1 := sysG_len hs (hs.length - (m + 1))
      have hcl := (hs.getD m Hop.z).cnt.toNat_lt
      have hgk : (sysG hs (hs.length - (m + 1)) ++ List.replicate k (hs.getD m Hop.z).sy).length = (sysG hs (hs.length - (m + 1))).length + k := by rw [List.length_append, List.length_replicate]
      have hgl : (sysG hs (hs.length - (m + 1)) ++ List.replicate (k + 1) (hs.getD m Hop.z).sy).length = (sysG hs (hs.length - (m + 1)) ++ List.replicate k (hs.getD m Hop.z).sy).length + 1 := by rw [List.length_append, List.length_replicate, List.length_append, List.length_replicate]; omega
      refine wpc_seq ?_
      refine wpc_seq ?_
      refine wpc_region ?_
      refine wpl_q (q_pure rfl) rfl ?_
      refine wpl_q (q_field Tryd.underlying29 rfl Tryd.ti27 rfl rfl _ rfl) rfl ?_
      refine wpl_q (q_ld Tryd.underlying27 rfl rfl rfl) rfl ?_
      refine wpl_q (q_pure rfl) rfl ?_
      refine wpl_q (q_idxW Tryd.underlying27 Tryd.ti68 rfl rfl (by first | assumption | exact SV.nil | exact SV.slv (by assumption) (by omega) (by omega) | exact arv_sv (by first | decide | (simp only [maxLen]; omega))) (by first | omega | (simp only [maxLen]; omega) | (simp only [List.length_append, List.length_cons, List.length_nil, List.length_take, maxLen]; omega) | (simp only [List.length_append, List.length_cons, List.length_nil, List.length_take]; omega))) rfl ?_
      refine wpl_q (q_fieldPo 1 Tryd.underlying68 rfl Tryd.ti5 rfl rfl rfl) rfl ?_
      refine wpl_q (q_ldWF Tryd.underlying5 rfl rfl (fun w h => h.seen_old hh) (cat_get Hop.c_length Hop.z (show m < hs.length from hml) (Hop.c_cnt _))) rfl ?_
      refine wpl_q (q8_int Tryd.underlying5 Tryd.underlying3 rfl) rfl ?_
      refine wpl_q (q_pure rfl) rfl ?_
      refine wpl_nil ?_
      refine ex_then ?_
      refine wpc_cond rfl (fun hc29 => ?_) (fun hc29 => ?_)
      ·
       simp only [decide_eq_true_eq] at hc29
       have hkc : k < (hs.getD m Hop.z).cnt.toNat := by omega
       refine wpc_skip ?_
       refine ex_then ?_
       refine wpc_seq ?_
       refine wpc_block ?_
       refine wpc_region ?_
       refine wpl_q (q_pure rfl) rfl ?_
       refine wpl_q (q_field Tryd.underlying29 rfl Tryd.ti27 rfl rfl _ rfl) rfl ?_
       refine wpl_q (q_ld Tryd.underlying27 rfl rfl rfl) rfl ?_
       refine wpl_q (q_pure rfl) rfl ?_
       refine wpl_q (q_idxW Tryd.underlying27 Tryd.ti68 rfl rfl (by first | assumption | exact SV.nil | exact SV.slv (by assumption) (by omega) (by omega) | exact arv_sv (by first | decide | (simp only [maxLen]; omega))) (by first | omega | (simp only [maxLen]; omega) | (simp only [List.length_append, List.length_cons, List.length_nil, List.length_take, maxLen]; omega) | (simp only [List.length_append, List.length_cons, List.length_nil, List.length_take]; omega))) rfl ?_
       refine wpl_q (q_fieldPo 0 Tryd.underlying68 rfl Tryd.ti49 rfl rfl rfl) rfl ?_
       refine wpl_q (q_ldWF Tryd.underlying49 rfl rfl (fun w h => h.seen_old hh) (cat_get Hop.c_length Hop.z (show m < hs.length from hml) (Hop.c_sy _))) rfl ?_
       refine wpl_tp (t_bsV (v32s [_]) Tryd.underlying38 Tryd.ti49 rfl rfl (by decide) (by decide) rfl (v32s_one _)) rfl (fun b39 p39 => ?_)
       refine wpl_tp (t_apW Tryd.underlying38 Tryd.ti49 rfl (by decide) rfl rfl (fun w h => by first | exact h.seenV | exact h.seenA (by first | decide | (simp only [maxLen]; omega)) (by first | (with_reducible exact key_len _ _ (by (first | with_reducible assumption | exact L16.h))) | with_reducible rfl | (simp only [v8s_length, v32s_length, vis_length, vns_length, v64s_length, List.length_replicate]; first | done | with_reducible assumption | omega) | (rw [v8s_length]; (first | with_reducible assumption | exact L16.h)) | rfl) | exact h.seen_old (by assumption) | exact h.seen_oldL (by assumption) (by assumption) | exact h.seen_fact (by repeat (first | exact List.mem_cons_self .. | apply List.mem_cons_of_mem))) OneC.h (by first | omega | (simp only [maxLen]; omega) | (simp only [List.length_append, List.length_cons, List.length_nil, List.length_take, maxLen]; omega) | (simp only [List.length_append, List.length_cons, List.length_nil, List.length_take]; omega)) (by first | omega | (simp only [maxLen]; omega) | (simp only [List.length_append, List.length_cons, List.length_nil, List.length_take, maxLen]; omega) | (simp only [List.length_append, List.length_cons, List.length_nil, List.length_take]; omega)) (v32s (sysG hs (hs.length - (m + 1)) ++ List.replicate (k + 1) (hs.getD m Hop.z).sy)) (rep_one _ _ _)) rfl (fun b40 p40 => ?_)
       refine wpl_q (q_pure rfl) rfl ?_
       refine wpl_nil ?_
       refine ex_block ?_
       refine ex_then ?_
       refine wpc_region ?_
       refine wpl_q (q_pure rfl) rfl ?_
       refine wpl_q (q_addN (b := 1) rfl rfl (by first | omega | (simp only [maxLen]; omega) | (simp only [List.length_append, List.length_cons, List.length_nil, List.length_take, maxLen]; omega) | (simp only [List.length_append, List.length_cons, List.length_nil, List.length_take]; omega))) rfl ?_
       refine wpl_q (q_pure rfl) rfl ?_
       refine wpl_nil ?_
       refine ex_again ⟨(k + 1, b40), ⟨by dsimp only; omega, by show SV b40 (sysG hs (hs.length - (m + 1)) ++ List.replicate (k + 1) (hs.getD m Hop.z).sy).length; rw [hgl]; exact p40⟩⟩ ?_ ?_ ?_
       ·
        exact (by repeat (first | exact trivial | refine ⟨rfl, ?_⟩))
       ·
        exact fun w h => by
          dsimp only
          rw [hgl]
          exact h.sel
       ·
        (show (hs.getD m Hop.z).cnt.toNat - (k + 1) < (hs.getD m Hop.z).cnt.toNat - k); omega
      ·
       simp only [decide_eq_false_iff_not] at hc29
       obtain rfl : k = (hs.getD m Hop.z).cnt.toNat := by omega
       refine wpc_exit ?_
       refine ex_then_exit ?_
       refine ex_then_exit ?_
       refine ex_block_hit ?_
       refine ex_block ?_
       refine ex_then ?_
       refine wpc_region ?_
       refine wpl_q (q_pure rfl) rfl ?_
       first | refine wpl_q (qop_eq (q_pure rfl) (congrArg (Value.int .i64) (wk_i64 (by omega) (by omega)))) rfl ?_ | refine wpl_q (q_pure rfl) rfl ?_
       refine wpl_q (q_pure rfl) rfl ?_
       refine wpl_nil ?_
       refine ex_again ⟨(m, v2), ⟨by show m ≤ hs.length; omega, by show SV v2 (sysG hs (hs.length - m)).length; rw [sysG_step hml]; exact hi1⟩⟩ ?_ ?_ ?_
       ·
        exact (by repeat (first | exact trivial | refine ⟨rfl, ?_⟩))
       ·
        exact fun w h => by
          dsimp only
          rw [sysG_step hml]
          exact h
       ·
        show m < m + 1; omega
    ·
     simp only [decide_eq_false_iff_not, ge_iff_le] at hc18
     obtain rfl : s = 0 := by omega
     refine wpc_exit ?_
     refine ex_then_exit ?_
     refine ex_then_exit ?_
     refine ex_block_hit ?_
     refine ex_then ?_
     refine wpc_seq ?_
     refine wpc_seq ?_
     refine wpc_region ?_
     refine wpl_q (q_pure rfl) rfl ?_
     refine wpl_q (q_lenW Tryd.underlying38 rfl (by first | assumption | exact SV.nil | exact SV.slv (by assumption) (by omega) (by omega) | exact arv_sv (by first | decide | (simp only [maxLen]; omega)))) rfl ?_
     refine wpl_q (q_pure rfl) rfl ?_
     refine wpl_nil ?_
     refine ex_then ?_
     refine wpc_cond rfl (fun hc43 => ?_) (fun hc43 => ?_)
     ·
      simp only [decide_eq_true_eq] at hc43
      have hE : sysE ⟨pf, pa, pb, pl, hv, hs⟩ = 4 := sysE_many hk0 (by show 30 < (sysG hs (hs.length - 0)).length; omega)
      have hE0 : sysE ⟨pf, pa, pb, pl, hv, hs⟩ ≠ 0 := by rw [hE]; decide
      refine wpc_seq ?_
      refine wpc_region ?_
      refine wpl_q (q_pure rfl) rfl ?_
      refine wpl_q (q_pure rfl) rfl ?_
      refine wpl_nil ?_
      refine ex_then ?_
      refine wpc_ret ?_
      refine ex_then_ret ?_
      refine ret2 (.inl rfl) rfl rfl rfl ?_
      exact fun w h => ⟨.slice none 0 0, by rw [sysV_no hE0]; exact SV.nil, by rw [hE], h.below, (nilRowS h hE0).made SubC.h .nil⟩
     ·
      simp only [decide_eq_false_iff_not] at hc43
      have hE : sysE ⟨pf, pa, pb, pl, hv, hs⟩ = 0 := sysE_ok hk0 (by show ¬ 30 < (sysG hs (hs.length - 0)).length; omega)
      have hVo : sysG hs (hs.length - 0) = sysV ⟨pf, pa, pb, pl, hv, hs⟩ := by rw [sysV_ok hE]; rfl
      refine wpc_skip ?_
      refine ex_then ?_
      refine wpc_seq ?_
      refine wpc_region ?_
      refine wpl_q (q_pure rfl) rfl ?_
      refine wpl_q (q_pure rfl) rfl ?_
      refine wpl_q (q_pure rfl) rfl ?_
      refine wpl_nil ?_
      refine ex_then ?_
      refine wpc_ret ?_
      refine ret2 (.inl rfl) rfl rfl rfl ?_
      exact fun w h => ⟨v, hVo ▸ hi1, by rw [hE], h.below, by rw [← hVo]; exact h.made (by repeat (first | exact Sub.nil | exact Sub.refl _ | with_reducible refine Sub.keep ?_ | refine Sub.drop ?_)) .nil⟩

end Go.Proofs.YtjpfhkjmjnjggaaDoor

