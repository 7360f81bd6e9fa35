/- Bytes and strings. -/
import Derived.Test.YtommkigkkeailaaOE
import Derived.Lib.BufferRead
import Derived.Lib.ConvBytes
import Derived.Laws.IdiomStrings
namespace Go.Proofs.Ytommkigkkeailaa
set_option linter.unusedSimpArgs false
set_option linter.unusedVariables false
open Go Go.PL Go.RowKit

section
variable {P : Program} {n : Cx} {R : World → Prop} {L : Slots} {Q : Exit → Act → World → Prop} {w0 : World} {Ln : List Nat} {M : List Ent} {S : List Fact}
/-- 'string(b)'. -/
theorem q_cvBS {s t e : TypeId} {x : Operand} {v : Value} {m : Nat} {bs : List UInt8} (hs' : P.underlying s = some (.slice e)) (he : P.underlying e = some (.int .u8)) (hu : P.underlying t = some .string) (hx : ev L x = some v) (hs : ∀ w, R w → Seen w.cell? v m 1 (v8s bs)) : QOp P n R L (.convert s t x) (str bs) := by
  intro d ty pos af g a w hsl hr
  obtain ⟨h1, ad, cap, rfl, h3, h4, h5⟩ := hs w hr
  have hm : m = bs.length := by rw [v8s_length] at h1; omega
  subst hm
  simp only [execOp, hsl.eval hx]
  rcases h5 with ⟨rfl, rfl⟩ | ⟨a', rfl, h6⟩
  · have h0 : bs.length = 0 := by omega
    obtain rfl : bs = [] := List.eq_nil_of_length_eq_zero h0
    have r := Lib.run_convert_nil_bytes (P := P) w s t e 0 hs' he hu
    have r' : (convert s t (.slice none ([] : List UInt8).length 0)).run P w = _ := r
    simp only [Sem.run_bind, r']; rfl
  · have r := run_convert_bytes_back (P := P) w s t e a' cap bs hs' he hu (fun j hj => by
      refine h6 j _ ?_
      have := v8s_get (xs := bs) (i := j) hj
      rw [this]
      congr 2
      rw [List.getD_eq_getElem?_getD, List.getElem?_eq_getElem hj]; rfl)
    simp only [Sem.run_bind, r]; rfl
/-- '[]byte(s)': bytes that can be read. -/
theorem t_cvSB {s t e : TypeId} {x : Operand} {bs : List UInt8} (hs' : P.underlying s = some .string) (hu : P.underlying t = some (.slice e)) (he : P.underlying e = some (.int .u8)) (hx : ev L x = some (str bs)) (hl : bs.length ≤ maxLen) :
    TOpP P Q n (Mem w0 Ln M S) L (.convert s t x) Value (fun v => SV v bs.length) (fun v => v) (fun v => Mem w0 Ln M (Go.PL.seen v bs.length 1 (v8s bs) :: S)) := by
  have h : TOp P Q n (Mem w0 Ln M S) L (.convert s t x) { v : Value // SV v bs.length } (fun v => v.1) (fun v => Mem w0 Ln M (Go.PL.seen v.1 bs.length 1 (v8s bs) :: S)) := by
    intro d ty pos af g a w K hsl hm hk
    have r := Lib.run_convert_string_bytes (P := P) w s t e ⟨bs.toArray⟩ hs' hu he
    have hge := grownCap_ge w bs.length 0 e
    have hle := grownCap_le_maxLen w bs.length 0 e hl
    have hx' : ev L x = some (.string ⟨bs.toArray⟩) := hx
    have hsz : (⟨bs.toArray⟩ : ByteArray).size = bs.length := rfl
    unfold Oper.wp
    have hrun : (execOp a.eval ⟨d, .convert s t x, ty, pos, af, g⟩).run P w = .ok (.value (.slice (some ⟨w.heap.size, 0, none⟩) bs.length (grownCap w bs.length 0 e))) (Lib.bytesWorld w e ⟨bs.toArray⟩) := by
      simp only [execOp, hsl.eval hx']
      simp only [Sem.run_bind, r]; rfl
    rw [hrun]
    have hb : Below w.heap.size w (Lib.bytesWorld w e ⟨bs.toArray⟩) := by
      refine ⟨rfl, rfl, rfl, ?_, fun k hk => ?_⟩
      · rw [Lib.bytesWorld_size]; omega
      · exact Lib.bytesWorld_at_old w e _ k hk
    have hsv : SV (.slice (some ⟨w.heap.size, 0, none⟩) bs.length (grownCap w bs.length 0 e)) bs.length := ⟨_, _, rfl, hge, hle, fun h => by cases h⟩
    have hn : New w.heap.size [] [Go.PL.seen (.slice (some ⟨w.heap.size, 0, none⟩) bs.length (grownCap w bs.length 0 e)) bs.length 1 (v8s bs)] (Lib.bytesWorld w e ⟨bs.toArray⟩) := by
      refine ⟨by simp, by simp, by simp, fun f hf => ?_⟩
      rw [List.mem_singleton] at hf
      subst hf
      refine ⟨by rw [v8s_length]; simp, _, _, rfl, hge, hle, .inr ⟨_, rfl, fun j u hj => ?_⟩⟩
      have hj2 : j < bs.length := by
        have := (List.getElem?_eq_some_iff.1 hj).1
        rwa [v8s_length] at this
      rw [v8s_get (xs := bs) (i := j) hj2] at hj
      have hc := Lib.bytesWorld_cell w e ⟨bs.toArray⟩ j hj2
      have ea : (⟨w.heap.size, 0, none⟩ : Addr).add j = ⟨w.heap.size, j, none⟩ := by rw [add_lit, Nat.zero_add]
      rw [ea]
      simp only [rdF]
      rw [if_pos ⟨Nat.le_refl _, rfl⟩, hc, ← hj]
    exact hk ⟨_, hsv⟩ _ (hm.call hb hn)
  exact h.rep fun x w h => ⟨x.1, x.2, rfl, h⟩
end
theorem same_stepB (xs ys : List UInt8) (i : Nat) (h : xs.take i = ys.take i) (hx : i < xs.length) (hy : i < ys.length) (he : xs.getD i 0 = ys.getD i 0) : xs.take (i + 1) = ys.take (i + 1) := by
  rw [take_succD 0 hx, take_succD 0 hy, h, he]

set_option maxRecDepth 100000 in
theorem sameB (av : Value) (xs : List UInt8) (bv : Value) (ys : List UInt8) (w : World) (hav : Seen w.cell? av xs.length 1 (v8s xs)) (hbv : Seen w.cell? bv ys.length 1 (v8s ys))  :
    Calls Try.prog 37 [av, bv].toArray w (Pur w (.bool (decide (xs = ys)))) := by
  have sav := hav.sv
  have lav := sav.le
  simp only [maxLen] at lav
  have sbv := hbv.sv
  have lbv := sbv.le
  simp only [maxLen] at lbv
  refine enter (m := 26) (R := Mem w [] [] []) Try.func37 rfl rfl (Nat.le_of_ble_eq_true rfl) (Mem.start w) ?_
  refine wpc_seq ?_
  refine wpc_region ?_
  refine wpl_q (q_pure rfl) rfl ?_
  refine wpl_nil ?_
  refine ex_then ?_
  refine wpc_seq ?_
  refine wpc_seq ?_
  refine wpc_region ?_
  refine wpl_q (q_pure rfl) rfl ?_
  refine wpl_q (q_lenW Try.underlying22 rfl (by first | assumption | exact SV.nil | exact SV.slv (by assumption) (by omega) (by omega) | exact arv_sv (by first | decide | (simp only [maxLen]; omega)))) rfl ?_
  refine wpl_q (q_pure rfl) rfl ?_
  refine wpl_q (q_lenW Try.underlying22 rfl (by first | assumption | exact SV.nil | exact SV.slv (by assumption) (by omega) (by omega) | exact arv_sv (by first | decide | (simp only [maxLen]; omega)))) rfl ?_
  refine wpl_q (q_pure rfl) rfl ?_
  refine wpl_nil ?_
  refine ex_then ?_
  refine wpc_cond rfl (fun hc10 => ?_) (fun hc10 => ?_)
  ·
   simp only [decide_eq_true_eq, bne_iff_ne, ne_eq] at hc10
   have hne : xs ≠ ys := fun e => hc10 (by rw [e])
   refine wpc_seq ?_
   refine wpc_region ?_
   refine wpl_q (q_pure rfl) rfl ?_
   refine wpl_nil ?_
   refine ex_then ?_
   refine wpc_ret ?_
   refine ex_then_ret ?_
   refine ret1 (.inl rfl) rfl rfl ?_
   exact fun w h => ⟨by simp [hne], h.below⟩
  ·
   simp only [bne_eq_false_iff_eq] at hc10
   have hl : xs.length = ys.length := by omega
   refine wpc_skip ?_
   refine ex_then ?_
   refine wpc_seq ?_
   refine wpc_seq ?_
   refine wpc_region ?_
   refine wpl_q (q_pure rfl) rfl ?_
   refine wpl_nil ?_
   refine ex_then ?_
   refine wpc_block ?_
   refine wpc_loopc (ι := { x : Nat // (x ≤ xs.length) ∧ (xs.take x = ys.take x) }) [(0, _), (1, _)] (fun x Lc => (5, .int .i64 ((x.1 : Nat) : Int)) :: Lc) (fun x => Mem w [] [] []) (fun x => xs.length - x.1) ⟨0, ⟨Nat.zero_le _, rfl⟩⟩ (by repeat (first | exact trivial | refine ⟨rfl, ?_⟩)) ?_ ?_
   ·
    exact fun w h => h
   ·
    rintro ⟨i, ⟨hi0, hi1⟩⟩; try dsimp only
    have hi0 : i ≤ xs.length := hi0; have hi1 : xs.take i = ys.take i := hi1
    refine wpc_seq ?_
    refine wpc_seq ?_
    refine wpc_region ?_
    refine wpl_q (q_pure rfl) rfl ?_
    refine wpl_q (q_pure rfl) rfl ?_
    refine wpl_q (q_lenW Try.underlying22 rfl (by first | assumption | exact SV.nil | exact SV.slv (by assumption) (by omega) (by omega) | exact arv_sv (by first | decide | (simp only [maxLen]; omega)))) rfl ?_
    refine wpl_q (q_pure rfl) rfl ?_
    refine wpl_nil ?_
    refine ex_then ?_
    refine wpc_cond rfl (fun hc14 => ?_) (fun hc14 => ?_)
    ·
     try simp only [decide_eq_true_eq, decide_eq_false_iff_not, Bool.and_eq_true, Bool.or_eq_true, beq_iff_eq, bne_iff_ne, ne_eq, Bool.not_eq_true', Bool.not_eq_false', Decidable.not_not] at hc14
     refine wpc_skip ?_
     refine ex_then ?_
     refine wpc_seq ?_
     refine wpc_block ?_
     refine wpc_seq ?_
     refine wpc_draw 9 (by kernel_rfl) (fun _ h => h.drew) ?_
     refine wpd_p 0 rfl (by kernel_rfl) trivial (q_pure rfl) rfl sk0 ?_
     refine wpd_p 1 rfl (by kernel_rfl) trivial (q_pure rfl) rfl sk0 ?_
     refine wpd_p 2 rfl (by kernel_rfl) trivial (q_idxW1 Try.underlying22 Try.ti5 rfl rfl (by first | assumption | exact SV.nil | exact SV.slv (by assumption) (by omega) (by omega) | exact arv_sv (by first | decide | (simp only [maxLen]; omega))) (by first | omega | (simp only [maxLen]; omega) | (simp only [List.length_append, List.length_cons, List.length_nil, List.length_take, maxLen]; omega) | (simp only [List.length_append, List.length_cons, List.length_nil, List.length_take]; omega))) rfl sk0 ?_
     refine wpd_q 3 rfl (by kernel_rfl) trivial (q_ldW Try.underlying5 rfl rfl (fun w h => by first | exact h.seenV | exact h.seenA (by first | decide | (simp only [maxLen]; omega)) (by first | with_reducible rfl | (simp only [v8s_length, v32s_length, vis_length, vns_length, v64s_length, List.length_replicate]; first | done | with_reducible assumption | omega) | (rw [v8s_length]; (first | with_reducible assumption | with_reducible exact shortF_length _ | with_reducible exact stepF_length _ _ _ | with_reducible exact sumF_length _ | with_reducible exact climbF_length _ (by first | with_reducible assumption | with_reducible exact shortF_length _ | with_reducible exact beginF_length _ _ | with_reducible exact getD_mem_len (by assumption) (by omega)) _ _ _ | with_reducible exact beginF_length _ _ | with_reducible exact chainF_length _ _ _ | with_reducible exact recF_length _ _ | with_reducible exact publicF_length _ | with_reducible exact getD_mem_len (by assumption) (by omega) | (with_reducible exact List.length_replicate))) | rfl) | exact h.seen_old (by assumption) | exact h.seen_oldL (by assumption) (by assumption) | exact h.seen_fact (by repeat (first | exact List.mem_cons_self .. | apply List.mem_cons_of_mem))) (by first | exact v8s_get (by first | decide | omega | exact Nat.zero_lt_one | (simp; omega) | (simp; done) | (simp only [v8s_length, v32s_length, vis_length, vns_length, v64s_length]; omega)) | rfl)) rfl (fun _ h => h) ?_
     refine wpd_p 4 rfl (by kernel_rfl) trivial (q_pure rfl) rfl sk0 ?_
     refine wpd_p 5 rfl (by kernel_rfl) trivial (q_pure rfl) rfl sk0 ?_
     refine wpd_p 6 rfl (by kernel_rfl) trivial (q_idxW1 Try.underlying22 Try.ti5 rfl rfl (by first | assumption | exact SV.nil | exact SV.slv (by assumption) (by omega) (by omega) | exact arv_sv (by first | decide | (simp only [maxLen]; omega))) (by first | omega | (simp only [maxLen]; omega) | (simp only [List.length_append, List.length_cons, List.length_nil, List.length_take, maxLen]; omega) | (simp only [List.length_append, List.length_cons, List.length_nil, List.length_take]; omega))) rfl sk0 ?_
     refine wpd_q 7 rfl (by kernel_rfl) trivial (q_ldW Try.underlying5 rfl rfl (fun w h => by first | exact h.seenV | exact h.seenA (by first | decide | (simp only [maxLen]; omega)) (by first | with_reducible rfl | (simp only [v8s_length, v32s_length, vis_length, vns_length, v64s_length, List.length_replicate]; first | done | with_reducible assumption | omega) | (rw [v8s_length]; (first | with_reducible assumption | with_reducible exact shortF_length _ | with_reducible exact stepF_length _ _ _ | with_reducible exact sumF_length _ | with_reducible exact climbF_length _ (by first | with_reducible assumption | with_reducible exact shortF_length _ | with_reducible exact beginF_length _ _ | with_reducible exact getD_mem_len (by assumption) (by omega)) _ _ _ | with_reducible exact beginF_length _ _ | with_reducible exact chainF_length _ _ _ | with_reducible exact recF_length _ _ | with_reducible exact publicF_length _ | with_reducible exact getD_mem_len (by assumption) (by omega) | (with_reducible exact List.length_replicate))) | rfl) | exact h.seen_old (by assumption) | exact h.seen_oldL (by assumption) (by assumption) | exact h.seen_fact (by repeat (first | exact List.mem_cons_self .. | apply List.mem_cons_of_mem))) (by first | exact v8s_get (by first | decide | omega | exact Nat.zero_lt_one | (simp; omega) | (simp; done) | (simp only [v8s_length, v32s_length, vis_length, vns_length, v64s_length]; omega)) | rfl)) rfl (fun _ h => h) ?_
     refine wpd_p 8 rfl (by kernel_rfl) trivial (q8_neq rfl rfl) rfl sk0 ?_
     refine wpd_done (by kernel_rfl) ?_
     refine ex_then ?_
     refine wpc_cond rfl (fun hc25 => ?_) (fun hc25 => ?_)
     ·
      simp only [Bool.not_eq_true', decide_eq_false_iff_not] at hc25
      have hne : xs ≠ ys := fun e => hc25 (by rw [e])
      refine wpc_seq ?_
      refine wpc_region ?_
      refine wpl_q (q_pure rfl) rfl ?_
      refine wpl_nil ?_
      refine ex_then ?_
      refine wpc_ret ?_
      refine ex_block_ret ?_
      refine ex_then_ret ?_
      refine ex_then_ret ?_
      refine ex_block_ret ?_
      refine ex_then_ret ?_
      refine ret1 (.inl rfl) rfl rfl ?_
      exact fun w h => ⟨by simp [hne], h.below⟩
     ·
      simp only [Bool.not_eq_false', decide_eq_true_eq] at hc25
      refine wpc_skip ?_
      refine ex_block ?_
      refine ex_then ?_
      refine wpc_region ?_
      refine wpl_q (q_pure rfl) rfl ?_
      refine wpl_q (q_addN (b := 1) rfl rfl (by first | omega | (simp only [maxLen]; omega) | (simp only [List.length_append, List.length_cons, List.length_nil, List.length_take, maxLen]; omega) | (simp only [List.length_append, List.length_cons, List.length_nil, List.length_take]; omega))) rfl ?_
      refine wpl_q (q_pure rfl) rfl ?_
      refine wpl_nil ?_
      refine ex_again ⟨i + 1, ⟨by omega, same_stepB xs ys i hi1 (by omega) (by omega) hc25⟩⟩ ?_ ?_ ?_
      ·
       exact (by repeat (first | exact trivial | refine ⟨rfl, ?_⟩))
      ·
       exact fun w h => by first | exact h | exact h.sub SubC.h SubC.h | exact h.sub (by repeat (first | exact Sub.nil | exact Sub.refl _ | with_reducible refine Sub.keep ?_ | refine Sub.drop ?_)) (by repeat (first | exact Sub.nil | exact Sub.refl _ | with_reducible refine Sub.keep ?_ | refine Sub.drop ?_))
      ·
       (show xs.length - (i + 1) < xs.length - i); omega
    ·
     simp only [decide_eq_false_iff_not] at hc14
     obtain rfl : i = xs.length := by omega
     have heq : xs = ys := by rw [List.take_length, hl, List.take_length] at hi1; exact hi1
     refine wpc_exit ?_
     refine ex_then_exit ?_
     refine ex_then_exit ?_
     refine ex_block_hit ?_
     refine ex_then ?_
     refine wpc_seq ?_
     refine wpc_region ?_
     refine wpl_q (q_pure rfl) rfl ?_
     refine wpl_nil ?_
     refine ex_then ?_
     refine wpc_ret ?_
     refine ret1 (.inl rfl) rfl rfl ?_
     exact fun w h => ⟨by simp [heq], h.below⟩

set_option maxRecDepth 100000 in
theorem bytesEq (av : Value) (xs : List UInt8) (bv : Value) (ys : List UInt8) (w : World) (hav : Seen w.cell? av xs.length 1 (v8s xs)) (hbv : Seen w.cell? bv ys.length 1 (v8s ys))  :
    Calls Try.prog 52 [av, bv].toArray w (Pur w (.bool (decide (xs = ys)))) := by
  have sav := hav.sv
  have lav := sav.le
  simp only [maxLen] at lav
  have sbv := hbv.sv
  have lbv := sbv.le
  simp only [maxLen] at lbv
  refine enter (m := 10) (R := Mem w [] [] []) Try.func52 rfl rfl (Nat.le_of_ble_eq_true rfl) (Mem.start w) ?_
  refine wpc_seq ?_
  refine wpc_region ?_
  refine wpl_q (q_pure rfl) rfl ?_
  refine wpl_nil ?_
  refine ex_then ?_
  refine wpc_seq ?_
  refine wpc_region ?_
  refine wpl_q (q_pure rfl) rfl ?_
  refine wpl_q (q_cvBS Try.underlying22 Try.underlying5 Try.underlying9 rfl (fun w h => h.seen_old hav)) rfl ?_
  refine wpl_q (q_pure rfl) rfl ?_
  refine wpl_q (q_cvBS Try.underlying22 Try.underlying5 Try.underlying9 rfl (fun w h => h.seen_old hbv)) rfl ?_
  refine wpl_q (q_strEq Try.underlying9 rfl rfl (by kernel_rfl)) rfl ?_
  refine wpl_q (q_pure rfl) rfl ?_
  refine wpl_nil ?_
  refine ex_then ?_
  refine wpc_ret ?_
  refine ret1 (.inl rfl) rfl rfl ?_
  exact fun w h => ⟨rfl, h.below⟩

end Go.Proofs.Ytommkigkkeailaa
