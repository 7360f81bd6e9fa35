/- Weighing a value; the check of the reference. -/
import Derived.Test.YtommkigkkeailaaOD
namespace Go.Proofs.Ytommkigkkeailaa
set_option linter.unusedSimpArgs false
set_option linter.unusedVariables false
open Go Go.PL Go.RowKit

theorem lens_take {l : List HT} {i : Nat} (h : LensL l) : LensL (l.take i) := LensL_iff.2 fun x hx => LensL_iff.1 h x (List.mem_of_mem_take hx)
theorem byt_take {tg : UInt8} {bv lv : Value} {bs : List UInt8} {l : List HT} (h : Lens (.nd tg bv bs lv l)) (i : Nat) : bs.length + bytL (trs (l.take i)) ≤ (1 + cntL (trs (l.take i))) * 140737488351232 := byt_lens (.nd tg bv bs lv (l.take i)) ⟨h.1, lens_take h.2⟩
theorem wk_sum {a b : Nat} (h : a + b ≤ 9223372036854775807) : wk .i64 (((a : Nat) : Int) + ((b : Nat) : Int)) = ((a + b : Nat) : Int) := by
  rw [wk_i64 (by omega) (by omega)]; omega
theorem wt_no {tg : UInt8} {bv lv : Value} {bs : List UInt8} {l : List HT} {d i : Nat} {y : Nat × Int × Bool} (hi : i < l.length) (h : Wt (l.getD i HT.z).tr (d - 1) y) (hd : 1 ≤ d) (hy : y.2.2 = false) : Wt (HT.nd tg bv bs lv l).tr d (0, 0, false) := by
  have h1 := depL_kid hi
  have h2 := cntL_kid hi
  rcases h with ⟨h, _⟩ | ⟨_, h⟩
  · rw [hy] at h; cases h
  · refine .inr ⟨rfl, ?_⟩
    show d < depL (trs l) + 1 ∨ 4200 < 1 + cntL (trs l)
    omega
theorem wt_many {tg : UInt8} {bv lv : Value} {bs : List UInt8} {l : List HT} {d i : Nat} (hi : i < l.length) (h : 10000 < 1 + cntL (trs (l.take i))) : Wt (HT.nd tg bv bs lv l).tr d (0, 0, false) := by
  have h2 := cntL_kid hi
  refine .inr ⟨rfl, .inr ?_⟩
  show 4200 < 1 + cntL (trs l)
  omega

set_option maxRecDepth 100000 in
theorem weigh_step (t : HT) (d : Nat) (w : World) (ht : HSeen w.cell? t) (hl : Lens t) (hd : d ≤ 100) (ih : ∀ x ∈ t.kids, ∀ (d : Nat) (w : World), HSeen w.cell? x → Lens x → d ≤ 100 → Calls Try.prog 41 [.agg x.c.toArray, .int .i64 ((d : Nat) : Int)].toArray w (GivesP w (fun y : Nat × Int × Bool => Wt x.tr d y) (fun y => .tuple #[.int .i64 ((y.1 : Nat) : Int), .int .i64 y.2.1, .bool y.2.2]) (fun _ => []) (fun _ => []))) :
    Calls Try.prog 41 [.agg t.c.toArray, .int .i64 ((d : Nat) : Int)].toArray w (GivesP w (fun y : Nat × Int × Bool => Wt t.tr d y) (fun y => .tuple #[.int .i64 ((y.1 : Nat) : Int), .int .i64 y.2.1, .bool y.2.2]) (fun _ => []) (fun _ => [])) := by
  obtain ⟨tg, bv, bs, lv, l⟩ := t
  have hb := ht.1
  have hk := ht.2.1
  have svb := hb.sv
  have svl := hk.sv
  have lb := svb.le
  have ll := svl.le
  simp only [maxLen] at lb ll
  refine enter (m := 51) (R := Mem w [] [] []) Try.func41 rfl rfl (Nat.le_of_ble_eq_true rfl) (Mem.start w) ?_
  refine wpc_seq ?_
  refine wpc_region ?_
  refine wpl_t (t_box rfl [.int .u8 (tg.toNat : Int), bv, lv] rfl) rfl (fun b2 => ?_)
  refine wpl_q (q_pure rfl) rfl ?_
  refine wpl_q (q_pure rfl) rfl ?_
  refine wpl_q (q_pure rfl) rfl ?_
  refine wpl_nil ?_
  refine ex_then ?_
  refine wpc_seq ?_
  refine wpc_seq ?_
  refine wpc_region ?_
  refine wpl_q (q_pure rfl) rfl ?_
  refine wpl_q (q_pure rfl) rfl ?_
  refine wpl_nil ?_
  refine ex_then ?_
  refine wpc_cond rfl (fun hc14 => ?_) (fun hc14 => ?_)
  ·
   simp only [decide_eq_true_eq] at hc14
   obtain rfl : d = 0 := by omega
   refine wpc_seq ?_
   refine wpc_region ?_
   refine wpl_q (q_pure rfl) rfl ?_
   refine wpl_q (q_pure rfl) rfl ?_
   refine wpl_q (q_pure rfl) rfl ?_
   refine wpl_nil ?_
   refine ex_then ?_
   refine wpc_ret ?_
   refine ex_then_ret ?_
   refine retv3 (.inl rfl) rfl (rv_tmp rfl) (rv_tmp rfl) (rv_tmp rfl) ?_
   exact fun w h => ⟨(0, 0, false), .inr ⟨rfl, .inl (dep_pos _)⟩, rfl, h.below, h.made .nil .nil⟩
  ·
   simp only [decide_eq_false_iff_not] at hc14
   have hd1 : 1 ≤ d := by omega
   refine wpc_skip ?_
   refine ex_then ?_
   refine wpc_seq ?_
   refine wpc_draw 5 (by kernel_rfl) (fun _ h => h.drew) ?_
   refine wpd_p 0 rfl (by kernel_rfl) trivial (q_field Try.underlying25 rfl Try.ti22 rfl rfl _ rfl) rfl sk0 ?_
   refine wpd_q 1 rfl (by kernel_rfl) trivial (q_ld Try.underlying22 rfl rfl rfl) rfl (fun _ h => h) ?_
   refine wpd_p 2 rfl (by kernel_rfl) trivial (q_lenW Try.underlying22 rfl (by first | assumption | exact SV.nil | exact SV.slv (by assumption) (by omega) (by omega) | exact arv_sv (by first | decide | (simp only [maxLen]; omega)))) rfl sk0 ?_
   refine wpd_p 3 rfl (by kernel_rfl) trivial (q_pure rfl) rfl sk0 ?_
   refine wpd_p 4 rfl (by kernel_rfl) trivial (q_pure rfl) rfl sk0 ?_
   refine wpd_done (by kernel_rfl) ?_
   refine ex_then ?_
   refine wpc_seq ?_
   refine wpc_seq ?_
   refine wpc_region ?_
   refine wpl_q (q_pure rfl) rfl ?_
   refine wpl_nil ?_
   refine ex_then ?_
   refine wpc_block ?_
   refine wpc_loopc (ι := { x : Nat × Int // (x.1 ≤ l.length) ∧ (1 + cntL (trs (l.take x.1)) ≤ 10000 * d + 1) ∧ (depL (trs (l.take x.1)) + 1 ≤ d) ∧ (1 + cntL (trs (l.take x.1)) ≤ 4200 → x.2 = ((bs.length + bytL (trs (l.take x.1)) : Nat) : Int)) }) [(1, _), (2, _)] (fun x Lc => (9, .int .i64 ((x.1.1 : Nat) : Int)) :: (7, .int .i64 ((1 + cntL (trs (l.take x.1.1)) : Nat) : Int)) :: (8, .int .i64 x.1.2) :: Lc) (fun x => Mem w [] [.blk b2 25 [.int .u8 (tg.toNat : Int), bv, lv]] []) (fun x => l.length - x.1.1) ⟨(0, ((bs.length : Nat) : Int)), ⟨Nat.zero_le _, by show 1 + 0 ≤ 10000 * d + 1; omega, by show 0 + 1 ≤ d; omega, fun _ => rfl⟩⟩ (by repeat (first | exact trivial | refine ⟨rfl, ?_⟩)) ?_ ?_
   ·
    exact fun w h => h
   ·
    rintro ⟨⟨i, b⟩, ⟨hi0, hi1, hi2, hi3⟩⟩; try dsimp only
    have hi0 : i ≤ l.length := hi0; have hi1 : 1 + cntL (trs (l.take i)) ≤ 10000 * d + 1 := hi1; have hi2 : depL (trs (l.take i)) + 1 ≤ d := hi2; have hi3 : 1 + cntL (trs (l.take i)) ≤ 4200 → b = ((bs.length + bytL (trs (l.take i)) : Nat) : Int) := hi3
    refine wpc_seq ?_
    refine wpc_seq ?_
    refine wpc_region ?_
    refine wpl_q (q_pure rfl) rfl ?_
    refine wpl_q (q_field Try.underlying25 rfl Try.ti23 rfl rfl _ rfl) rfl ?_
    refine wpl_q (q_ld Try.underlying23 rfl rfl rfl) rfl ?_
    refine wpl_q (q_lenW Try.underlying23 rfl (by first | assumption | exact SV.nil | exact SV.slv (by assumption) (by omega) (by omega) | exact arv_sv (by first | decide | (simp only [maxLen]; omega)))) rfl ?_
    refine wpl_q (q_pure rfl) rfl ?_
    refine wpl_nil ?_
    refine ex_then ?_
    refine wpc_cond rfl (fun hc22 => ?_) (fun hc22 => ?_)
    ·
     simp only [decide_eq_true_eq] at hc22
     have hil : i < l.length := by omega
     haveI := (ht.kid hil).sv.one
     have hs1 := cntL_take hil
     have hs2 := depL_take hil
     refine wpc_skip ?_
     refine ex_then ?_
     refine wpc_seq ?_
     refine wpc_block ?_
     refine wpc_seq ?_
     refine wpc_region ?_
     refine wpl_q (q_field Try.underlying25 rfl Try.ti23 rfl rfl _ rfl) rfl ?_
     refine wpl_q (q_ld Try.underlying23 rfl rfl rfl) rfl ?_
     refine wpl_q (q_pure rfl) rfl ?_
     refine wpl_q (q_idxW Try.underlying23 Try.ti25 rfl rfl (by first | assumption | exact SV.nil | exact SV.slv (by assumption) (by omega) (by omega) | exact arv_sv (by first | decide | (simp only [maxLen]; omega))) (by first | omega | (simp only [maxLen]; omega) | (simp only [List.length_append, List.length_cons, List.length_nil, List.length_take, maxLen]; omega) | (simp only [List.length_append, List.length_cons, List.length_nil, List.length_take]; omega))) rfl ?_
     refine wpl_q (q_ldWN Try.underlying25 rfl Try.ti25 rfl (fun w h => h.seen_old hk) (l.getD i HT.z).c (cat_part HT.c_length HT.z hil) (HT.c_length _)) rfl ?_
     refine wpl_q (q_pure rfl) rfl ?_
     refine wpl_q (q_subN (b := 1) rfl rfl (by omega) (by first | omega | (simp only [maxLen]; omega) | (simp only [List.length_append, List.length_cons, List.length_nil, List.length_take, maxLen]; omega) | (simp only [List.length_append, List.length_cons, List.length_nil, List.length_take]; omega))) rfl ?_
     refine wpl_tp (t_callP0 Try.hb41 rfl fun w h => ih (l.getD i HT.z) (getD_memH hil) (d - 1) w ((ht.kid hil).old h) (LensL_iff.1 hl.2 _ (getD_memH hil)) (by omega)) rfl (fun b33 p33 => ?_)
     refine wpl_q (q_pure rfl) rfl ?_
     refine wpl_q (q_pure rfl) rfl ?_
     refine wpl_q (q_pure rfl) rfl ?_
     refine wpl_q (q_pure rfl) rfl ?_
     refine wpl_q (q_pure rfl) rfl ?_
     refine wpl_q (q_pure rfl) rfl ?_
     refine wpl_q (q_pure rfl) rfl ?_
     refine wpl_nil ?_
     refine ex_then ?_
     refine wpc_seq ?_
     refine wpc_seq ?_
     refine wpc_region ?_
     refine wpl_q (q_pure rfl) rfl ?_
     refine wpl_q (q_pure rfl) rfl ?_
     refine wpl_q (q_pure rfl) rfl ?_
     refine wpl_bool2 39 38 rfl rfl (fun hb39 => ?_) (fun hb39 => ?_)
     ·
      have hn : b33.2.2 = false := by simpa using hb39
      refine wpl_off rfl rfl rfl rfl ?_
      refine wpl_off rfl rfl rfl rfl ?_
      refine wpl_q (q_pure rfl) rfl ?_
      refine wpl_nil ?_
      refine ex_then ?_
      refine wpc_cond_t rfl ?_
      refine wpc_seq ?_
      refine wpc_region ?_
      refine wpl_q (q_pure rfl) rfl ?_
      refine wpl_q (q_pure rfl) rfl ?_
      refine wpl_q (q_pure rfl) rfl ?_
      refine wpl_nil ?_
      refine ex_then ?_
      refine wpc_ret ?_
      refine ex_then_ret ?_
      refine ex_block_ret ?_
      refine ex_then_ret ?_
      refine ex_then_ret ?_
      refine ex_block_ret ?_
      refine ex_then_ret ?_
      refine retv3 (.inl rfl) rfl (rv_tmp rfl) (rv_tmp rfl) (rv_tmp rfl) ?_
      exact fun w h => ⟨(0, 0, false), wt_no hil p33 hd1 hn, rfl, h.below, h.made .nil .nil⟩
     ·
      have hy : b33.2.2 = true := by simpa using hb39
      obtain ⟨_, y2, y3, y4, y5⟩ := p33.resolve_right (fun hh => by rw [hy] at hh; cases hh.1)
      refine wpl_on rfl rfl ?_
      refine wpl_q (q_pure rfl) rfl ?_
      refine wpl_on rfl rfl ?_
      refine wpl_q (q_pure rfl) rfl ?_
      refine wpl_q (q_pure rfl) rfl ?_
      refine wpl_nil ?_
      refine ex_then ?_
      refine wpc_cond rfl (fun hc42 => ?_) (fun hc42 => ?_)
      ·
       simp only [decide_eq_true_eq] at hc42
       refine wpc_seq ?_
       refine wpc_region ?_
       refine wpl_q (q_pure rfl) rfl ?_
       refine wpl_q (q_pure rfl) rfl ?_
       refine wpl_q (q_pure rfl) rfl ?_
       refine wpl_nil ?_
       refine ex_then ?_
       refine wpc_ret ?_
       refine ex_then_ret ?_
       refine ex_block_ret ?_
       refine ex_then_ret ?_
       refine ex_then_ret ?_
       refine ex_block_ret ?_
       refine ex_then_ret ?_
       refine retv3 (.inl rfl) rfl (rv_tmp rfl) (rv_tmp rfl) (rv_tmp rfl) ?_
       exact fun w h => ⟨(0, 0, false), wt_many hil (by omega), rfl, h.below, h.made .nil .nil⟩
      ·
       simp only [decide_eq_false_iff_not] at hc42
       refine wpc_skip ?_
       refine ex_then ?_
       refine wpc_seq ?_
       refine wpc_region ?_
       refine wpl_q (q_pure rfl) rfl ?_
       refine wpl_q (q_pure rfl) rfl ?_
       refine wpl_q (q_addN (a := 1 + cntL (trs (l.take i))) (b := b33.1) rfl rfl (by omega)) rfl ?_
       refine wpl_re 45 rfl (congrArg (fun n : Nat => Value.int .i64 (n : Int)) (show 1 + cntL (trs (l.take i)) + b33.1 = 1 + cntL (trs (l.take (i + 1))) by omega)) ?_
       refine wpl_q (q_pure rfl) rfl ?_
       refine wpl_nil ?_
       refine ex_then ?_
       refine wpc_region ?_
       refine wpl_q (q_pure rfl) rfl ?_
       refine wpl_q (q_pure rfl) rfl ?_
       refine wpl_q (q_pure rfl) rfl ?_
       refine wpl_q (q_pure rfl) rfl ?_
       refine wpl_nil ?_
       refine ex_block ?_
       refine ex_then ?_
       refine wpc_region ?_
       refine wpl_q (q_pure rfl) rfl ?_
       refine wpl_q (q_addN (b := 1) rfl rfl (by first | omega | (simp only [maxLen]; omega) | (simp only [List.length_append, List.length_cons, List.length_nil, List.length_take, maxLen]; omega) | (simp only [List.length_append, List.length_cons, List.length_nil, List.length_take]; omega))) rfl ?_
       refine wpl_q (q_pure rfl) rfl ?_
       refine wpl_nil ?_
       refine ex_again ⟨(i + 1, wk .i64 (b + b33.2.1)), ⟨by dsimp only; omega, by dsimp only; omega, by dsimp only; omega, fun hc => by
         dsimp only at hc ⊢
         have e1 := hi3 (by omega)
         have e2 := y5 (by omega)
         have e3 := bytL_take hil
         have e4 := byt_take hl (i + 1)
         have e5 : (1 + cntL (trs (l.take (i + 1)))) * 140737488351232 ≤ 4200 * 140737488351232 := Nat.mul_le_mul_right _ hc
         rw [e1, e2, wk_sum (by omega)]; omega⟩⟩ ?_ ?_ ?_
       ·
        exact (by repeat (first | exact trivial | refine ⟨rfl, ?_⟩))
       ·
        exact fun w h => h
       ·
        (show l.length - (i + 1) < l.length - i); omega
    ·
     simp only [decide_eq_false_iff_not] at hc22
     obtain rfl : i = l.length := by omega
     rw [List.take_length] at hi1 hi2 hi3
     refine wpc_exit ?_
     refine ex_then_exit ?_
     refine ex_then_exit ?_
     refine ex_block_hit ?_
     refine ex_then ?_
     refine wpc_seq ?_
     refine wpc_region ?_
     refine wpl_q (q_pure rfl) rfl ?_
     refine wpl_q (q_pure rfl) rfl ?_
     refine wpl_q (q_pure rfl) rfl ?_
     refine wpl_q (q_pure rfl) rfl ?_
     refine wpl_q (q_pure rfl) rfl ?_
     refine wpl_nil ?_
     refine ex_then ?_
     refine wpc_ret ?_
     refine retv3 (.inl rfl) rfl (rv_tmp rfl) (rv_tmp rfl) (rv_tmp rfl) ?_
     exact fun w h => ⟨(1 + cntL (trs l), b, true), .inl ⟨rfl, hi2, rfl, hi1, hi3⟩, by first | rfl | rw [List.take_length], h.below, h.made .nil .nil⟩

theorem weigh : ∀ (t : HT) (d : Nat) (w : World), HSeen w.cell? t → Lens t → d ≤ 100 → Calls Try.prog 41 [.agg t.c.toArray, .int .i64 ((d : Nat) : Int)].toArray w (GivesP w (fun y : Nat × Int × Bool => Wt t.tr d y) (fun y => .tuple #[.int .i64 ((y.1 : Nat) : Int), .int .i64 y.2.1, .bool y.2.2]) (fun _ => []) (fun _ => [])) := by
  intro t
  induction t using HT.ind with
  | _ tg bv bs lv l ih => intro d w h hl hd; exact weigh_step _ d w h hl hd (fun x hx d w hx' hl' hd' => ih x hx d w hx' hl' hd')

set_option maxRecDepth 100000 in
theorem great (t : HT) (w : World) (ht : HSeen w.cell? t) (hl : Lens t) :
    Calls Try.prog 12 [.agg t.c.toArray].toArray w (Pur w (.bool (decide (GreatT t.tr)))) := by
  obtain ⟨tg, bv, bs, lv, l⟩ := t
  have hb := ht.1
  have hk := ht.2.1
  have svb := hb.sv
  have svl := hk.sv
  have lb := svb.le
  have ll := svl.le
  simp only [maxLen] at lb ll
  refine enter (m := 22) (R := Mem w [] [] []) Try.func12 rfl rfl (Nat.le_of_ble_eq_true rfl) (Mem.start w) ?_
  refine wpc_seq ?_
  refine wpc_region ?_
  refine wpl_t (t_box rfl [.int .u8 (tg.toNat : Int), bv, lv] rfl) rfl (fun b1 => ?_)
  refine wpl_q (q_pure rfl) rfl ?_
  refine wpl_nil ?_
  refine ex_then ?_
  refine wpc_seq ?_
  refine wpc_region ?_
  refine wpl_q (q_ldN Try.underlying25 rfl Try.ti25 rfl LenC.h) rfl ?_
  refine wpl_tp (t_callP0 Try.hb41 rfl fun w h => weigh (.nd tg bv bs lv l) 30 w (ht.old h) hl (by decide)) rfl (fun b8 p8 => ?_)
  refine wpl_q (q_pure rfl) rfl ?_
  refine wpl_q (q_pure rfl) rfl ?_
  refine wpl_q (q_pure rfl) rfl ?_
  refine wpl_q (q_pure rfl) rfl ?_
  refine wpl_q (q_pure rfl) rfl ?_
  refine wpl_q (q_pure rfl) rfl ?_
  refine wpl_q (q_pure rfl) rfl ?_
  refine wpl_nil ?_
  refine ex_then ?_
  refine wpc_seq ?_
  refine wpc_region ?_
  refine wpl_q (q_pure rfl) rfl ?_
  refine wpl_q (q_pure rfl) rfl ?_
  refine wpl_q (q_pure rfl) rfl ?_
  refine wpl_bool2 14 13 rfl rfl (fun hb14 => ?_) (fun hb14 => ?_)
  ·
   have hn : b8.2.2 = false := by simpa using hb14
   have hg : GreatT (HT.nd tg bv bs lv l).tr := by
     obtain ⟨_, hh⟩ := p8.resolve_left (fun hh => by rw [hn] at hh; cases hh.1)
     unfold GreatT; omega
   refine wpl_off rfl rfl rfl rfl ?_
   refine wpl_off rfl rfl rfl rfl ?_
   refine wpl_q (q_pure rfl) rfl ?_
   refine wpl_q (q_pure rfl) rfl ?_
   refine wpl_off rfl rfl rfl rfl ?_
   refine wpl_off rfl rfl rfl rfl ?_
   refine wpl_q (q_pure rfl) rfl ?_
   refine wpl_q (q_pure rfl) rfl ?_
   refine wpl_nil ?_
   refine ex_then ?_
   refine wpc_ret ?_
   refine ret1 (.inl rfl) rfl rfl ?_
   exact fun w h => ⟨by rw [decide_eq_true hg], h.below⟩
  ·
   have hy : b8.2.2 = true := by simpa using hb14
   obtain ⟨_, y2, y3, y4, y5⟩ := p8.resolve_right (fun hh => by rw [hy] at hh; cases hh.1)
   refine wpl_on rfl rfl ?_
   refine wpl_q (q_pure rfl) rfl ?_
   refine wpl_on rfl rfl ?_
   refine wpl_q (q_pure rfl) rfl ?_
   refine wpl_q (q_pure rfl) rfl ?_
   refine wpl_q (q_pure rfl) rfl ?_
   refine wpl_bool2 18 16 rfl rfl (fun hb18 => ?_) (fun hb18 => ?_)
   ·
    have hg : GreatT (HT.nd tg bv bs lv l).tr := by
      simp only [decide_eq_true_eq] at hb18
      unfold GreatT; omega
    refine wpl_off rfl rfl rfl rfl ?_
    refine wpl_off rfl rfl rfl rfl ?_
    refine wpl_q (q_pure rfl) rfl ?_
    refine wpl_q (q_pure rfl) rfl ?_
    refine wpl_nil ?_
    refine ex_then ?_
    refine wpc_ret ?_
    refine ret1 (.inl rfl) rfl rfl ?_
    exact fun w h => ⟨by rw [decide_eq_true hg], h.below⟩
   ·
    try simp only [decide_eq_false_iff_not] at hb18
    have e5 := y5 (by omega)
    refine wpl_on rfl rfl ?_
    refine wpl_q (q_pure rfl) rfl ?_
    refine wpl_on rfl rfl ?_
    refine wpl_q (q_pure rfl) rfl ?_
    refine wpl_q (q_pure rfl) rfl ?_
    refine wpl_q (q_pure rfl) rfl ?_
    refine wpl_nil ?_
    refine ex_then ?_
    refine wpc_ret ?_
    refine ret1 (.inl rfl) rfl rfl ?_
    exact fun w h => ⟨by
      congr 2
      rw [decide_eq_decide, e5]
      unfold GreatT; omega, h.below⟩


def checkF (t : Tr) : Int := if 4000 < t.cnt ∨ 12 < t.dep then 4 else if t.shp = false then 8 else if 65536 < t.siz then 4 else 0

set_option maxRecDepth 100000 in
theorem refCheck (t : HT) (w : World) (ht : HSeen w.cell? t) (hsm : Sm t.tr) (hdp : t.tr.dep ≤ 1000000) :
    Calls Try.prog 31 [.agg t.c.toArray].toArray w (Pur w (.int .i64 (checkF t.tr))) := by
  obtain ⟨tg, bv, bs, lv, l⟩ := t
  have hb := ht.1
  have hk := ht.2.1
  have svb := hb.sv
  have svl := hk.sv
  have lb := svb.le
  have ll := svl.le
  simp only [maxLen] at lb ll
  have hcn : (HT.nd tg bv bs lv l).tr.byt + 5 * (HT.nd tg bv bs lv l).tr.cnt ≤ 1000000 := hsm
  refine enter (m := 17) (R := Mem w [] [] []) Try.func31 rfl rfl (Nat.le_of_ble_eq_true rfl) (Mem.start w) ?_
  refine wpc_seq ?_
  refine wpc_region ?_
  refine wpl_t (t_box rfl [.int .u8 (tg.toNat : Int), bv, lv] rfl) rfl (fun b1 => ?_)
  refine wpl_q (q_pure rfl) rfl ?_
  refine wpl_nil ?_
  refine ex_then ?_
  refine wpc_seq ?_
  refine wpc_seq ?_
  refine wpc_region ?_
  refine wpl_q (q_ldN Try.underlying25 rfl Try.ti25 rfl LenC.h) rfl ?_
  refine wpl_t (t_pur Try.hb48 rfl fun w h => refCount (.nd tg bv bs lv l) w (ht.old h) (by omega)) rfl (fun b4 => ?_)
  refine wpl_q (q_pure rfl) rfl ?_
  refine wpl_q (q_pure rfl) rfl ?_
  refine wpl_bool2 6 5 rfl rfl (fun hb6 => ?_) (fun hb6 => ?_)
  ·
   try simp only [decide_eq_true_eq] at hb6
   refine wpl_off rfl rfl rfl rfl ?_
   refine wpl_off rfl rfl rfl rfl ?_
   refine wpl_off rfl rfl rfl rfl ?_
   refine wpl_q (q_pure rfl) rfl ?_
   refine wpl_nil ?_
   refine ex_then ?_
   refine wpc_cond_t rfl ?_
   refine wpc_seq ?_
   refine wpc_region ?_
   refine wpl_q (q_pure rfl) rfl ?_
   refine wpl_nil ?_
   refine ex_then ?_
   refine wpc_ret ?_
   refine ex_then_ret ?_
   refine ret1 (.inl rfl) rfl rfl ?_
   exact fun w h => ⟨by rw [checkF, if_pos (by omega)], h.below⟩
  ·
   try simp only [decide_eq_false_iff_not] at hb6
   refine wpl_on rfl rfl ?_
   refine wpl_q (q_ldN Try.underlying25 rfl Try.ti25 rfl LenC.h) rfl ?_
   refine wpl_on rfl rfl ?_
   refine wpl_t (t_pur Try.hb49 rfl fun w h => refDepth (.nd tg bv bs lv l) w (ht.old h) hdp) rfl (fun b8 => ?_)
   refine wpl_on rfl rfl ?_
   refine wpl_q (q_pure rfl) rfl ?_
   refine wpl_q (q_pure rfl) rfl ?_
   refine wpl_nil ?_
   refine ex_then ?_
   refine wpc_cond rfl (fun hc10 => ?_) (fun hc10 => ?_)
   ·
    try simp only [decide_eq_true_eq] at hc10
    refine wpc_seq ?_
    refine wpc_region ?_
    refine wpl_q (q_pure rfl) rfl ?_
    refine wpl_nil ?_
    refine ex_then ?_
    refine wpc_ret ?_
    refine ex_then_ret ?_
    refine ret1 (.inl rfl) rfl rfl ?_
    exact fun w h => ⟨by rw [checkF, if_pos (by omega)], h.below⟩
   ·
    simp only [decide_eq_false_iff_not] at hc10
    have h1 : ¬ (4000 < (HT.nd tg bv bs lv l).tr.cnt ∨ 12 < (HT.nd tg bv bs lv l).tr.dep) := by omega
    refine wpc_skip ?_
    refine ex_then ?_
    refine wpc_seq ?_
    refine wpc_seq ?_
    refine wpc_region ?_
    refine wpl_q (q_ldN Try.underlying25 rfl Try.ti25 rfl LenC.h) rfl ?_
    refine wpl_t (t_pur Try.hb50 rfl fun w h => refShaped (.nd tg bv bs lv l) w (ht.old h) trivial) rfl (fun b12 => ?_)
    refine wpl_q (q_pure rfl) rfl ?_
    refine wpl_nil ?_
    refine ex_then ?_
    refine wpc_cond rfl (fun hc13 => ?_) (fun hc13 => ?_)
    ·
     have h2 : (HT.nd tg bv bs lv l).tr.shp = false := by simpa using hc13
     refine wpc_seq ?_
     refine wpc_region ?_
     refine wpl_q (q_pure rfl) rfl ?_
     refine wpl_nil ?_
     refine ex_then ?_
     refine wpc_ret ?_
     refine ex_then_ret ?_
     refine ret1 (.inl rfl) rfl rfl ?_
     exact fun w h => ⟨by rw [checkF, if_neg h1, if_pos h2], h.below⟩
    ·
     have h2 : ¬ (HT.nd tg bv bs lv l).tr.shp = false := by rw [Bool.not_eq_false]; simpa using hc13
     refine wpc_skip ?_
     refine ex_then ?_
     refine wpc_seq ?_
     refine wpc_seq ?_
     refine wpc_region ?_
     refine wpl_q (q_ldN Try.underlying25 rfl Try.ti25 rfl LenC.h) rfl ?_
     refine wpl_t (t_pur Try.hb51 rfl fun w h => refSize (.nd tg bv bs lv l) w (ht.old h) hsm) rfl (fun b15 => ?_)
     refine wpl_q (q_pure rfl) rfl ?_
     refine wpl_nil ?_
     refine ex_then ?_
     refine wpc_cond rfl (fun hc16 => ?_) (fun hc16 => ?_)
     ·
      simp only [decide_eq_true_eq] at hc16
      refine wpc_seq ?_
      refine wpc_region ?_
      refine wpl_q (q_pure rfl) rfl ?_
      refine wpl_nil ?_
      refine ex_then ?_
      refine wpc_ret ?_
      refine ex_then_ret ?_
      refine ret1 (.inl rfl) rfl rfl ?_
      exact fun w h => ⟨by rw [checkF, if_neg h1, if_neg h2, if_pos (by omega)], h.below⟩
     ·
      simp only [decide_eq_false_iff_not] at hc16
      refine wpc_skip ?_
      refine ex_then ?_
      refine wpc_seq ?_
      refine wpc_region ?_
      refine wpl_q (q_pure rfl) rfl ?_
      refine wpl_nil ?_
      refine ex_then ?_
      refine wpc_ret ?_
      refine ret1 (.inl rfl) rfl rfl ?_
      exact fun w h => ⟨by rw [checkF, if_neg h1, if_neg h2, if_neg (by omega)], h.below⟩

end Go.Proofs.Ytommkigkkeailaa
