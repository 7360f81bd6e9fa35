/- Numbers, strings and lists read. -/
import Derived.Test.YtommkigkkeailaaOJ
namespace Go.Proofs.Ytommkigkkeailaa
set_option linter.unusedSimpArgs false
set_option linter.unusedVariables false
open Go Go.PL Go.RowKit

def Tr.tg : Tr → UInt8 | .nd t _ _ => t
def Tr.bs : Tr → List UInt8 | .nd _ bs _ => bs
def Tr.kids : Tr → List Tr | .nd _ _ l => l
def numOf (bs : List UInt8) : Nat := bs.foldl (fun n b => 256 * n + b.toNat) 0
theorem numOf_take {bs : List UInt8} {i : Nat} (h : i < bs.length) : numOf (bs.take (i + 1)) = 256 * numOf (bs.take i) + (bs.getD i 0).toNat := by
  rw [take_succD 0 h, numOf, List.foldl_append]; rfl
theorem numOf_lt {bs : List UInt8} : ∀ {i : Nat}, i ≤ bs.length → numOf (bs.take i) < 256 ^ i
  | 0, _ => by rw [List.take_zero]; decide
  | i + 1, h => by
    have h1 := numOf_lt (bs := bs) (i := i) (by omega)
    have h2 := (bs.getD i 0).toNat_lt
    rw [numOf_take (by omega), Nat.pow_succ]; omega
theorem or_step {v : UInt64} (b : UInt8) {n : Nat} (hv : v.toNat = n) (h : n < 2 ^ 56) : ((sl64 v 8) ||| of64 (b.toNat : Int)).toNat = 256 * n + b.toNat := by
  have hb := b.toNat_lt
  have h1 : (sl64 v 8).toNat = 256 * n := by
    show (UInt64.ofNat (v.toNat * 2 ^ min 8 64)).toNat = _
    rw [hv, UInt64.toNat_ofNat']
    show n * 256 % 2 ^ 64 = _
    omega
  rw [UInt64.toNat_or, h1, of64_nat _ (by omega)]
  have h2 := Nat.shiftLeft_add_eq_or_of_lt (i := 8) (b := b.toNat) (by omega) n
  rw [Nat.shiftLeft_eq, Nat.mul_comm] at h2
  exact h2.symm
theorem add_step {v : UInt64} (b : UInt8) {n : Nat} (hv : v.toNat = n) (h : n < 2 ^ 56) : ((256 : UInt64) * v + of64 (b.toNat : Int)).toNat = 256 * n + b.toNat := by
  have hb := b.toNat_lt
  rw [UInt64.toNat_add, UInt64.toNat_mul, of64_nat _ (by omega), hv]
  show (256 * n % 2 ^ 64 + b.toNat) % 2 ^ 64 = _
  omega
theorem numOf_56 {bs : List UInt8} {i : Nat} (hi : i < bs.length) (hl : bs.length ≤ 8) : numOf (bs.take i) < 2 ^ 56 := by
  have h1 := numOf_lt (bs := bs) (i := i) (by omega)
  have h2 : 256 ^ i ≤ 256 ^ 7 := Nat.pow_le_pow_right (by decide) (by omega)
  have h3 : (256 : Nat) ^ 7 = 2 ^ 56 := by decide
  omega
def badN (g : UInt8) (t : Tr) : Prop := t.tg ≠ g ∨ 0 < t.kids.length ∨ 8 < t.bs.length ∨ (0 < t.bs.length ∧ t.bs.getD 0 0 = 0)
instance {g : UInt8} {t : Tr} : Decidable (badN g t) := by unfold badN; exact inferInstance
def rdNum (t : Tr) (g : UInt8) (mx : UInt64) : UInt64 × Nat := if badN g t then (0, 12) else if mx.toNat < numOf t.bs then (0, 12) else (UInt64.ofNat (numOf t.bs), 0)

set_option maxRecDepth 100000 in
theorem octReadNum (t : HT) (g : UInt8) (mx : UInt64) (w : World) (ht : HSeen w.cell? t)  :
    Calls Try.prog 14 [.agg t.c.toArray, .int .u8 g.toNat, .int .u64 mx.toNat].toArray w (Pur w (.tuple #[.int .u64 ((rdNum t.tr g mx).1.toNat : Int), .int .i64 (((rdNum t.tr g mx).2 : Nat) : Int)])) := by
  obtain ⟨tg, bv, bs, lv, l⟩ := t
  have hb := ht.1
  have hk := ht.2.1
  have svb := hb.sv
  have svl := hk.sv
  have lb := svb.le
  have ll := svl.le
  simp only [maxLen] at lb ll
  refine enter (m := 57) (R := Mem w [] [] []) Try.func14 rfl rfl (Nat.le_of_ble_eq_true rfl) (Mem.start w) ?_
  refine wpc_seq ?_
  refine wpc_region ?_
  refine wpl_t (t_box rfl [.int .u8 (tg.toNat : Int), bv, lv] rfl) rfl (fun b3 => ?_)
  refine wpl_q (q_pure rfl) rfl ?_
  refine wpl_q (q_pure rfl) rfl ?_
  refine wpl_nil ?_
  refine ex_then ?_
  refine wpc_seq ?_
  refine wpc_seq ?_
  refine wpc_region ?_
  refine wpl_q (q_field Try.underlying25 rfl Try.ti5 rfl rfl _ rfl) rfl ?_
  refine wpl_q (q_ld Try.underlying5 rfl rfl (by first | exact v8s_get (by first | decide | omega | exact Nat.zero_lt_one | (simp; omega) | (simp; done) | (simp only [v8s_length, v32s_length, vis_length, vns_length, v64s_length]; omega)) | rfl)) rfl ?_
  refine wpl_q (q_pure rfl) rfl ?_
  refine wpl_q (q8_neq rfl rfl) rfl ?_
  refine wpl_q (q_pure rfl) rfl ?_
  refine wpl_bool2 15 14 rfl rfl (fun hb15 => ?_) (fun hb15 => ?_)
  ·
   have hN : badN g (HT.nd tg bv bs lv l).tr := .inl (show ¬ tg = g by simpa using hb15)
   refine wpl_off rfl rfl rfl rfl ?_
   refine wpl_off rfl rfl rfl rfl ?_
   refine wpl_off rfl rfl rfl rfl ?_
   refine wpl_off rfl rfl rfl rfl ?_
   refine wpl_q (q_pure rfl) rfl ?_
   refine wpl_q (q_pure rfl) rfl ?_
   refine wpl_off rfl rfl rfl rfl ?_
   refine wpl_off rfl rfl rfl rfl ?_
   refine wpl_off rfl rfl rfl rfl ?_
   refine wpl_off rfl rfl rfl rfl ?_
   refine wpl_q (q_pure rfl) rfl ?_
   refine wpl_q (q_pure rfl) rfl ?_
   refine wpl_off rfl rfl rfl rfl ?_
   refine wpl_off rfl rfl rfl rfl ?_
   refine wpl_off rfl rfl rfl rfl ?_
   refine wpl_off rfl rfl rfl rfl ?_
   refine wpl_off rfl rfl rfl rfl ?_
   refine wpl_off rfl rfl rfl rfl ?_
   refine wpl_off rfl rfl rfl rfl ?_
   refine wpl_off rfl rfl rfl rfl ?_
   refine wpl_off rfl rfl rfl rfl ?_
   refine wpl_off rfl rfl rfl rfl ?_
   refine wpl_off rfl rfl rfl rfl ?_
   refine wpl_q (q_pure rfl) rfl ?_
   refine wpl_nil ?_
   refine ex_then ?_
   refine wpc_cond_t rfl ?_
   refine wpc_seq ?_
   refine wpc_region ?_
   refine wpl_q (q_pure rfl) rfl ?_
   refine wpl_q (q_pure rfl) rfl ?_
   refine wpl_nil ?_
   refine ex_then ?_
   refine wpc_ret ?_
   refine ex_then_ret ?_
   refine ret2 (.inl rfl) rfl rfl rfl ?_
   exact fun w h => ⟨by rw [rdNum, if_pos hN]; rfl, h.below⟩
  ·
   have n1 : tg = g := by simpa using hb15
   refine wpl_on rfl rfl ?_
   refine wpl_q (q_field Try.underlying25 rfl Try.ti23 rfl rfl _ rfl) rfl ?_
   refine wpl_on rfl rfl ?_
   refine wpl_q (q_ld Try.underlying23 rfl rfl rfl) rfl ?_
   refine wpl_on rfl rfl ?_
   refine wpl_q (q_lenW Try.underlying23 rfl (by first | assumption | exact SV.nil | exact SV.slv (by assumption) (by omega) (by omega) | exact arv_sv (by first | decide | (simp only [maxLen]; omega)))) rfl ?_
   refine wpl_on rfl rfl ?_
   refine wpl_q (q_pure rfl) rfl ?_
   refine wpl_q (q_pure rfl) rfl ?_
   refine wpl_q (q_pure rfl) rfl ?_
   refine wpl_bool2 21 19 rfl rfl (fun hb21 => ?_) (fun hb21 => ?_)
   ·
    try simp only [decide_eq_true_eq] at hb21
    have hN : badN g (HT.nd tg bv bs lv l).tr := .inr (.inl (by show 0 < (trs l).length; rw [trs_length]; omega))
    refine wpl_off rfl rfl rfl rfl ?_
    refine wpl_off rfl rfl rfl rfl ?_
    refine wpl_off rfl rfl rfl rfl ?_
    refine wpl_off rfl rfl rfl rfl ?_
    refine wpl_q (q_pure rfl) rfl ?_
    refine wpl_q (q_pure rfl) rfl ?_
    refine wpl_off rfl rfl rfl rfl ?_
    refine wpl_off rfl rfl rfl rfl ?_
    refine wpl_off rfl rfl rfl rfl ?_
    refine wpl_off rfl rfl rfl rfl ?_
    refine wpl_off rfl rfl rfl rfl ?_
    refine wpl_off rfl rfl rfl rfl ?_
    refine wpl_off rfl rfl rfl rfl ?_
    refine wpl_off rfl rfl rfl rfl ?_
    refine wpl_off rfl rfl rfl rfl ?_
    refine wpl_off rfl rfl rfl rfl ?_
    refine wpl_off rfl rfl rfl rfl ?_
    refine wpl_q (q_pure rfl) rfl ?_
    refine wpl_nil ?_
    refine ex_then ?_
    refine wpc_cond_t rfl ?_
    refine wpc_seq ?_
    refine wpc_region ?_
    refine wpl_q (q_pure rfl) rfl ?_
    refine wpl_q (q_pure rfl) rfl ?_
    refine wpl_nil ?_
    refine ex_then ?_
    refine wpc_ret ?_
    refine ex_then_ret ?_
    refine ret2 (.inl rfl) rfl rfl rfl ?_
    exact fun w h => ⟨by rw [rdNum, if_pos hN]; rfl, h.below⟩
   ·
    try simp only [decide_eq_false_iff_not] at hb21
    have n2 : ¬ 0 < (trs l).length := by rw [trs_length]; omega
    refine wpl_on rfl rfl ?_
    refine wpl_q (q_field Try.underlying25 rfl Try.ti22 rfl rfl _ rfl) rfl ?_
    refine wpl_on rfl rfl ?_
    refine wpl_q (q_ld Try.underlying22 rfl rfl rfl) rfl ?_
    refine wpl_on rfl rfl ?_
    refine wpl_q (q_lenW Try.underlying22 rfl (by first | assumption | exact SV.nil | exact SV.slv (by assumption) (by omega) (by omega) | exact arv_sv (by first | decide | (simp only [maxLen]; omega)))) rfl ?_
    refine wpl_on rfl rfl ?_
    refine wpl_q (q_pure rfl) rfl ?_
    refine wpl_q (q_pure rfl) rfl ?_
    refine wpl_q (q_pure rfl) rfl ?_
    refine wpl_bool2 27 25 rfl rfl (fun hb27 => ?_) (fun hb27 => ?_)
    ·
     try simp only [decide_eq_true_eq] at hb27
     have hN : badN g (HT.nd tg bv bs lv l).tr := .inr (.inr (.inl (by show 8 < bs.length; omega)))
     refine wpl_off rfl rfl rfl rfl ?_
     refine wpl_off rfl rfl rfl rfl ?_
     refine wpl_off rfl rfl rfl rfl ?_
     refine wpl_off rfl rfl rfl rfl ?_
     refine wpl_off rfl rfl rfl rfl ?_
     refine wpl_off rfl rfl rfl rfl ?_
     refine wpl_off rfl rfl rfl rfl ?_
     refine wpl_off rfl rfl rfl rfl ?_
     refine wpl_off rfl rfl rfl rfl ?_
     refine wpl_off rfl rfl rfl rfl ?_
     refine wpl_off rfl rfl rfl rfl ?_
     refine wpl_q (q_pure rfl) rfl ?_
     refine wpl_nil ?_
     refine ex_then ?_
     refine wpc_cond_t rfl ?_
     refine wpc_seq ?_
     refine wpc_region ?_
     refine wpl_q (q_pure rfl) rfl ?_
     refine wpl_q (q_pure rfl) rfl ?_
     refine wpl_nil ?_
     refine ex_then ?_
     refine wpc_ret ?_
     refine ex_then_ret ?_
     refine ret2 (.inl rfl) rfl rfl rfl ?_
     exact fun w h => ⟨by rw [rdNum, if_pos hN]; rfl, h.below⟩
    ·
     try simp only [decide_eq_false_iff_not] at hb27
     have n3 : ¬ 8 < bs.length := by omega
     refine wpl_on rfl rfl ?_
     refine wpl_q (q_field Try.underlying25 rfl Try.ti22 rfl rfl _ rfl) rfl ?_
     refine wpl_on rfl rfl ?_
     refine wpl_q (q_ld Try.underlying22 rfl rfl rfl) rfl ?_
     refine wpl_on rfl rfl ?_
     refine wpl_q (q_lenW Try.underlying22 rfl (by first | assumption | exact SV.nil | exact SV.slv (by assumption) (by omega) (by omega) | exact arv_sv (by first | decide | (simp only [maxLen]; omega)))) rfl ?_
     refine wpl_on rfl rfl ?_
     refine wpl_q (q_pure rfl) rfl ?_
     refine wpl_on rfl rfl ?_
     refine wpl_q (q_pure rfl) rfl ?_
     refine wpl_bool2 32 31 rfl rfl (fun hb32 => ?_) (fun hb32 => ?_)
     ·
      try simp only [decide_eq_true_eq] at hb32
      have p4 : 0 < bs.length := by omega
      refine wpl_on rfl rfl ?_
      refine wpl_q (q_field Try.underlying25 rfl Try.ti22 rfl rfl _ rfl) rfl ?_
      refine wpl_on rfl rfl ?_
      refine wpl_q (q_ld Try.underlying22 rfl rfl rfl) rfl ?_
      refine wpl_on rfl rfl ?_
      refine wpl_q (q_idxW1 (j := 0) Try.underlying22 Try.ti5 rfl rfl (by first | assumption | exact SV.nil | exact SV.slv (by assumption) (by omega) (by omega) | exact arv_sv (by first | decide | (simp only [maxLen]; omega))) (by first | omega | (simp only [maxLen]; omega) | (simp only [List.length_append, List.length_cons, List.length_nil, List.length_take, maxLen]; omega) | (simp only [List.length_append, List.length_cons, List.length_nil, List.length_take]; omega))) rfl ?_
      refine wpl_on rfl rfl ?_
      refine wpl_q (q_ldW Try.underlying5 rfl rfl (fun w h => by first | exact h.seenV | exact h.seenA (by first | decide | (simp only [maxLen]; omega)) (by first | with_reducible rfl | (simp only [v8s_length, v32s_length, vis_length, vns_length, v64s_length, List.length_replicate]; first | done | with_reducible assumption | omega) | (rw [v8s_length]; (first | with_reducible assumption | with_reducible exact shortF_length _ | with_reducible exact stepF_length _ _ _ | with_reducible exact sumF_length _ | with_reducible exact climbF_length _ (by first | with_reducible assumption | with_reducible exact shortF_length _ | with_reducible exact beginF_length _ _ | with_reducible exact getD_mem_len (by assumption) (by omega)) _ _ _ | with_reducible exact beginF_length _ _ | with_reducible exact chainF_length _ _ _ | with_reducible exact recF_length _ _ | with_reducible exact publicF_length _ | with_reducible exact getD_mem_len (by assumption) (by omega) | (with_reducible exact List.length_replicate))) | rfl) | exact h.seen_old (by assumption) | exact h.seen_oldL (by assumption) (by assumption) | exact h.seen_fact (by repeat (first | exact List.mem_cons_self .. | apply List.mem_cons_of_mem))) (by first | exact v8s_get (by first | decide | omega | exact Nat.zero_lt_one | (simp; omega) | (simp; done) | (simp only [v8s_length, v32s_length, vis_length, vns_length, v64s_length]; omega)) | rfl)) rfl ?_
      refine wpl_on rfl rfl ?_
      refine wpl_q (q8_eql (b := (0 : UInt8)) rfl rfl) rfl ?_
      refine wpl_on rfl rfl ?_
      refine wpl_q (q_pure rfl) rfl ?_
      refine wpl_q (q_pure rfl) rfl ?_
      refine wpl_nil ?_
      refine ex_then ?_
      refine wpc_cond rfl (fun hc39 => ?_) (fun hc39 => ?_)
      ·
       have hN : badN g (HT.nd tg bv bs lv l).tr := .inr (.inr (.inr ⟨p4, show bs.getD 0 0 = 0 by simpa using hc39⟩))
       refine wpc_seq ?_
       refine wpc_region ?_
       refine wpl_q (q_pure rfl) rfl ?_
       refine wpl_q (q_pure rfl) rfl ?_
       refine wpl_nil ?_
       refine ex_then ?_
       refine wpc_ret ?_
       refine ex_then_ret ?_
       refine ret2 (.inl rfl) rfl rfl rfl ?_
       exact fun w h => ⟨by rw [rdNum, if_pos hN]; rfl, h.below⟩
      ·
       have n4 : ¬ bs.getD 0 0 = 0 := by simpa using hc39
       have hB : ¬ badN g (HT.nd tg bv bs lv l).tr := by rintro (h | h | h | h); exact h n1; exact n2 h; exact n3 h; exact n4 h.2
       refine wpc_skip ?_
       refine ex_then ?_
       refine wpc_seq ?_
       refine wpc_region ?_
       refine wpl_q (q_pure rfl) rfl ?_
       refine wpl_nil ?_
       refine ex_then ?_
       refine wpc_seq ?_
       refine wpc_seq ?_
       refine wpc_region ?_
       refine wpl_q (q_field Try.underlying25 rfl Try.ti22 rfl rfl _ rfl) rfl ?_
       refine wpl_q (q_ld Try.underlying22 rfl rfl rfl) rfl ?_
       refine wpl_q (q_lenW Try.underlying22 rfl (by first | assumption | exact SV.nil | exact SV.slv (by assumption) (by omega) (by omega) | exact arv_sv (by first | decide | (simp only [maxLen]; omega)))) rfl ?_
       refine wpl_q (q_pure rfl) rfl ?_
       refine wpl_nil ?_
       refine ex_then ?_
       refine wpc_block ?_
       refine wpc_loopc (ι := { x : Nat × UInt64 // (x.1 ≤ bs.length) ∧ (x.2.toNat = numOf (bs.take x.1)) }) [(2, _), (41, _), (42, _)] (fun x Lc => (43, .int .i64 ((x.1.1 : Nat) : Int)) :: (8, .int .u64 (x.1.2.toNat : Int)) :: Lc) (fun x => Mem w [] [.blk b3 25 [.int .u8 (tg.toNat : Int), bv, lv]] []) (fun x => bs.length - x.1.1) ⟨(0, 0), ⟨Nat.zero_le _, rfl⟩⟩ (by repeat (first | exact trivial | refine ⟨rfl, ?_⟩)) ?_ ?_
       ·
        exact fun w h => h
       ·
        rintro ⟨⟨i, v⟩, ⟨hi0, hi1⟩⟩; try dsimp only
        have hi0 : i ≤ bs.length := hi0; have hi1 : v.toNat = numOf (bs.take i) := hi1
        refine wpc_seq ?_
        refine wpc_region ?_
        refine wpl_q (q_pure rfl) rfl ?_
        refine wpl_nil ?_
        refine ex_then ?_
        refine wpc_seq ?_
        refine wpc_cond rfl (fun hc44 => ?_) (fun hc44 => ?_)
        ·
         simp only [decide_eq_true_eq] at hc44
         refine wpc_skip ?_
         refine ex_then ?_
         refine wpc_seq ?_
         refine wpc_block ?_
         refine wpc_seq ?_
         refine wpc_region ?_
         refine wpl_q (q_idxW1 Try.underlying22 Try.ti5 rfl rfl (by first | assumption | exact SV.nil | exact SV.slv (by assumption) (by omega) (by omega) | exact arv_sv (by first | decide | (simp only [maxLen]; omega))) (by first | omega | (simp only [maxLen]; omega) | (simp only [List.length_append, List.length_cons, List.length_nil, List.length_take, maxLen]; omega) | (simp only [List.length_append, List.length_cons, List.length_nil, List.length_take]; omega))) rfl ?_
         refine wpl_q (q_ldW Try.underlying5 rfl rfl (fun w h => by first | exact h.seenV | exact h.seenA (by first | decide | (simp only [maxLen]; omega)) (by first | with_reducible rfl | (simp only [v8s_length, v32s_length, vis_length, vns_length, v64s_length, List.length_replicate]; first | done | with_reducible assumption | omega) | (rw [v8s_length]; (first | with_reducible assumption | with_reducible exact shortF_length _ | with_reducible exact stepF_length _ _ _ | with_reducible exact sumF_length _ | with_reducible exact climbF_length _ (by first | with_reducible assumption | with_reducible exact shortF_length _ | with_reducible exact beginF_length _ _ | with_reducible exact getD_mem_len (by assumption) (by omega)) _ _ _ | with_reducible exact beginF_length _ _ | with_reducible exact chainF_length _ _ _ | with_reducible exact recF_length _ _ | with_reducible exact publicF_length _ | with_reducible exact getD_mem_len (by assumption) (by omega) | (with_reducible exact List.length_replicate))) | rfl) | exact h.seen_old (by assumption) | exact h.seen_oldL (by assumption) (by assumption) | exact h.seen_fact (by repeat (first | exact List.mem_cons_self .. | apply List.mem_cons_of_mem))) (by first | exact v8s_get (by first | decide | omega | exact Nat.zero_lt_one | (simp; omega) | (simp; done) | (simp only [v8s_length, v32s_length, vis_length, vns_length, v64s_length]; omega)) | rfl)) rfl ?_
         refine wpl_q (q_pure rfl) rfl ?_
         refine wpl_nil ?_
         refine ex_then ?_
         refine wpc_region ?_
         refine wpl_q (q_pure rfl) rfl ?_
         refine wpl_q (q64_shl rfl rfl (by first | decide | omega) 8 rfl) rfl ?_
         refine wpl_q (q_pure rfl) rfl ?_
         refine wpl_q (q64_conv Try.underlying5 Try.underlying26 rfl) rfl ?_
         refine wpl_q (q64_or rfl rfl) rfl ?_
         refine wpl_q (q_pure rfl) rfl ?_
         refine wpl_nil ?_
         refine ex_block ?_
         refine ex_then ?_
         refine wpc_region ?_
         refine wpl_q (q_addN (b := 1) rfl rfl (by first | omega | (simp only [maxLen]; omega) | (simp only [List.length_append, List.length_cons, List.length_nil, List.length_take, maxLen]; omega) | (simp only [List.length_append, List.length_cons, List.length_nil, List.length_take]; omega))) rfl ?_
         refine wpl_q (q_pure rfl) rfl ?_
         refine wpl_nil ?_
         refine ex_again ⟨(i + 1, (sl64 v 8) ||| of64 ((bs.getD i 0).toNat : Int)), ⟨by omega, by rw [numOf_take (by omega)]; exact or_step _ hi1 (numOf_56 (by omega) (by omega))⟩⟩ ?_ ?_ ?_
         ·
          exact (by repeat (first | exact trivial | refine ⟨rfl, ?_⟩))
         ·
          exact fun w h => h
         ·
          (show bs.length - (i + 1) < bs.length - i); omega
        ·
         simp only [decide_eq_false_iff_not] at hc44
         obtain rfl : i = bs.length := by omega
         rw [List.take_length] at hi1
         have hvv : v = UInt64.ofNat (numOf bs) := UInt64.toNat_inj.1 (by rw [← hi1]; exact congrArg UInt64.toNat (UInt64.ofNat_toNat).symm)
         refine wpc_exit ?_
         refine ex_then_exit ?_
         refine ex_then_exit ?_
         refine ex_block_hit ?_
         refine ex_then ?_
         refine wpc_seq ?_
         refine wpc_seq ?_
         refine wpc_region ?_
         refine wpl_q (q_pure rfl) rfl ?_
         refine wpl_q (q_pure rfl) rfl ?_
         refine wpl_q (q_pure rfl) rfl ?_
         refine wpl_nil ?_
         refine ex_then ?_
         refine wpc_cond rfl (fun hc55 => ?_) (fun hc55 => ?_)
         ·
          have hgt : mx.toNat < numOf bs := by rw [← hi1]; simp only [decide_eq_true_eq] at hc55; omega
          refine wpc_seq ?_
          refine wpc_region ?_
          refine wpl_q (q_pure rfl) rfl ?_
          refine wpl_q (q_pure rfl) rfl ?_
          refine wpl_nil ?_
          refine ex_then ?_
          refine wpc_ret ?_
          refine ex_then_ret ?_
          refine ret2 (.inl rfl) rfl rfl rfl ?_
          exact fun w h => ⟨by rw [rdNum, if_neg hB, if_pos (show mx.toNat < numOf (HT.nd tg bv bs lv l).tr.bs from hgt)]; rfl, h.below⟩
         ·
          have hng : ¬ mx.toNat < numOf bs := by rw [← hi1]; simp only [decide_eq_false_iff_not] at hc55; omega
          refine wpc_skip ?_
          refine ex_then ?_
          refine wpc_seq ?_
          refine wpc_region ?_
          refine wpl_q (q_pure rfl) rfl ?_
          refine wpl_q (q_pure rfl) rfl ?_
          refine wpl_q (q_pure rfl) rfl ?_
          refine wpl_nil ?_
          refine ex_then ?_
          refine wpc_ret ?_
          refine ret2 (.inl rfl) rfl rfl rfl ?_
          exact fun w h => ⟨by rw [rdNum, if_neg hB, if_neg (show ¬ mx.toNat < numOf (HT.nd tg bv bs lv l).tr.bs from hng), hvv]; rfl, h.below⟩
     ·
      try simp only [decide_eq_false_iff_not] at hb32
      have hB : ¬ badN g (HT.nd tg bv bs lv l).tr := by rintro (h | h | h | h); exact h n1; exact n2 h; exact n3 h; have h : 0 < bs.length := h.1; omega
      refine wpl_off rfl rfl rfl rfl ?_
      refine wpl_off rfl rfl rfl rfl ?_
      refine wpl_off rfl rfl rfl rfl ?_
      refine wpl_off rfl rfl rfl rfl ?_
      refine wpl_off rfl rfl rfl rfl ?_
      refine wpl_on rfl rfl ?_
      refine wpl_q (q_pure rfl) rfl ?_
      refine wpl_q (q_pure rfl) rfl ?_
      refine wpl_nil ?_
      refine ex_then ?_
      refine wpc_cond_f rfl ?_
      refine wpc_skip ?_
      refine ex_then ?_
      refine wpc_seq ?_
      refine wpc_region ?_
      refine wpl_q (q_pure rfl) rfl ?_
      refine wpl_nil ?_
      refine ex_then ?_
      refine wpc_seq ?_
      refine wpc_seq ?_
      refine wpc_region ?_
      refine wpl_q (q_field Try.underlying25 rfl Try.ti22 rfl rfl _ rfl) rfl ?_
      refine wpl_q (q_ld Try.underlying22 rfl rfl rfl) rfl ?_
      refine wpl_q (q_lenW Try.underlying22 rfl (by first | assumption | exact SV.nil | exact SV.slv (by assumption) (by omega) (by omega) | exact arv_sv (by first | decide | (simp only [maxLen]; omega)))) rfl ?_
      refine wpl_q (q_pure rfl) rfl ?_
      refine wpl_nil ?_
      refine ex_then ?_
      refine wpc_block ?_
      refine wpc_loopc (ι := { x : Nat × UInt64 // (x.1 ≤ bs.length) ∧ (x.2.toNat = numOf (bs.take x.1)) }) [(2, _), (41, _), (42, _)] (fun x Lc => (43, .int .i64 ((x.1.1 : Nat) : Int)) :: (8, .int .u64 (x.1.2.toNat : Int)) :: Lc) (fun x => Mem w [] [.blk b3 25 [.int .u8 (tg.toNat : Int), bv, lv]] []) (fun x => bs.length - x.1.1) ⟨(0, 0), ⟨Nat.zero_le _, rfl⟩⟩ (by repeat (first | exact trivial | refine ⟨rfl, ?_⟩)) ?_ ?_
      ·
       exact fun w h => h
      ·
       rintro ⟨⟨i, v⟩, ⟨hi0, hi1⟩⟩; try dsimp only
       have hi0 : i ≤ bs.length := hi0; have hi1 : v.toNat = numOf (bs.take i) := hi1
       refine wpc_seq ?_
       refine wpc_region ?_
       refine wpl_q (q_pure rfl) rfl ?_
       refine wpl_nil ?_
       refine ex_then ?_
       refine wpc_seq ?_
       refine wpc_cond rfl (fun hc44 => ?_) (fun hc44 => ?_)
       ·
        simp only [decide_eq_true_eq] at hc44
        refine wpc_skip ?_
        refine ex_then ?_
        refine wpc_seq ?_
        refine wpc_block ?_
        refine wpc_seq ?_
        refine wpc_region ?_
        refine wpl_q (q_idxW1 Try.underlying22 Try.ti5 rfl rfl (by first | assumption | exact SV.nil | exact SV.slv (by assumption) (by omega) (by omega) | exact arv_sv (by first | decide | (simp only [maxLen]; omega))) (by first | omega | (simp only [maxLen]; omega) | (simp only [List.length_append, List.length_cons, List.length_nil, List.length_take, maxLen]; omega) | (simp only [List.length_append, List.length_cons, List.length_nil, List.length_take]; omega))) rfl ?_
        refine wpl_q (q_ldW Try.underlying5 rfl rfl (fun w h => by first | exact h.seenV | exact h.seenA (by first | decide | (simp only [maxLen]; omega)) (by first | with_reducible rfl | (simp only [v8s_length, v32s_length, vis_length, vns_length, v64s_length, List.length_replicate]; first | done | with_reducible assumption | omega) | (rw [v8s_length]; (first | with_reducible assumption | with_reducible exact shortF_length _ | with_reducible exact stepF_length _ _ _ | with_reducible exact sumF_length _ | with_reducible exact climbF_length _ (by first | with_reducible assumption | with_reducible exact shortF_length _ | with_reducible exact beginF_length _ _ | with_reducible exact getD_mem_len (by assumption) (by omega)) _ _ _ | with_reducible exact beginF_length _ _ | with_reducible exact chainF_length _ _ _ | with_reducible exact recF_length _ _ | with_reducible exact publicF_length _ | with_reducible exact getD_mem_len (by assumption) (by omega) | (with_reducible exact List.length_replicate))) | rfl) | exact h.seen_old (by assumption) | exact h.seen_oldL (by assumption) (by assumption) | exact h.seen_fact (by repeat (first | exact List.mem_cons_self .. | apply List.mem_cons_of_mem))) (by first | exact v8s_get (by first | decide | omega | exact Nat.zero_lt_one | (simp; omega) | (simp; done) | (simp only [v8s_length, v32s_length, vis_length, vns_length, v64s_length]; omega)) | rfl)) rfl ?_
        refine wpl_q (q_pure rfl) rfl ?_
        refine wpl_nil ?_
        refine ex_then ?_
        refine wpc_region ?_
        refine wpl_q (q_pure rfl) rfl ?_
        refine wpl_q (q64_shl rfl rfl (by first | decide | omega) 8 rfl) rfl ?_
        refine wpl_q (q_pure rfl) rfl ?_
        refine wpl_q (q64_conv Try.underlying5 Try.underlying26 rfl) rfl ?_
        refine wpl_q (q64_or rfl rfl) rfl ?_
        refine wpl_q (q_pure rfl) rfl ?_
        refine wpl_nil ?_
        refine ex_block ?_
        refine ex_then ?_
        refine wpc_region ?_
        refine wpl_q (q_addN (b := 1) rfl rfl (by first | omega | (simp only [maxLen]; omega) | (simp only [List.length_append, List.length_cons, List.length_nil, List.length_take, maxLen]; omega) | (simp only [List.length_append, List.length_cons, List.length_nil, List.length_take]; omega))) rfl ?_
        refine wpl_q (q_pure rfl) rfl ?_
        refine wpl_nil ?_
        refine ex_again ⟨(i + 1, (sl64 v 8) ||| of64 ((bs.getD i 0).toNat : Int)), ⟨by omega, by rw [numOf_take (by omega)]; exact or_step _ hi1 (numOf_56 (by omega) (by omega))⟩⟩ ?_ ?_ ?_
        ·
         exact (by repeat (first | exact trivial | refine ⟨rfl, ?_⟩))
        ·
         exact fun w h => h
        ·
         (show bs.length - (i + 1) < bs.length - i); omega
       ·
        simp only [decide_eq_false_iff_not] at hc44
        obtain rfl : i = bs.length := by omega
        rw [List.take_length] at hi1
        have hvv : v = UInt64.ofNat (numOf bs) := UInt64.toNat_inj.1 (by rw [← hi1]; exact congrArg UInt64.toNat (UInt64.ofNat_toNat).symm)
        refine wpc_exit ?_
        refine ex_then_exit ?_
        refine ex_then_exit ?_
        refine ex_block_hit ?_
        refine ex_then ?_
        refine wpc_seq ?_
        refine wpc_seq ?_
        refine wpc_region ?_
        refine wpl_q (q_pure rfl) rfl ?_
        refine wpl_q (q_pure rfl) rfl ?_
        refine wpl_q (q_pure rfl) rfl ?_
        refine wpl_nil ?_
        refine ex_then ?_
        refine wpc_cond rfl (fun hc55 => ?_) (fun hc55 => ?_)
        ·
         have hgt : mx.toNat < numOf bs := by rw [← hi1]; simp only [decide_eq_true_eq] at hc55; omega
         refine wpc_seq ?_
         refine wpc_region ?_
         refine wpl_q (q_pure rfl) rfl ?_
         refine wpl_q (q_pure rfl) rfl ?_
         refine wpl_nil ?_
         refine ex_then ?_
         refine wpc_ret ?_
         refine ex_then_ret ?_
         refine ret2 (.inl rfl) rfl rfl rfl ?_
         exact fun w h => ⟨by rw [rdNum, if_neg hB, if_pos (show mx.toNat < numOf (HT.nd tg bv bs lv l).tr.bs from hgt)]; rfl, h.below⟩
        ·
         have hng : ¬ mx.toNat < numOf bs := by rw [← hi1]; simp only [decide_eq_false_iff_not] at hc55; omega
         refine wpc_skip ?_
         refine ex_then ?_
         refine wpc_seq ?_
         refine wpc_region ?_
         refine wpl_q (q_pure rfl) rfl ?_
         refine wpl_q (q_pure rfl) rfl ?_
         refine wpl_q (q_pure rfl) rfl ?_
         refine wpl_nil ?_
         refine ex_then ?_
         refine wpc_ret ?_
         refine ret2 (.inl rfl) rfl rfl rfl ?_
         exact fun w h => ⟨by rw [rdNum, if_neg hB, if_neg (show ¬ mx.toNat < numOf (HT.nd tg bv bs lv l).tr.bs from hng), hvv]; rfl, h.below⟩

set_option maxRecDepth 100000 in
theorem refReadNum (t : HT) (g : UInt8) (mx : UInt64) (w : World) (ht : HSeen w.cell? t)  :
    Calls Try.prog 15 [.agg t.c.toArray, .int .u8 g.toNat, .int .u64 mx.toNat].toArray w (Pur w (.tuple #[.int .u64 ((rdNum t.tr g mx).1.toNat : Int), .int .i64 (((rdNum t.tr g mx).2 : Nat) : Int)])) := by
  obtain ⟨tg, bv, bs, lv, l⟩ := t
  have hb := ht.1
  have hk := ht.2.1
  have svb := hb.sv
  have svl := hk.sv
  have lb := svb.le
  have ll := svl.le
  simp only [maxLen] at lb ll
  refine enter (m := 59) (R := Mem w [] [] []) Try.func15 rfl rfl (Nat.le_of_ble_eq_true rfl) (Mem.start w) ?_
  refine wpc_seq ?_
  refine wpc_region ?_
  refine wpl_t (t_box rfl [.int .u8 (tg.toNat : Int), bv, lv] rfl) rfl (fun b3 => ?_)
  refine wpl_q (q_pure rfl) rfl ?_
  refine wpl_q (q_pure rfl) rfl ?_
  refine wpl_nil ?_
  refine ex_then ?_
  refine wpc_seq ?_
  refine wpc_seq ?_
  refine wpc_region ?_
  refine wpl_q (q_field Try.underlying25 rfl Try.ti5 rfl rfl _ rfl) rfl ?_
  refine wpl_q (q_ld Try.underlying5 rfl rfl (by first | exact v8s_get (by first | decide | omega | exact Nat.zero_lt_one | (simp; omega) | (simp; done) | (simp only [v8s_length, v32s_length, vis_length, vns_length, v64s_length]; omega)) | rfl)) rfl ?_
  refine wpl_q (q_pure rfl) rfl ?_
  refine wpl_q (q8_neq rfl rfl) rfl ?_
  refine wpl_q (q_pure rfl) rfl ?_
  refine wpl_bool2 14 13 rfl rfl (fun hb14 => ?_) (fun hb14 => ?_)
  ·
   have hN : badN g (HT.nd tg bv bs lv l).tr := .inl (show ¬ tg = g by simpa using hb14)
   refine wpl_off rfl rfl rfl rfl ?_
   refine wpl_off rfl rfl rfl rfl ?_
   refine wpl_off rfl rfl rfl rfl ?_
   refine wpl_off rfl rfl rfl rfl ?_
   refine wpl_q (q_pure rfl) rfl ?_
   refine wpl_q (q_pure rfl) rfl ?_
   refine wpl_off rfl rfl rfl rfl ?_
   refine wpl_off rfl rfl rfl rfl ?_
   refine wpl_off rfl rfl rfl rfl ?_
   refine wpl_off rfl rfl rfl rfl ?_
   refine wpl_q (q_pure rfl) rfl ?_
   refine wpl_q (q_pure rfl) rfl ?_
   refine wpl_off rfl rfl rfl rfl ?_
   refine wpl_off rfl rfl rfl rfl ?_
   refine wpl_off rfl rfl rfl rfl ?_
   refine wpl_off rfl rfl rfl rfl ?_
   refine wpl_off rfl rfl rfl rfl ?_
   refine wpl_off rfl rfl rfl rfl ?_
   refine wpl_off rfl rfl rfl rfl ?_
   refine wpl_off rfl rfl rfl rfl ?_
   refine wpl_off rfl rfl rfl rfl ?_
   refine wpl_off rfl rfl rfl rfl ?_
   refine wpl_off rfl rfl rfl rfl ?_
   refine wpl_q (q_pure rfl) rfl ?_
   refine wpl_nil ?_
   refine ex_then ?_
   refine wpc_cond_t rfl ?_
   refine wpc_seq ?_
   refine wpc_region ?_
   refine wpl_q (q_pure rfl) rfl ?_
   refine wpl_q (q_pure rfl) rfl ?_
   refine wpl_nil ?_
   refine ex_then ?_
   refine wpc_ret ?_
   refine ex_then_ret ?_
   refine ret2 (.inl rfl) rfl rfl rfl ?_
   exact fun w h => ⟨by rw [rdNum, if_pos hN]; rfl, h.below⟩
  ·
   have n1 : tg = g := by simpa using hb14
   refine wpl_on rfl rfl ?_
   refine wpl_q (q_field Try.underlying25 rfl Try.ti23 rfl rfl _ rfl) rfl ?_
   refine wpl_on rfl rfl ?_
   refine wpl_q (q_ld Try.underlying23 rfl rfl rfl) rfl ?_
   refine wpl_on rfl rfl ?_
   refine wpl_q (q_lenW Try.underlying23 rfl (by first | assumption | exact SV.nil | exact SV.slv (by assumption) (by omega) (by omega) | exact arv_sv (by first | decide | (simp only [maxLen]; omega)))) rfl ?_
   refine wpl_on rfl rfl ?_
   refine wpl_q (q_pure rfl) rfl ?_
   refine wpl_q (q_pure rfl) rfl ?_
   refine wpl_q (q_pure rfl) rfl ?_
   refine wpl_bool2 20 18 rfl rfl (fun hb20 => ?_) (fun hb20 => ?_)
   ·
    try simp only [decide_eq_true_eq] at hb20
    have hN : badN g (HT.nd tg bv bs lv l).tr := .inr (.inl (by show 0 < (trs l).length; rw [trs_length]; omega))
    refine wpl_off rfl rfl rfl rfl ?_
    refine wpl_off rfl rfl rfl rfl ?_
    refine wpl_off rfl rfl rfl rfl ?_
    refine wpl_off rfl rfl rfl rfl ?_
    refine wpl_q (q_pure rfl) rfl ?_
    refine wpl_q (q_pure rfl) rfl ?_
    refine wpl_off rfl rfl rfl rfl ?_
    refine wpl_off rfl rfl rfl rfl ?_
    refine wpl_off rfl rfl rfl rfl ?_
    refine wpl_off rfl rfl rfl rfl ?_
    refine wpl_off rfl rfl rfl rfl ?_
    refine wpl_off rfl rfl rfl rfl ?_
    refine wpl_off rfl rfl rfl rfl ?_
    refine wpl_off rfl rfl rfl rfl ?_
    refine wpl_off rfl rfl rfl rfl ?_
    refine wpl_off rfl rfl rfl rfl ?_
    refine wpl_off rfl rfl rfl rfl ?_
    refine wpl_q (q_pure rfl) rfl ?_
    refine wpl_nil ?_
    refine ex_then ?_
    refine wpc_cond_t rfl ?_
    refine wpc_seq ?_
    refine wpc_region ?_
    refine wpl_q (q_pure rfl) rfl ?_
    refine wpl_q (q_pure rfl) rfl ?_
    refine wpl_nil ?_
    refine ex_then ?_
    refine wpc_ret ?_
    refine ex_then_ret ?_
    refine ret2 (.inl rfl) rfl rfl rfl ?_
    exact fun w h => ⟨by rw [rdNum, if_pos hN]; rfl, h.below⟩
   ·
    try simp only [decide_eq_false_iff_not] at hb20
    have n2 : ¬ 0 < (trs l).length := by rw [trs_length]; omega
    refine wpl_on rfl rfl ?_
    refine wpl_q (q_field Try.underlying25 rfl Try.ti22 rfl rfl _ rfl) rfl ?_
    refine wpl_on rfl rfl ?_
    refine wpl_q (q_ld Try.underlying22 rfl rfl rfl) rfl ?_
    refine wpl_on rfl rfl ?_
    refine wpl_q (q_lenW Try.underlying22 rfl (by first | assumption | exact SV.nil | exact SV.slv (by assumption) (by omega) (by omega) | exact arv_sv (by first | decide | (simp only [maxLen]; omega)))) rfl ?_
    refine wpl_on rfl rfl ?_
    refine wpl_q (q_pure rfl) rfl ?_
    refine wpl_q (q_pure rfl) rfl ?_
    refine wpl_q (q_pure rfl) rfl ?_
    refine wpl_bool2 26 24 rfl rfl (fun hb26 => ?_) (fun hb26 => ?_)
    ·
     try simp only [decide_eq_true_eq] at hb26
     have hN : badN g (HT.nd tg bv bs lv l).tr := .inr (.inr (.inl (by show 8 < bs.length; omega)))
     refine wpl_off rfl rfl rfl rfl ?_
     refine wpl_off rfl rfl rfl rfl ?_
     refine wpl_off rfl rfl rfl rfl ?_
     refine wpl_off rfl rfl rfl rfl ?_
     refine wpl_off rfl rfl rfl rfl ?_
     refine wpl_off rfl rfl rfl rfl ?_
     refine wpl_off rfl rfl rfl rfl ?_
     refine wpl_off rfl rfl rfl rfl ?_
     refine wpl_off rfl rfl rfl rfl ?_
     refine wpl_off rfl rfl rfl rfl ?_
     refine wpl_off rfl rfl rfl rfl ?_
     refine wpl_q (q_pure rfl) rfl ?_
     refine wpl_nil ?_
     refine ex_then ?_
     refine wpc_cond_t rfl ?_
     refine wpc_seq ?_
     refine wpc_region ?_
     refine wpl_q (q_pure rfl) rfl ?_
     refine wpl_q (q_pure rfl) rfl ?_
     refine wpl_nil ?_
     refine ex_then ?_
     refine wpc_ret ?_
     refine ex_then_ret ?_
     refine ret2 (.inl rfl) rfl rfl rfl ?_
     exact fun w h => ⟨by rw [rdNum, if_pos hN]; rfl, h.below⟩
    ·
     try simp only [decide_eq_false_iff_not] at hb26
     have n3 : ¬ 8 < bs.length := by omega
     refine wpl_on rfl rfl ?_
     refine wpl_q (q_field Try.underlying25 rfl Try.ti22 rfl rfl _ rfl) rfl ?_
     refine wpl_on rfl rfl ?_
     refine wpl_q (q_ld Try.underlying22 rfl rfl rfl) rfl ?_
     refine wpl_on rfl rfl ?_
     refine wpl_q (q_lenW Try.underlying22 rfl (by first | assumption | exact SV.nil | exact SV.slv (by assumption) (by omega) (by omega) | exact arv_sv (by first | decide | (simp only [maxLen]; omega)))) rfl ?_
     refine wpl_on rfl rfl ?_
     refine wpl_q (q_pure rfl) rfl ?_
     refine wpl_on rfl rfl ?_
     refine wpl_q (q_pure rfl) rfl ?_
     refine wpl_bool2 31 30 rfl rfl (fun hb31 => ?_) (fun hb31 => ?_)
     ·
      try simp only [decide_eq_true_eq] at hb31
      have p4 : 0 < bs.length := by omega
      refine wpl_on rfl rfl ?_
      refine wpl_q (q_field Try.underlying25 rfl Try.ti22 rfl rfl _ rfl) rfl ?_
      refine wpl_on rfl rfl ?_
      refine wpl_q (q_ld Try.underlying22 rfl rfl rfl) rfl ?_
      refine wpl_on rfl rfl ?_
      refine wpl_q (q_idxW1 (j := 0) Try.underlying22 Try.ti5 rfl rfl (by first | assumption | exact SV.nil | exact SV.slv (by assumption) (by omega) (by omega) | exact arv_sv (by first | decide | (simp only [maxLen]; omega))) (by first | omega | (simp only [maxLen]; omega) | (simp only [List.length_append, List.length_cons, List.length_nil, List.length_take, maxLen]; omega) | (simp only [List.length_append, List.length_cons, List.length_nil, List.length_take]; omega))) rfl ?_
      refine wpl_on rfl rfl ?_
      refine wpl_q (q_ldW Try.underlying5 rfl rfl (fun w h => by first | exact h.seenV | exact h.seenA (by first | decide | (simp only [maxLen]; omega)) (by first | with_reducible rfl | (simp only [v8s_length, v32s_length, vis_length, vns_length, v64s_length, List.length_replicate]; first | done | with_reducible assumption | omega) | (rw [v8s_length]; (first | with_reducible assumption | with_reducible exact shortF_length _ | with_reducible exact stepF_length _ _ _ | with_reducible exact sumF_length _ | with_reducible exact climbF_length _ (by first | with_reducible assumption | with_reducible exact shortF_length _ | with_reducible exact beginF_length _ _ | with_reducible exact getD_mem_len (by assumption) (by omega)) _ _ _ | with_reducible exact beginF_length _ _ | with_reducible exact chainF_length _ _ _ | with_reducible exact recF_length _ _ | with_reducible exact publicF_length _ | with_reducible exact getD_mem_len (by assumption) (by omega) | (with_reducible exact List.length_replicate))) | rfl) | exact h.seen_old (by assumption) | exact h.seen_oldL (by assumption) (by assumption) | exact h.seen_fact (by repeat (first | exact List.mem_cons_self .. | apply List.mem_cons_of_mem))) (by first | exact v8s_get (by first | decide | omega | exact Nat.zero_lt_one | (simp; omega) | (simp; done) | (simp only [v8s_length, v32s_length, vis_length, vns_length, v64s_length]; omega)) | rfl)) rfl ?_
      refine wpl_on rfl rfl ?_
      refine wpl_q (q8_eql (b := (0 : UInt8)) rfl rfl) rfl ?_
      refine wpl_on rfl rfl ?_
      refine wpl_q (q_pure rfl) rfl ?_
      refine wpl_q (q_pure rfl) rfl ?_
      refine wpl_nil ?_
      refine ex_then ?_
      refine wpc_cond rfl (fun hc38 => ?_) (fun hc38 => ?_)
      ·
       have hN : badN g (HT.nd tg bv bs lv l).tr := .inr (.inr (.inr ⟨p4, show bs.getD 0 0 = 0 by simpa using hc38⟩))
       refine wpc_seq ?_
       refine wpc_region ?_
       refine wpl_q (q_pure rfl) rfl ?_
       refine wpl_q (q_pure rfl) rfl ?_
       refine wpl_nil ?_
       refine ex_then ?_
       refine wpc_ret ?_
       refine ex_then_ret ?_
       refine ret2 (.inl rfl) rfl rfl rfl ?_
       exact fun w h => ⟨by rw [rdNum, if_pos hN]; rfl, h.below⟩
      ·
       have n4 : ¬ bs.getD 0 0 = 0 := by simpa using hc38
       have hB : ¬ badN g (HT.nd tg bv bs lv l).tr := by rintro (h | h | h | h); exact h n1; exact n2 h; exact n3 h; exact n4 h.2
       refine wpc_skip ?_
       refine ex_then ?_
       refine wpc_seq ?_
       refine wpc_region ?_
       refine wpl_q (q_pure rfl) rfl ?_
       refine wpl_nil ?_
       refine ex_then ?_
       refine wpc_seq ?_
       refine wpc_seq ?_
       refine wpc_region ?_
       refine wpl_q (q_pure rfl) rfl ?_
       refine wpl_nil ?_
       refine ex_then ?_
       refine wpc_block ?_
       refine wpc_loopc (ι := { x : Nat × UInt64 // (x.1 ≤ bs.length) ∧ (x.2.toNat = numOf (bs.take x.1)) }) [(2, _), (3, _)] (fun x Lc => (9, .int .i64 ((x.1.1 : Nat) : Int)) :: (8, .int .u64 (x.1.2.toNat : Int)) :: Lc) (fun x => Mem w [] [.blk b3 25 [.int .u8 (tg.toNat : Int), bv, lv]] []) (fun x => bs.length - x.1.1) ⟨(0, 0), ⟨Nat.zero_le _, rfl⟩⟩ (by repeat (first | exact trivial | refine ⟨rfl, ?_⟩)) ?_ ?_
       ·
        exact fun w h => h
       ·
        rintro ⟨⟨i, v⟩, ⟨hi0, hi1⟩⟩; try dsimp only
        have hi0 : i ≤ bs.length := hi0; have hi1 : v.toNat = numOf (bs.take i) := hi1
        refine wpc_seq ?_
        refine wpc_seq ?_
        refine wpc_region ?_
        refine wpl_q (q_pure rfl) rfl ?_
        refine wpl_q (q_field Try.underlying25 rfl Try.ti22 rfl rfl _ rfl) rfl ?_
        refine wpl_q (q_ld Try.underlying22 rfl rfl rfl) rfl ?_
        refine wpl_q (q_lenW Try.underlying22 rfl (by first | assumption | exact SV.nil | exact SV.slv (by assumption) (by omega) (by omega) | exact arv_sv (by first | decide | (simp only [maxLen]; omega)))) rfl ?_
        refine wpl_q (q_pure rfl) rfl ?_
        refine wpl_nil ?_
        refine ex_then ?_
        refine wpc_cond rfl (fun hc43 => ?_) (fun hc43 => ?_)
        ·
         simp only [decide_eq_true_eq] at hc43
         refine wpc_skip ?_
         refine ex_then ?_
         refine wpc_seq ?_
         refine wpc_block ?_
         refine wpc_region ?_
         refine wpl_q (q_pure rfl) rfl ?_
         refine wpl_q (q64_mul (a := (256 : UInt64)) rfl rfl) rfl ?_
         refine wpl_q (q_field Try.underlying25 rfl Try.ti22 rfl rfl _ rfl) rfl ?_
         refine wpl_q (q_ld Try.underlying22 rfl rfl rfl) rfl ?_
         refine wpl_q (q_pure rfl) rfl ?_
         refine wpl_q (q_idxW1 Try.underlying22 Try.ti5 rfl rfl (by first | assumption | exact SV.nil | exact SV.slv (by assumption) (by omega) (by omega) | exact arv_sv (by first | decide | (simp only [maxLen]; omega))) (by first | omega | (simp only [maxLen]; omega) | (simp only [List.length_append, List.length_cons, List.length_nil, List.length_take, maxLen]; omega) | (simp only [List.length_append, List.length_cons, List.length_nil, List.length_take]; omega))) rfl ?_
         refine wpl_q (q_ldW Try.underlying5 rfl rfl (fun w h => by first | exact h.seenV | exact h.seenA (by first | decide | (simp only [maxLen]; omega)) (by first | with_reducible rfl | (simp only [v8s_length, v32s_length, vis_length, vns_length, v64s_length, List.length_replicate]; first | done | with_reducible assumption | omega) | (rw [v8s_length]; (first | with_reducible assumption | with_reducible exact shortF_length _ | with_reducible exact stepF_length _ _ _ | with_reducible exact sumF_length _ | with_reducible exact climbF_length _ (by first | with_reducible assumption | with_reducible exact shortF_length _ | with_reducible exact beginF_length _ _ | with_reducible exact getD_mem_len (by assumption) (by omega)) _ _ _ | with_reducible exact beginF_length _ _ | with_reducible exact chainF_length _ _ _ | with_reducible exact recF_length _ _ | with_reducible exact publicF_length _ | with_reducible exact getD_mem_len (by assumption) (by omega) | (with_reducible exact List.length_replicate))) | rfl) | exact h.seen_old (by assumption) | exact h.seen_oldL (by assumption) (by assumption) | exact h.seen_fact (by repeat (first | exact List.mem_cons_self .. | apply List.mem_cons_of_mem))) (by first | exact v8s_get (by first | decide | omega | exact Nat.zero_lt_one | (simp; omega) | (simp; done) | (simp only [v8s_length, v32s_length, vis_length, vns_length, v64s_length]; omega)) | rfl)) rfl ?_
         refine wpl_q (q64_conv Try.underlying5 Try.underlying26 rfl) rfl ?_
         refine wpl_q (q64_add rfl rfl) rfl ?_
         refine wpl_q (q_pure rfl) rfl ?_
         refine wpl_nil ?_
         refine ex_block ?_
         refine ex_then ?_
         refine wpc_region ?_
         refine wpl_q (q_pure rfl) rfl ?_
         refine wpl_q (q_addN (b := 1) rfl rfl (by first | omega | (simp only [maxLen]; omega) | (simp only [List.length_append, List.length_cons, List.length_nil, List.length_take, maxLen]; omega) | (simp only [List.length_append, List.length_cons, List.length_nil, List.length_take]; omega))) rfl ?_
         refine wpl_q (q_pure rfl) rfl ?_
         refine wpl_nil ?_
         refine ex_again ⟨(i + 1, (256 : UInt64) * v + of64 ((bs.getD i 0).toNat : Int)), ⟨by omega, by rw [numOf_take (by omega)]; exact add_step _ hi1 (numOf_56 (by omega) (by omega))⟩⟩ ?_ ?_ ?_
         ·
          exact (by repeat (first | exact trivial | refine ⟨rfl, ?_⟩))
         ·
          exact fun w h => h
         ·
          (show bs.length - (i + 1) < bs.length - i); omega
        ·
         simp only [decide_eq_false_iff_not] at hc43
         obtain rfl : i = bs.length := by omega
         rw [List.take_length] at hi1
         have hvv : v = UInt64.ofNat (numOf bs) := UInt64.toNat_inj.1 (by rw [← hi1]; exact congrArg UInt64.toNat (UInt64.ofNat_toNat).symm)
         refine wpc_exit ?_
         refine ex_then_exit ?_
         refine ex_then_exit ?_
         refine ex_block_hit ?_
         refine ex_then ?_
         refine wpc_seq ?_
         refine wpc_seq ?_
         refine wpc_region ?_
         refine wpl_q (q_pure rfl) rfl ?_
         refine wpl_q (q_pure rfl) rfl ?_
         refine wpl_q (q_pure rfl) rfl ?_
         refine wpl_nil ?_
         refine ex_then ?_
         refine wpc_cond rfl (fun hc57 => ?_) (fun hc57 => ?_)
         ·
          have hgt : mx.toNat < numOf bs := by rw [← hi1]; simp only [decide_eq_true_eq] at hc57; omega
          refine wpc_seq ?_
          refine wpc_region ?_
          refine wpl_q (q_pure rfl) rfl ?_
          refine wpl_q (q_pure rfl) rfl ?_
          refine wpl_nil ?_
          refine ex_then ?_
          refine wpc_ret ?_
          refine ex_then_ret ?_
          refine ret2 (.inl rfl) rfl rfl rfl ?_
          exact fun w h => ⟨by rw [rdNum, if_neg hB, if_pos (show mx.toNat < numOf (HT.nd tg bv bs lv l).tr.bs from hgt)]; rfl, h.below⟩
         ·
          have hng : ¬ mx.toNat < numOf bs := by rw [← hi1]; simp only [decide_eq_false_iff_not] at hc57; omega
          refine wpc_skip ?_
          refine ex_then ?_
          refine wpc_seq ?_
          refine wpc_region ?_
          refine wpl_q (q_pure rfl) rfl ?_
          refine wpl_q (q_pure rfl) rfl ?_
          refine wpl_q (q_pure rfl) rfl ?_
          refine wpl_nil ?_
          refine ex_then ?_
          refine wpc_ret ?_
          refine ret2 (.inl rfl) rfl rfl rfl ?_
          exact fun w h => ⟨by rw [rdNum, if_neg hB, if_neg (show ¬ mx.toNat < numOf (HT.nd tg bv bs lv l).tr.bs from hng), hvv]; rfl, h.below⟩
     ·
      try simp only [decide_eq_false_iff_not] at hb31
      have hB : ¬ badN g (HT.nd tg bv bs lv l).tr := by rintro (h | h | h | h); exact h n1; exact n2 h; exact n3 h; have h : 0 < bs.length := h.1; omega
      refine wpl_off rfl rfl rfl rfl ?_
      refine wpl_off rfl rfl rfl rfl ?_
      refine wpl_off rfl rfl rfl rfl ?_
      refine wpl_off rfl rfl rfl rfl ?_
      refine wpl_off rfl rfl rfl rfl ?_
      refine wpl_on rfl rfl ?_
      refine wpl_q (q_pure rfl) rfl ?_
      refine wpl_q (q_pure rfl) rfl ?_
      refine wpl_nil ?_
      refine ex_then ?_
      refine wpc_cond_f rfl ?_
      refine wpc_skip ?_
      refine ex_then ?_
      refine wpc_seq ?_
      refine wpc_region ?_
      refine wpl_q (q_pure rfl) rfl ?_
      refine wpl_nil ?_
      refine ex_then ?_
      refine wpc_seq ?_
      refine wpc_seq ?_
      refine wpc_region ?_
      refine wpl_q (q_pure rfl) rfl ?_
      refine wpl_nil ?_
      refine ex_then ?_
      refine wpc_block ?_
      refine wpc_loopc (ι := { x : Nat × UInt64 // (x.1 ≤ bs.length) ∧ (x.2.toNat = numOf (bs.take x.1)) }) [(2, _), (3, _)] (fun x Lc => (9, .int .i64 ((x.1.1 : Nat) : Int)) :: (8, .int .u64 (x.1.2.toNat : Int)) :: Lc) (fun x => Mem w [] [.blk b3 25 [.int .u8 (tg.toNat : Int), bv, lv]] []) (fun x => bs.length - x.1.1) ⟨(0, 0), ⟨Nat.zero_le _, rfl⟩⟩ (by repeat (first | exact trivial | refine ⟨rfl, ?_⟩)) ?_ ?_
      ·
       exact fun w h => h
      ·
       rintro ⟨⟨i, v⟩, ⟨hi0, hi1⟩⟩; try dsimp only
       have hi0 : i ≤ bs.length := hi0; have hi1 : v.toNat = numOf (bs.take i) := hi1
       refine wpc_seq ?_
       refine wpc_seq ?_
       refine wpc_region ?_
       refine wpl_q (q_pure rfl) rfl ?_
       refine wpl_q (q_field Try.underlying25 rfl Try.ti22 rfl rfl _ rfl) rfl ?_
       refine wpl_q (q_ld Try.underlying22 rfl rfl rfl) rfl ?_
       refine wpl_q (q_lenW Try.underlying22 rfl (by first | assumption | exact SV.nil | exact SV.slv (by assumption) (by omega) (by omega) | exact arv_sv (by first | decide | (simp only [maxLen]; omega)))) rfl ?_
       refine wpl_q (q_pure rfl) rfl ?_
       refine wpl_nil ?_
       refine ex_then ?_
       refine wpc_cond rfl (fun hc43 => ?_) (fun hc43 => ?_)
       ·
        simp only [decide_eq_true_eq] at hc43
        refine wpc_skip ?_
        refine ex_then ?_
        refine wpc_seq ?_
        refine wpc_block ?_
        refine wpc_region ?_
        refine wpl_q (q_pure rfl) rfl ?_
        refine wpl_q (q64_mul (a := (256 : UInt64)) rfl rfl) rfl ?_
        refine wpl_q (q_field Try.underlying25 rfl Try.ti22 rfl rfl _ rfl) rfl ?_
        refine wpl_q (q_ld Try.underlying22 rfl rfl rfl) rfl ?_
        refine wpl_q (q_pure rfl) rfl ?_
        refine wpl_q (q_idxW1 Try.underlying22 Try.ti5 rfl rfl (by first | assumption | exact SV.nil | exact SV.slv (by assumption) (by omega) (by omega) | exact arv_sv (by first | decide | (simp only [maxLen]; omega))) (by first | omega | (simp only [maxLen]; omega) | (simp only [List.length_append, List.length_cons, List.length_nil, List.length_take, maxLen]; omega) | (simp only [List.length_append, List.length_cons, List.length_nil, List.length_take]; omega))) rfl ?_
        refine wpl_q (q_ldW Try.underlying5 rfl rfl (fun w h => by first | exact h.seenV | exact h.seenA (by first | decide | (simp only [maxLen]; omega)) (by first | with_reducible rfl | (simp only [v8s_length, v32s_length, vis_length, vns_length, v64s_length, List.length_replicate]; first | done | with_reducible assumption | omega) | (rw [v8s_length]; (first | with_reducible assumption | with_reducible exact shortF_length _ | with_reducible exact stepF_length _ _ _ | with_reducible exact sumF_length _ | with_reducible exact climbF_length _ (by first | with_reducible assumption | with_reducible exact shortF_length _ | with_reducible exact beginF_length _ _ | with_reducible exact getD_mem_len (by assumption) (by omega)) _ _ _ | with_reducible exact beginF_length _ _ | with_reducible exact chainF_length _ _ _ | with_reducible exact recF_length _ _ | with_reducible exact publicF_length _ | with_reducible exact getD_mem_len (by assumption) (by omega) | (with_reducible exact List.length_replicate))) | rfl) | exact h.seen_old (by assumption) | exact h.seen_oldL (by assumption) (by assumption) | exact h.seen_fact (by repeat (first | exact List.mem_cons_self .. | apply List.mem_cons_of_mem))) (by first | exact v8s_get (by first | decide | omega | exact Nat.zero_lt_one | (simp; omega) | (simp; done) | (simp only [v8s_length, v32s_length, vis_length, vns_length, v64s_length]; omega)) | rfl)) rfl ?_
        refine wpl_q (q64_conv Try.underlying5 Try.underlying26 rfl) rfl ?_
        refine wpl_q (q64_add rfl rfl) rfl ?_
        refine wpl_q (q_pure rfl) rfl ?_
        refine wpl_nil ?_
        refine ex_block ?_
        refine ex_then ?_
        refine wpc_region ?_
        refine wpl_q (q_pure rfl) rfl ?_
        refine wpl_q (q_addN (b := 1) rfl rfl (by first | omega | (simp only [maxLen]; omega) | (simp only [List.length_append, List.length_cons, List.length_nil, List.length_take, maxLen]; omega) | (simp only [List.length_append, List.length_cons, List.length_nil, List.length_take]; omega))) rfl ?_
        refine wpl_q (q_pure rfl) rfl ?_
        refine wpl_nil ?_
        refine ex_again ⟨(i + 1, (256 : UInt64) * v + of64 ((bs.getD i 0).toNat : Int)), ⟨by omega, by rw [numOf_take (by omega)]; exact add_step _ hi1 (numOf_56 (by omega) (by omega))⟩⟩ ?_ ?_ ?_
        ·
         exact (by repeat (first | exact trivial | refine ⟨rfl, ?_⟩))
        ·
         exact fun w h => h
        ·
         (show bs.length - (i + 1) < bs.length - i); omega
       ·
        simp only [decide_eq_false_iff_not] at hc43
        obtain rfl : i = bs.length := by omega
        rw [List.take_length] at hi1
        have hvv : v = UInt64.ofNat (numOf bs) := UInt64.toNat_inj.1 (by rw [← hi1]; exact congrArg UInt64.toNat (UInt64.ofNat_toNat).symm)
        refine wpc_exit ?_
        refine ex_then_exit ?_
        refine ex_then_exit ?_
        refine ex_block_hit ?_
        refine ex_then ?_
        refine wpc_seq ?_
        refine wpc_seq ?_
        refine wpc_region ?_
        refine wpl_q (q_pure rfl) rfl ?_
        refine wpl_q (q_pure rfl) rfl ?_
        refine wpl_q (q_pure rfl) rfl ?_
        refine wpl_nil ?_
        refine ex_then ?_
        refine wpc_cond rfl (fun hc57 => ?_) (fun hc57 => ?_)
        ·
         have hgt : mx.toNat < numOf bs := by rw [← hi1]; simp only [decide_eq_true_eq] at hc57; omega
         refine wpc_seq ?_
         refine wpc_region ?_
         refine wpl_q (q_pure rfl) rfl ?_
         refine wpl_q (q_pure rfl) rfl ?_
         refine wpl_nil ?_
         refine ex_then ?_
         refine wpc_ret ?_
         refine ex_then_ret ?_
         refine ret2 (.inl rfl) rfl rfl rfl ?_
         exact fun w h => ⟨by rw [rdNum, if_neg hB, if_pos (show mx.toNat < numOf (HT.nd tg bv bs lv l).tr.bs from hgt)]; rfl, h.below⟩
        ·
         have hng : ¬ mx.toNat < numOf bs := by rw [← hi1]; simp only [decide_eq_false_iff_not] at hc57; omega
         refine wpc_skip ?_
         refine ex_then ?_
         refine wpc_seq ?_
         refine wpc_region ?_
         refine wpl_q (q_pure rfl) rfl ?_
         refine wpl_q (q_pure rfl) rfl ?_
         refine wpl_q (q_pure rfl) rfl ?_
         refine wpl_nil ?_
         refine ex_then ?_
         refine wpc_ret ?_
         refine ret2 (.inl rfl) rfl rfl rfl ?_
         exact fun w h => ⟨by rw [rdNum, if_neg hB, if_neg (show ¬ mx.toNat < numOf (HT.nd tg bv bs lv l).tr.bs from hng), hvv]; rfl, h.below⟩


theorem sub_left {α : Type} : ∀ (l X : List α), Sub l (l ++ X)
  | [], _ => .nil
  | _ :: l, X => .keep (sub_left l X)
section
variable {P : Program} {n : Cx} {R : World → Prop} {L : Slots}
theorem q_fieldC {t : Nat} {x : Operand} {f : Nat} {fs : Array Field} {fd : Field} {cs : List Value} {v : Value} {d : TypeDesc} (hu : P.underlying t = some (.struct fs)) (hf : fs[f]? = some fd) (hd : P.underlying fd.type = some d) (ha : isAggD d = false)
    (hx : ev L x = some (.agg cs.toArray)) (hv : cs[fd.offset]? = some v) : QOp P n R L (.field t x f) v := by
  intro d' ty pos af g a w hs _
  have hp : (part fd.type cs.toArray fd.offset).run P w = .ok v w := by
    unfold part
    simp [run_agg hd, ha, hv]
  simp only [execOp, hs.eval hx]
  simp [Instr.field, asAgg, run_underlying hu, hf] at hp ⊢
  simp [hp]
end
def badS (g : UInt8) (mx : Int) (t : Tr) : Prop := t.tg ≠ g ∨ 0 < t.kids.length ∨ mx < (t.bs.length : Int)
instance {g : UInt8} {mx : Int} {t : Tr} : Decidable (badS g mx t) := by unfold badS; exact inferInstance
def rdStr (t : Tr) (g : UInt8) (mx : Int) : List UInt8 × Nat := if badS g mx t then ([], 12) else (t.bs, 0)
def badL (g : UInt8) (lo hi : Int) (t : Tr) : Prop := t.tg ≠ g ∨ 0 < t.bs.length ∨ (t.kids.length : Int) < lo ∨ hi < (t.kids.length : Int)
instance {g : UInt8} {lo hi : Int} {t : Tr} : Decidable (badL g lo hi t) := by unfold badL; exact inferInstance
def rdSeq (t : Tr) (g : UInt8) (lo hi : Int) : List Tr × Nat := if badL g lo hi t then ([], 12) else (t.kids, 0)

set_option maxRecDepth 100000 in
theorem octReadStr (t : HT) (g : UInt8) (mx : Int) (w : World) (ht : HSeen w.cell? t)  :
    Calls Try.prog 16 [.agg t.c.toArray, .int .u8 g.toNat, .int .i64 mx].toArray w (Pur w (.tuple #[str (rdStr t.tr g mx).1, .int .i64 (((rdStr t.tr g mx).2 : Nat) : Int)])) := by
  obtain ⟨tg, bv, bs, lv, l⟩ := t
  have hb := ht.1
  have hk := ht.2.1
  have svb := hb.sv
  have svl := hk.sv
  have lb := svb.le
  have ll := svl.le
  simp only [maxLen] at lb ll
  refine enter (m := 28) (R := Mem w [] [] []) Try.func16 rfl rfl (Nat.le_of_ble_eq_true rfl) (Mem.start w) ?_
  refine wpc_seq ?_
  refine wpc_region ?_
  refine wpl_t (t_box rfl [.int .u8 (tg.toNat : Int), bv, lv] rfl) rfl (fun b3 => ?_)
  refine wpl_q (q_pure rfl) rfl ?_
  refine wpl_q (q_pure rfl) rfl ?_
  refine wpl_nil ?_
  refine ex_then ?_
  refine wpc_seq ?_
  refine wpc_seq ?_
  refine wpc_region ?_
  refine wpl_q (q_field Try.underlying25 rfl Try.ti5 rfl rfl _ rfl) rfl ?_
  refine wpl_q (q_ld Try.underlying5 rfl rfl (by first | exact v8s_get (by first | decide | omega | exact Nat.zero_lt_one | (simp; omega) | (simp; done) | (simp only [v8s_length, v32s_length, vis_length, vns_length, v64s_length]; omega)) | rfl)) rfl ?_
  refine wpl_q (q_pure rfl) rfl ?_
  refine wpl_q (q8_neq rfl rfl) rfl ?_
  refine wpl_q (q_pure rfl) rfl ?_
  refine wpl_bool2 12 11 rfl rfl (fun hb12 => ?_) (fun hb12 => ?_)
  ·
   have hN : badS g mx (HT.nd tg bv bs lv l).tr := .inl (show ¬ tg = g by simpa using hb12)
   refine wpl_off rfl rfl rfl rfl ?_
   refine wpl_off rfl rfl rfl rfl ?_
   refine wpl_off rfl rfl rfl rfl ?_
   refine wpl_off rfl rfl rfl rfl ?_
   refine wpl_q (q_pure rfl) rfl ?_
   refine wpl_q (q_pure rfl) rfl ?_
   refine wpl_off rfl rfl rfl rfl ?_
   refine wpl_off rfl rfl rfl rfl ?_
   refine wpl_off rfl rfl rfl rfl ?_
   refine wpl_off rfl rfl rfl rfl ?_
   refine wpl_off rfl rfl rfl rfl ?_
   refine wpl_q (q_pure rfl) rfl ?_
   refine wpl_nil ?_
   refine ex_then ?_
   refine wpc_cond_t rfl ?_
   refine wpc_seq ?_
   refine wpc_region ?_
   refine wpl_q (q_pure rfl) rfl ?_
   refine wpl_q (q_pure rfl) rfl ?_
   refine wpl_nil ?_
   refine ex_then ?_
   refine wpc_ret ?_
   refine ex_then_ret ?_
   refine ret2 (.inl rfl) rfl rfl rfl ?_
   exact fun w h => ⟨by rw [rdStr, if_pos hN]; rfl, h.below⟩
  ·
   have n1 : tg = g := by simpa using hb12
   refine wpl_on rfl rfl ?_
   refine wpl_q (q_field Try.underlying25 rfl Try.ti23 rfl rfl _ rfl) rfl ?_
   refine wpl_on rfl rfl ?_
   refine wpl_q (q_ld Try.underlying23 rfl rfl rfl) rfl ?_
   refine wpl_on rfl rfl ?_
   refine wpl_q (q_lenW Try.underlying23 rfl (by first | assumption | exact SV.nil | exact SV.slv (by assumption) (by omega) (by omega) | exact arv_sv (by first | decide | (simp only [maxLen]; omega)))) rfl ?_
   refine wpl_on rfl rfl ?_
   refine wpl_q (q_pure rfl) rfl ?_
   refine wpl_q (q_pure rfl) rfl ?_
   refine wpl_q (q_pure rfl) rfl ?_
   refine wpl_bool2 18 16 rfl rfl (fun hb18 => ?_) (fun hb18 => ?_)
   ·
    try simp only [decide_eq_true_eq] at hb18
    have hN : badS g mx (HT.nd tg bv bs lv l).tr := .inr (.inl (by show 0 < (trs l).length; rw [trs_length]; omega))
    refine wpl_off rfl rfl rfl rfl ?_
    refine wpl_off rfl rfl rfl rfl ?_
    refine wpl_off rfl rfl rfl rfl ?_
    refine wpl_off rfl rfl rfl rfl ?_
    refine wpl_off rfl rfl rfl rfl ?_
    refine wpl_q (q_pure rfl) rfl ?_
    refine wpl_nil ?_
    refine ex_then ?_
    refine wpc_cond_t rfl ?_
    refine wpc_seq ?_
    refine wpc_region ?_
    refine wpl_q (q_pure rfl) rfl ?_
    refine wpl_q (q_pure rfl) rfl ?_
    refine wpl_nil ?_
    refine ex_then ?_
    refine wpc_ret ?_
    refine ex_then_ret ?_
    refine ret2 (.inl rfl) rfl rfl rfl ?_
    exact fun w h => ⟨by rw [rdStr, if_pos hN]; rfl, h.below⟩
   ·
    try simp only [decide_eq_false_iff_not] at hb18
    have n2 : ¬ 0 < (trs l).length := by rw [trs_length]; omega
    refine wpl_on rfl rfl ?_
    refine wpl_q (q_field Try.underlying25 rfl Try.ti22 rfl rfl _ rfl) rfl ?_
    refine wpl_on rfl rfl ?_
    refine wpl_q (q_ld Try.underlying22 rfl rfl rfl) rfl ?_
    refine wpl_on rfl rfl ?_
    refine wpl_q (q_lenW Try.underlying22 rfl (by first | assumption | exact SV.nil | exact SV.slv (by assumption) (by omega) (by omega) | exact arv_sv (by first | decide | (simp only [maxLen]; omega)))) rfl ?_
    refine wpl_on rfl rfl ?_
    refine wpl_q (q_pure rfl) rfl ?_
    refine wpl_on rfl rfl ?_
    refine wpl_q (q_pure rfl) rfl ?_
    refine wpl_q (q_pure rfl) rfl ?_
    refine wpl_nil ?_
    refine ex_then ?_
    refine wpc_cond rfl (fun hc24 => ?_) (fun hc24 => ?_)
    ·
     simp only [decide_eq_true_eq] at hc24
     have hN : badS g mx (HT.nd tg bv bs lv l).tr := .inr (.inr (by show mx < (bs.length : Int); omega))
     refine wpc_seq ?_
     refine wpc_region ?_
     refine wpl_q (q_pure rfl) rfl ?_
     refine wpl_q (q_pure rfl) rfl ?_
     refine wpl_nil ?_
     refine ex_then ?_
     refine wpc_ret ?_
     refine ex_then_ret ?_
     refine ret2 (.inl rfl) rfl rfl rfl ?_
     exact fun w h => ⟨by rw [rdStr, if_pos hN]; rfl, h.below⟩
    ·
     simp only [decide_eq_false_iff_not] at hc24
     have hB : ¬ badS g mx (HT.nd tg bv bs lv l).tr := by rintro (h | h | h); exact h n1; exact n2 h; have h : mx < (bs.length : Int) := h; omega
     refine wpc_skip ?_
     refine ex_then ?_
     refine wpc_seq ?_
     refine wpc_region ?_
     refine wpl_q (q_field Try.underlying25 rfl Try.ti22 rfl rfl _ rfl) rfl ?_
     refine wpl_q (q_ld Try.underlying22 rfl rfl rfl) rfl ?_
     refine wpl_q (q_cvBS Try.underlying22 Try.underlying5 Try.underlying9 rfl (fun w h => h.seen_old hb)) rfl ?_
     refine wpl_q (q_pure rfl) rfl ?_
     refine wpl_q (q_pure rfl) rfl ?_
     refine wpl_nil ?_
     refine ex_then ?_
     refine wpc_ret ?_
     refine ret2 (.inl rfl) rfl rfl rfl ?_
     exact fun w h => ⟨by rw [rdStr, if_neg hB]; rfl, h.below⟩

set_option maxRecDepth 100000 in
theorem refReadStr (t : HT) (g : UInt8) (mx : Int) (w : World) (ht : HSeen w.cell? t)  :
    Calls Try.prog 17 [.agg t.c.toArray, .int .u8 g.toNat, .int .i64 mx].toArray w (Pur w (.tuple #[str (rdStr t.tr g mx).1, .int .i64 (((rdStr t.tr g mx).2 : Nat) : Int)])) := by
  obtain ⟨tg, bv, bs, lv, l⟩ := t
  have hb := ht.1
  have hk := ht.2.1
  have svb := hb.sv
  have svl := hk.sv
  have lb := svb.le
  have ll := svl.le
  simp only [maxLen] at lb ll
  refine enter (m := 28) (R := Mem w [] [] []) Try.func17 rfl rfl (Nat.le_of_ble_eq_true rfl) (Mem.start w) ?_
  refine wpc_seq ?_
  refine wpc_region ?_
  refine wpl_t (t_box rfl [.int .u8 (tg.toNat : Int), bv, lv] rfl) rfl (fun b3 => ?_)
  refine wpl_q (q_pure rfl) rfl ?_
  refine wpl_q (q_pure rfl) rfl ?_
  refine wpl_nil ?_
  refine ex_then ?_
  refine wpc_seq ?_
  refine wpc_seq ?_
  refine wpc_region ?_
  refine wpl_q (q_field Try.underlying25 rfl Try.ti5 rfl rfl _ rfl) rfl ?_
  refine wpl_q (q_ld Try.underlying5 rfl rfl (by first | exact v8s_get (by first | decide | omega | exact Nat.zero_lt_one | (simp; omega) | (simp; done) | (simp only [v8s_length, v32s_length, vis_length, vns_length, v64s_length]; omega)) | rfl)) rfl ?_
  refine wpl_q (q_pure rfl) rfl ?_
  refine wpl_q (q8_neq rfl rfl) rfl ?_
  refine wpl_q (q_pure rfl) rfl ?_
  refine wpl_bool2 12 11 rfl rfl (fun hb12 => ?_) (fun hb12 => ?_)
  ·
   have hN : badS g mx (HT.nd tg bv bs lv l).tr := .inl (show ¬ tg = g by simpa using hb12)
   refine wpl_off rfl rfl rfl rfl ?_
   refine wpl_off rfl rfl rfl rfl ?_
   refine wpl_off rfl rfl rfl rfl ?_
   refine wpl_off rfl rfl rfl rfl ?_
   refine wpl_q (q_pure rfl) rfl ?_
   refine wpl_q (q_pure rfl) rfl ?_
   refine wpl_off rfl rfl rfl rfl ?_
   refine wpl_off rfl rfl rfl rfl ?_
   refine wpl_off rfl rfl rfl rfl ?_
   refine wpl_off rfl rfl rfl rfl ?_
   refine wpl_off rfl rfl rfl rfl ?_
   refine wpl_q (q_pure rfl) rfl ?_
   refine wpl_nil ?_
   refine ex_then ?_
   refine wpc_cond_t rfl ?_
   refine wpc_seq ?_
   refine wpc_region ?_
   refine wpl_q (q_pure rfl) rfl ?_
   refine wpl_q (q_pure rfl) rfl ?_
   refine wpl_nil ?_
   refine ex_then ?_
   refine wpc_ret ?_
   refine ex_then_ret ?_
   refine ret2 (.inl rfl) rfl rfl rfl ?_
   exact fun w h => ⟨by rw [rdStr, if_pos hN]; rfl, h.below⟩
  ·
   have n1 : tg = g := by simpa using hb12
   refine wpl_on rfl rfl ?_
   refine wpl_q (q_field Try.underlying25 rfl Try.ti23 rfl rfl _ rfl) rfl ?_
   refine wpl_on rfl rfl ?_
   refine wpl_q (q_ld Try.underlying23 rfl rfl rfl) rfl ?_
   refine wpl_on rfl rfl ?_
   refine wpl_q (q_lenW Try.underlying23 rfl (by first | assumption | exact SV.nil | exact SV.slv (by assumption) (by omega) (by omega) | exact arv_sv (by first | decide | (simp only [maxLen]; omega)))) rfl ?_
   refine wpl_on rfl rfl ?_
   refine wpl_q (q_pure rfl) rfl ?_
   refine wpl_q (q_pure rfl) rfl ?_
   refine wpl_q (q_pure rfl) rfl ?_
   refine wpl_bool2 18 16 rfl rfl (fun hb18 => ?_) (fun hb18 => ?_)
   ·
    try simp only [decide_eq_true_eq] at hb18
    have hN : badS g mx (HT.nd tg bv bs lv l).tr := .inr (.inl (by show 0 < (trs l).length; rw [trs_length]; omega))
    refine wpl_off rfl rfl rfl rfl ?_
    refine wpl_off rfl rfl rfl rfl ?_
    refine wpl_off rfl rfl rfl rfl ?_
    refine wpl_off rfl rfl rfl rfl ?_
    refine wpl_off rfl rfl rfl rfl ?_
    refine wpl_q (q_pure rfl) rfl ?_
    refine wpl_nil ?_
    refine ex_then ?_
    refine wpc_cond_t rfl ?_
    refine wpc_seq ?_
    refine wpc_region ?_
    refine wpl_q (q_pure rfl) rfl ?_
    refine wpl_q (q_pure rfl) rfl ?_
    refine wpl_nil ?_
    refine ex_then ?_
    refine wpc_ret ?_
    refine ex_then_ret ?_
    refine ret2 (.inl rfl) rfl rfl rfl ?_
    exact fun w h => ⟨by rw [rdStr, if_pos hN]; rfl, h.below⟩
   ·
    try simp only [decide_eq_false_iff_not] at hb18
    have n2 : ¬ 0 < (trs l).length := by rw [trs_length]; omega
    refine wpl_on rfl rfl ?_
    refine wpl_q (q_field Try.underlying25 rfl Try.ti22 rfl rfl _ rfl) rfl ?_
    refine wpl_on rfl rfl ?_
    refine wpl_q (q_ld Try.underlying22 rfl rfl rfl) rfl ?_
    refine wpl_on rfl rfl ?_
    refine wpl_q (q_lenW Try.underlying22 rfl (by first | assumption | exact SV.nil | exact SV.slv (by assumption) (by omega) (by omega) | exact arv_sv (by first | decide | (simp only [maxLen]; omega)))) rfl ?_
    refine wpl_on rfl rfl ?_
    refine wpl_q (q_pure rfl) rfl ?_
    refine wpl_on rfl rfl ?_
    refine wpl_q (q_pure rfl) rfl ?_
    refine wpl_q (q_pure rfl) rfl ?_
    refine wpl_nil ?_
    refine ex_then ?_
    refine wpc_cond rfl (fun hc24 => ?_) (fun hc24 => ?_)
    ·
     simp only [decide_eq_true_eq] at hc24
     have hN : badS g mx (HT.nd tg bv bs lv l).tr := .inr (.inr (by show mx < (bs.length : Int); omega))
     refine wpc_seq ?_
     refine wpc_region ?_
     refine wpl_q (q_pure rfl) rfl ?_
     refine wpl_q (q_pure rfl) rfl ?_
     refine wpl_nil ?_
     refine ex_then ?_
     refine wpc_ret ?_
     refine ex_then_ret ?_
     refine ret2 (.inl rfl) rfl rfl rfl ?_
     exact fun w h => ⟨by rw [rdStr, if_pos hN]; rfl, h.below⟩
    ·
     simp only [decide_eq_false_iff_not] at hc24
     have hB : ¬ badS g mx (HT.nd tg bv bs lv l).tr := by rintro (h | h | h); exact h n1; exact n2 h; have h : mx < (bs.length : Int) := h; omega
     refine wpc_skip ?_
     refine ex_then ?_
     refine wpc_seq ?_
     refine wpc_region ?_
     refine wpl_q (q_field Try.underlying25 rfl Try.ti22 rfl rfl _ rfl) rfl ?_
     refine wpl_q (q_ld Try.underlying22 rfl rfl rfl) rfl ?_
     refine wpl_q (q_cvBS Try.underlying22 Try.underlying5 Try.underlying9 rfl (fun w h => h.seen_old hb)) rfl ?_
     refine wpl_q (q_pure rfl) rfl ?_
     refine wpl_q (q_pure rfl) rfl ?_
     refine wpl_nil ?_
     refine ex_then ?_
     refine wpc_ret ?_
     refine ret2 (.inl rfl) rfl rfl rfl ?_
     exact fun w h => ⟨by rw [rdStr, if_neg hB]; rfl, h.below⟩

set_option maxRecDepth 100000 in
theorem octReadSeq (t : HT) (g : UInt8) (lo : Int) (hi : Int) (w : World) (ht : HSeen w.cell? t) (hsm : Sm t.tr) :
    Calls Try.prog 18 [.agg t.c.toArray, .int .u8 g.toNat, .int .i64 lo, .int .i64 hi].toArray w (GivesP w (fun y : Value × List HT => trs y.2 = (rdSeq t.tr g lo hi).1 ∧ SV y.1 y.2.length ∧ ∀ x ∈ y.2, x.sv) (fun y => .tuple #[y.1, .int .i64 (((rdSeq t.tr g lo hi).2 : Nat) : Int)]) (fun y => .row y.1 y.2.length 25 3 (hcs y.2) :: entsL y.2) (fun _ => [])) := by
  obtain ⟨tg, bv, bs, lv, l⟩ := t
  have hb := ht.1
  have hk := ht.2.1
  have svb := hb.sv
  have svl := hk.sv
  have lb := svb.le
  have ll := svl.le
  simp only [maxLen] at lb ll
  refine enter (m := 37) (R := Mem w [] [] []) Try.func18 rfl rfl (Nat.le_of_ble_eq_true rfl) (Mem.start w) ?_
  refine wpc_seq ?_
  refine wpc_region ?_
  refine wpl_t (t_box rfl [.int .u8 (tg.toNat : Int), bv, lv] rfl) rfl (fun b4 => ?_)
  refine wpl_q (q_pure rfl) rfl ?_
  refine wpl_q (q_pure rfl) rfl ?_
  refine wpl_nil ?_
  refine ex_then ?_
  refine wpc_seq ?_
  refine wpc_seq ?_
  refine wpc_region ?_
  refine wpl_q (q_field Try.underlying25 rfl Try.ti5 rfl rfl _ rfl) rfl ?_
  refine wpl_q (q_ld Try.underlying5 rfl rfl (by first | exact v8s_get (by first | decide | omega | exact Nat.zero_lt_one | (simp; omega) | (simp; done) | (simp only [v8s_length, v32s_length, vis_length, vns_length, v64s_length]; omega)) | rfl)) rfl ?_
  refine wpl_q (q_pure rfl) rfl ?_
  refine wpl_q (q8_neq rfl rfl) rfl ?_
  refine wpl_q (q_pure rfl) rfl ?_
  refine wpl_bool2 14 13 rfl rfl (fun hb14 => ?_) (fun hb14 => ?_)
  ·
   have hN : badL g lo hi (HT.nd tg bv bs lv l).tr := .inl (show ¬ tg = g by simpa using hb14)
   refine wpl_off rfl rfl rfl rfl ?_
   refine wpl_off rfl rfl rfl rfl ?_
   refine wpl_off rfl rfl rfl rfl ?_
   refine wpl_off rfl rfl rfl rfl ?_
   refine wpl_q (q_pure rfl) rfl ?_
   refine wpl_q (q_pure rfl) rfl ?_
   refine wpl_off rfl rfl rfl rfl ?_
   refine wpl_off rfl rfl rfl rfl ?_
   refine wpl_off rfl rfl rfl rfl ?_
   refine wpl_off rfl rfl rfl rfl ?_
   refine wpl_off rfl rfl rfl rfl ?_
   refine wpl_q (q_pure rfl) rfl ?_
   refine wpl_q (q_pure rfl) rfl ?_
   refine wpl_off rfl rfl rfl rfl ?_
   refine wpl_off rfl rfl rfl rfl ?_
   refine wpl_off rfl rfl rfl rfl ?_
   refine wpl_off rfl rfl rfl rfl ?_
   refine wpl_off rfl rfl rfl rfl ?_
   refine wpl_q (q_pure rfl) rfl ?_
   refine wpl_nil ?_
   refine ex_then ?_
   refine wpc_cond_t rfl ?_
   refine wpc_seq ?_
   refine wpc_region ?_
   refine wpl_q (q_pure rfl) rfl ?_
   refine wpl_q (q_pure rfl) rfl ?_
   refine wpl_nil ?_
   refine ex_then ?_
   refine wpc_ret ?_
   refine ex_then_ret ?_
   refine ret2 (.inl rfl) rfl rfl rfl ?_
   exact fun w1 h => ⟨(nl, []), ⟨by rw [rdSeq, if_pos hN]; rfl, SV.nil, fun x hx => by cases hx⟩, by rw [rdSeq, if_pos hN]; rfl, h.below, (show Mem w [] [.row nl 0 25 3 []] [] w1 from (h.nilRow 25 3).sel).made (Sub.refl _) .nil⟩
  ·
   have n1 : tg = g := by simpa using hb14
   refine wpl_on rfl rfl ?_
   refine wpl_q (q_field Try.underlying25 rfl Try.ti22 rfl rfl _ rfl) rfl ?_
   refine wpl_on rfl rfl ?_
   refine wpl_q (q_ld Try.underlying22 rfl rfl rfl) rfl ?_
   refine wpl_on rfl rfl ?_
   refine wpl_q (q_lenW Try.underlying22 rfl (by first | assumption | exact SV.nil | exact SV.slv (by assumption) (by omega) (by omega) | exact arv_sv (by first | decide | (simp only [maxLen]; omega)))) rfl ?_
   refine wpl_on rfl rfl ?_
   refine wpl_q (q_pure rfl) rfl ?_
   refine wpl_q (q_pure rfl) rfl ?_
   refine wpl_q (q_pure rfl) rfl ?_
   refine wpl_bool2 20 18 rfl rfl (fun hb20 => ?_) (fun hb20 => ?_)
   ·
    try simp only [decide_eq_true_eq] at hb20
    have hN : badL g lo hi (HT.nd tg bv bs lv l).tr := .inr (.inl (by show 0 < bs.length; omega))
    refine wpl_off rfl rfl rfl rfl ?_
    refine wpl_off rfl rfl rfl rfl ?_
    refine wpl_off rfl rfl rfl rfl ?_
    refine wpl_off rfl rfl rfl rfl ?_
    refine wpl_off rfl rfl rfl rfl ?_
    refine wpl_q (q_pure rfl) rfl ?_
    refine wpl_q (q_pure rfl) rfl ?_
    refine wpl_off rfl rfl rfl rfl ?_
    refine wpl_off rfl rfl rfl rfl ?_
    refine wpl_off rfl rfl rfl rfl ?_
    refine wpl_off rfl rfl rfl rfl ?_
    refine wpl_off rfl rfl rfl rfl ?_
    refine wpl_q (q_pure rfl) rfl ?_
    refine wpl_nil ?_
    refine ex_then ?_
    refine wpc_cond_t rfl ?_
    refine wpc_seq ?_
    refine wpc_region ?_
    refine wpl_q (q_pure rfl) rfl ?_
    refine wpl_q (q_pure rfl) rfl ?_
    refine wpl_nil ?_
    refine ex_then ?_
    refine wpc_ret ?_
    refine ex_then_ret ?_
    refine ret2 (.inl rfl) rfl rfl rfl ?_
    exact fun w1 h => ⟨(nl, []), ⟨by rw [rdSeq, if_pos hN]; rfl, SV.nil, fun x hx => by cases hx⟩, by rw [rdSeq, if_pos hN]; rfl, h.below, (show Mem w [] [.row nl 0 25 3 []] [] w1 from (h.nilRow 25 3).sel).made (Sub.refl _) .nil⟩
   ·
    try simp only [decide_eq_false_iff_not] at hb20
    have n2 : ¬ 0 < bs.length := by omega
    refine wpl_on rfl rfl ?_
    refine wpl_q (q_field Try.underlying25 rfl Try.ti23 rfl rfl _ rfl) rfl ?_
    refine wpl_on rfl rfl ?_
    refine wpl_q (q_ld Try.underlying23 rfl rfl rfl) rfl ?_
    refine wpl_on rfl rfl ?_
    refine wpl_q (q_lenW Try.underlying23 rfl (by first | assumption | exact SV.nil | exact SV.slv (by assumption) (by omega) (by omega) | exact arv_sv (by first | decide | (simp only [maxLen]; omega)))) rfl ?_
    refine wpl_on rfl rfl ?_
    refine wpl_q (q_pure rfl) rfl ?_
    refine wpl_on rfl rfl ?_
    refine wpl_q (q_pure rfl) rfl ?_
    refine wpl_q (q_pure rfl) rfl ?_
    refine wpl_q (q_pure rfl) rfl ?_
    refine wpl_bool2 27 25 rfl rfl (fun hb27 => ?_) (fun hb27 => ?_)
    ·
     try simp only [decide_eq_true_eq] at hb27
     have hN : badL g lo hi (HT.nd tg bv bs lv l).tr := .inr (.inr (.inl (by show ((trs l).length : Int) < lo; rw [trs_length]; omega)))
     refine wpl_off rfl rfl rfl rfl ?_
     refine wpl_off rfl rfl rfl rfl ?_
     refine wpl_off rfl rfl rfl rfl ?_
     refine wpl_off rfl rfl rfl rfl ?_
     refine wpl_off rfl rfl rfl rfl ?_
     refine wpl_q (q_pure rfl) rfl ?_
     refine wpl_nil ?_
     refine ex_then ?_
     refine wpc_cond_t rfl ?_
     refine wpc_seq ?_
     refine wpc_region ?_
     refine wpl_q (q_pure rfl) rfl ?_
     refine wpl_q (q_pure rfl) rfl ?_
     refine wpl_nil ?_
     refine ex_then ?_
     refine wpc_ret ?_
     refine ex_then_ret ?_
     refine ret2 (.inl rfl) rfl rfl rfl ?_
     exact fun w1 h => ⟨(nl, []), ⟨by rw [rdSeq, if_pos hN]; rfl, SV.nil, fun x hx => by cases hx⟩, by rw [rdSeq, if_pos hN]; rfl, h.below, (show Mem w [] [.row nl 0 25 3 []] [] w1 from (h.nilRow 25 3).sel).made (Sub.refl _) .nil⟩
    ·
     try simp only [decide_eq_false_iff_not] at hb27
     have n3 : ¬ ((trs l).length : Int) < lo := by rw [trs_length]; omega
     refine wpl_on rfl rfl ?_
     refine wpl_q (q_field Try.underlying25 rfl Try.ti23 rfl rfl _ rfl) rfl ?_
     refine wpl_on rfl rfl ?_
     refine wpl_q (q_ld Try.underlying23 rfl rfl rfl) rfl ?_
     refine wpl_on rfl rfl ?_
     refine wpl_q (q_lenW Try.underlying23 rfl (by first | assumption | exact SV.nil | exact SV.slv (by assumption) (by omega) (by omega) | exact arv_sv (by first | decide | (simp only [maxLen]; omega)))) rfl ?_
     refine wpl_on rfl rfl ?_
     refine wpl_q (q_pure rfl) rfl ?_
     refine wpl_on rfl rfl ?_
     refine wpl_q (q_pure rfl) rfl ?_
     refine wpl_q (q_pure rfl) rfl ?_
     refine wpl_nil ?_
     refine ex_then ?_
     refine wpc_cond rfl (fun hc33 => ?_) (fun hc33 => ?_)
     ·
      simp only [decide_eq_true_eq] at hc33
      have hN : badL g lo hi (HT.nd tg bv bs lv l).tr := .inr (.inr (.inr (by show hi < ((trs l).length : Int); rw [trs_length]; omega)))
      refine wpc_seq ?_
      refine wpc_region ?_
      refine wpl_q (q_pure rfl) rfl ?_
      refine wpl_q (q_pure rfl) rfl ?_
      refine wpl_nil ?_
      refine ex_then ?_
      refine wpc_ret ?_
      refine ex_then_ret ?_
      refine ret2 (.inl rfl) rfl rfl rfl ?_
      exact fun w1 h => ⟨(nl, []), ⟨by rw [rdSeq, if_pos hN]; rfl, SV.nil, fun x hx => by cases hx⟩, by rw [rdSeq, if_pos hN]; rfl, h.below, (show Mem w [] [.row nl 0 25 3 []] [] w1 from (h.nilRow 25 3).sel).made (Sub.refl _) .nil⟩
     ·
      simp only [decide_eq_false_iff_not] at hc33
      have hB : ¬ badL g lo hi (HT.nd tg bv bs lv l).tr := by rintro (h | h | h | h); exact h n1; exact n2 h; exact n3 h; have h : hi < ((trs l).length : Int) := h; rw [trs_length] at h; omega
      refine wpc_skip ?_
      refine ex_then ?_
      refine wpc_seq ?_
      refine wpc_region ?_
      refine wpl_q (q_ldN Try.underlying25 rfl Try.ti25 rfl LenC.h) rfl ?_
      refine wpl_tp (t_callE (fun y : HT => (y.ents ++ [.blk b4 25 [.int .u8 (tg.toNat : Int), bv, lv]])) (fun y => List.Perm.refl _) Try.hb29 rfl fun w h => octTwin (.nd tg bv bs lv l) w (ht.old h) hsm) rfl (fun b35 p35 => ?_)
      obtain ⟨g2, v2, cs2, u2, m2⟩ := b35
      obtain ⟨e35, sv2, su2⟩ := p35
      refine wpl_q (q_fieldC Try.underlying25 rfl Try.underlying23 rfl rfl rfl) rfl ?_
      refine wpl_q (q_pure rfl) rfl ?_
      refine wpl_q (q_pure rfl) rfl ?_
      refine wpl_nil ?_
      refine ex_then ?_
      refine wpc_ret ?_
      refine ret2 (.inl rfl) rfl rfl rfl ?_
      exact fun w h => ⟨(u2, m2), ⟨by rw [rdSeq, if_neg hB]; exact congrArg Tr.kids e35, su2, HSeenL.sv (Mem.hseen h (t := .nd g2 v2 cs2 u2 m2)).2.2⟩, by rw [rdSeq, if_neg hB]; rfl, h.below, h.made (.drop (sub_left (.row u2 m2.length 25 3 (hcs m2) :: entsL m2) _)) .nil⟩

set_option maxRecDepth 100000 in
theorem refReadSeq (t : HT) (g : UInt8) (lo : Int) (hi : Int) (w : World) (ht : HSeen w.cell? t) (hsm : Sm t.tr) :
    Calls Try.prog 19 [.agg t.c.toArray, .int .u8 g.toNat, .int .i64 lo, .int .i64 hi].toArray w (GivesP w (fun y : Value × List HT => trs y.2 = (rdSeq t.tr g lo hi).1 ∧ SV y.1 y.2.length ∧ ∀ x ∈ y.2, x.sv) (fun y => .tuple #[y.1, .int .i64 (((rdSeq t.tr g lo hi).2 : Nat) : Int)]) (fun y => .row y.1 y.2.length 25 3 (hcs y.2) :: entsL y.2) (fun _ => [])) := by
  obtain ⟨tg, bv, bs, lv, l⟩ := t
  have hb := ht.1
  have hk := ht.2.1
  have svb := hb.sv
  have svl := hk.sv
  have lb := svb.le
  have ll := svl.le
  simp only [maxLen] at lb ll
  refine enter (m := 37) (R := Mem w [] [] []) Try.func19 rfl rfl (Nat.le_of_ble_eq_true rfl) (Mem.start w) ?_
  refine wpc_seq ?_
  refine wpc_region ?_
  refine wpl_t (t_box rfl [.int .u8 (tg.toNat : Int), bv, lv] rfl) rfl (fun b4 => ?_)
  refine wpl_q (q_pure rfl) rfl ?_
  refine wpl_q (q_pure rfl) rfl ?_
  refine wpl_nil ?_
  refine ex_then ?_
  refine wpc_seq ?_
  refine wpc_seq ?_
  refine wpc_region ?_
  refine wpl_q (q_field Try.underlying25 rfl Try.ti5 rfl rfl _ rfl) rfl ?_
  refine wpl_q (q_ld Try.underlying5 rfl rfl (by first | exact v8s_get (by first | decide | omega | exact Nat.zero_lt_one | (simp; omega) | (simp; done) | (simp only [v8s_length, v32s_length, vis_length, vns_length, v64s_length]; omega)) | rfl)) rfl ?_
  refine wpl_q (q_pure rfl) rfl ?_
  refine wpl_q (q8_neq rfl rfl) rfl ?_
  refine wpl_q (q_pure rfl) rfl ?_
  refine wpl_bool2 14 13 rfl rfl (fun hb14 => ?_) (fun hb14 => ?_)
  ·
   have hN : badL g lo hi (HT.nd tg bv bs lv l).tr := .inl (show ¬ tg = g by simpa using hb14)
   refine wpl_off rfl rfl rfl rfl ?_
   refine wpl_off rfl rfl rfl rfl ?_
   refine wpl_off rfl rfl rfl rfl ?_
   refine wpl_off rfl rfl rfl rfl ?_
   refine wpl_q (q_pure rfl) rfl ?_
   refine wpl_q (q_pure rfl) rfl ?_
   refine wpl_off rfl rfl rfl rfl ?_
   refine wpl_off rfl rfl rfl rfl ?_
   refine wpl_off rfl rfl rfl rfl ?_
   refine wpl_off rfl rfl rfl rfl ?_
   refine wpl_off rfl rfl rfl rfl ?_
   refine wpl_q (q_pure rfl) rfl ?_
   refine wpl_q (q_pure rfl) rfl ?_
   refine wpl_off rfl rfl rfl rfl ?_
   refine wpl_off rfl rfl rfl rfl ?_
   refine wpl_off rfl rfl rfl rfl ?_
   refine wpl_off rfl rfl rfl rfl ?_
   refine wpl_off rfl rfl rfl rfl ?_
   refine wpl_q (q_pure rfl) rfl ?_
   refine wpl_nil ?_
   refine ex_then ?_
   refine wpc_cond_t rfl ?_
   refine wpc_seq ?_
   refine wpc_region ?_
   refine wpl_q (q_pure rfl) rfl ?_
   refine wpl_q (q_pure rfl) rfl ?_
   refine wpl_nil ?_
   refine ex_then ?_
   refine wpc_ret ?_
   refine ex_then_ret ?_
   refine ret2 (.inl rfl) rfl rfl rfl ?_
   exact fun w1 h => ⟨(nl, []), ⟨by rw [rdSeq, if_pos hN]; rfl, SV.nil, fun x hx => by cases hx⟩, by rw [rdSeq, if_pos hN]; rfl, h.below, (show Mem w [] [.row nl 0 25 3 []] [] w1 from (h.nilRow 25 3).sel).made (Sub.refl _) .nil⟩
  ·
   have n1 : tg = g := by simpa using hb14
   refine wpl_on rfl rfl ?_
   refine wpl_q (q_field Try.underlying25 rfl Try.ti22 rfl rfl _ rfl) rfl ?_
   refine wpl_on rfl rfl ?_
   refine wpl_q (q_ld Try.underlying22 rfl rfl rfl) rfl ?_
   refine wpl_on rfl rfl ?_
   refine wpl_q (q_lenW Try.underlying22 rfl (by first | assumption | exact SV.nil | exact SV.slv (by assumption) (by omega) (by omega) | exact arv_sv (by first | decide | (simp only [maxLen]; omega)))) rfl ?_
   refine wpl_on rfl rfl ?_
   refine wpl_q (q_pure rfl) rfl ?_
   refine wpl_q (q_pure rfl) rfl ?_
   refine wpl_q (q_pure rfl) rfl ?_
   refine wpl_bool2 20 18 rfl rfl (fun hb20 => ?_) (fun hb20 => ?_)
   ·
    try simp only [decide_eq_true_eq] at hb20
    have hN : badL g lo hi (HT.nd tg bv bs lv l).tr := .inr (.inl (by show 0 < bs.length; omega))
    refine wpl_off rfl rfl rfl rfl ?_
    refine wpl_off rfl rfl rfl rfl ?_
    refine wpl_off rfl rfl rfl rfl ?_
    refine wpl_off rfl rfl rfl rfl ?_
    refine wpl_off rfl rfl rfl rfl ?_
    refine wpl_q (q_pure rfl) rfl ?_
    refine wpl_q (q_pure rfl) rfl ?_
    refine wpl_off rfl rfl rfl rfl ?_
    refine wpl_off rfl rfl rfl rfl ?_
    refine wpl_off rfl rfl rfl rfl ?_
    refine wpl_off rfl rfl rfl rfl ?_
    refine wpl_off rfl rfl rfl rfl ?_
    refine wpl_q (q_pure rfl) rfl ?_
    refine wpl_nil ?_
    refine ex_then ?_
    refine wpc_cond_t rfl ?_
    refine wpc_seq ?_
    refine wpc_region ?_
    refine wpl_q (q_pure rfl) rfl ?_
    refine wpl_q (q_pure rfl) rfl ?_
    refine wpl_nil ?_
    refine ex_then ?_
    refine wpc_ret ?_
    refine ex_then_ret ?_
    refine ret2 (.inl rfl) rfl rfl rfl ?_
    exact fun w1 h => ⟨(nl, []), ⟨by rw [rdSeq, if_pos hN]; rfl, SV.nil, fun x hx => by cases hx⟩, by rw [rdSeq, if_pos hN]; rfl, h.below, (show Mem w [] [.row nl 0 25 3 []] [] w1 from (h.nilRow 25 3).sel).made (Sub.refl _) .nil⟩
   ·
    try simp only [decide_eq_false_iff_not] at hb20
    have n2 : ¬ 0 < bs.length := by omega
    refine wpl_on rfl rfl ?_
    refine wpl_q (q_field Try.underlying25 rfl Try.ti23 rfl rfl _ rfl) rfl ?_
    refine wpl_on rfl rfl ?_
    refine wpl_q (q_ld Try.underlying23 rfl rfl rfl) rfl ?_
    refine wpl_on rfl rfl ?_
    refine wpl_q (q_lenW Try.underlying23 rfl (by first | assumption | exact SV.nil | exact SV.slv (by assumption) (by omega) (by omega) | exact arv_sv (by first | decide | (simp only [maxLen]; omega)))) rfl ?_
    refine wpl_on rfl rfl ?_
    refine wpl_q (q_pure rfl) rfl ?_
    refine wpl_on rfl rfl ?_
    refine wpl_q (q_pure rfl) rfl ?_
    refine wpl_q (q_pure rfl) rfl ?_
    refine wpl_q (q_pure rfl) rfl ?_
    refine wpl_bool2 27 25 rfl rfl (fun hb27 => ?_) (fun hb27 => ?_)
    ·
     try simp only [decide_eq_true_eq] at hb27
     have hN : badL g lo hi (HT.nd tg bv bs lv l).tr := .inr (.inr (.inl (by show ((trs l).length : Int) < lo; rw [trs_length]; omega)))
     refine wpl_off rfl rfl rfl rfl ?_
     refine wpl_off rfl rfl rfl rfl ?_
     refine wpl_off rfl rfl rfl rfl ?_
     refine wpl_off rfl rfl rfl rfl ?_
     refine wpl_off rfl rfl rfl rfl ?_
     refine wpl_q (q_pure rfl) rfl ?_
     refine wpl_nil ?_
     refine ex_then ?_
     refine wpc_cond_t rfl ?_
     refine wpc_seq ?_
     refine wpc_region ?_
     refine wpl_q (q_pure rfl) rfl ?_
     refine wpl_q (q_pure rfl) rfl ?_
     refine wpl_nil ?_
     refine ex_then ?_
     refine wpc_ret ?_
     refine ex_then_ret ?_
     refine ret2 (.inl rfl) rfl rfl rfl ?_
     exact fun w1 h => ⟨(nl, []), ⟨by rw [rdSeq, if_pos hN]; rfl, SV.nil, fun x hx => by cases hx⟩, by rw [rdSeq, if_pos hN]; rfl, h.below, (show Mem w [] [.row nl 0 25 3 []] [] w1 from (h.nilRow 25 3).sel).made (Sub.refl _) .nil⟩
    ·
     try simp only [decide_eq_false_iff_not] at hb27
     have n3 : ¬ ((trs l).length : Int) < lo := by rw [trs_length]; omega
     refine wpl_on rfl rfl ?_
     refine wpl_q (q_field Try.underlying25 rfl Try.ti23 rfl rfl _ rfl) rfl ?_
     refine wpl_on rfl rfl ?_
     refine wpl_q (q_ld Try.underlying23 rfl rfl rfl) rfl ?_
     refine wpl_on rfl rfl ?_
     refine wpl_q (q_lenW Try.underlying23 rfl (by first | assumption | exact SV.nil | exact SV.slv (by assumption) (by omega) (by omega) | exact arv_sv (by first | decide | (simp only [maxLen]; omega)))) rfl ?_
     refine wpl_on rfl rfl ?_
     refine wpl_q (q_pure rfl) rfl ?_
     refine wpl_on rfl rfl ?_
     refine wpl_q (q_pure rfl) rfl ?_
     refine wpl_q (q_pure rfl) rfl ?_
     refine wpl_nil ?_
     refine ex_then ?_
     refine wpc_cond rfl (fun hc33 => ?_) (fun hc33 => ?_)
     ·
      simp only [decide_eq_true_eq] at hc33
      have hN : badL g lo hi (HT.nd tg bv bs lv l).tr := .inr (.inr (.inr (by show hi < ((trs l).length : Int); rw [trs_length]; omega)))
      refine wpc_seq ?_
      refine wpc_region ?_
      refine wpl_q (q_pure rfl) rfl ?_
      refine wpl_q (q_pure rfl) rfl ?_
      refine wpl_nil ?_
      refine ex_then ?_
      refine wpc_ret ?_
      refine ex_then_ret ?_
      refine ret2 (.inl rfl) rfl rfl rfl ?_
      exact fun w1 h => ⟨(nl, []), ⟨by rw [rdSeq, if_pos hN]; rfl, SV.nil, fun x hx => by cases hx⟩, by rw [rdSeq, if_pos hN]; rfl, h.below, (show Mem w [] [.row nl 0 25 3 []] [] w1 from (h.nilRow 25 3).sel).made (Sub.refl _) .nil⟩
     ·
      simp only [decide_eq_false_iff_not] at hc33
      have hB : ¬ badL g lo hi (HT.nd tg bv bs lv l).tr := by rintro (h | h | h | h); exact h n1; exact n2 h; exact n3 h; have h : hi < ((trs l).length : Int) := h; rw [trs_length] at h; omega
      refine wpc_skip ?_
      refine ex_then ?_
      refine wpc_seq ?_
      refine wpc_region ?_
      refine wpl_q (q_ldN Try.underlying25 rfl Try.ti25 rfl LenC.h) rfl ?_
      refine wpl_tp (t_callE (fun y : HT => (y.ents ++ [.blk b4 25 [.int .u8 (tg.toNat : Int), bv, lv]])) (fun y => List.Perm.refl _) Try.hb13 rfl fun w h => refTwin (.nd tg bv bs lv l) w (ht.old h) hsm) rfl (fun b35 p35 => ?_)
      obtain ⟨g2, v2, cs2, u2, m2⟩ := b35
      obtain ⟨e35, sv2, su2⟩ := p35
      refine wpl_q (q_fieldC Try.underlying25 rfl Try.underlying23 rfl rfl rfl) rfl ?_
      refine wpl_q (q_pure rfl) rfl ?_
      refine wpl_q (q_pure rfl) rfl ?_
      refine wpl_nil ?_
      refine ex_then ?_
      refine wpc_ret ?_
      refine ret2 (.inl rfl) rfl rfl rfl ?_
      exact fun w h => ⟨(u2, m2), ⟨by rw [rdSeq, if_neg hB]; exact congrArg Tr.kids e35, su2, HSeenL.sv (Mem.hseen h (t := .nd g2 v2 cs2 u2 m2)).2.2⟩, by rw [rdSeq, if_neg hB]; rfl, h.below, h.made (.drop (sub_left (.row u2 m2.length 25 3 (hcs m2) :: entsL m2) _)) .nil⟩

set_option maxRecDepth 100000 in
theorem octSeq (tg : UInt8) (lv : Value) (l : List HT) (w : World) (hlv : Seen w.cell? lv l.length 3 (hcs l)) (hhl : HSeenL w.cell? l) (hsm : Sm (Tr.nd tg [] (trs l))) :
    Calls Try.prog 20 [.int .u8 tg.toNat, lv].toArray w (GivesP w (fun y : HT => y.tr = Tr.nd tg [] (trs l) ∧ y.sv) (fun y => .agg y.c.toArray) (fun y => y.ents) (fun _ => [])) := by
  have slv := hlv.sv
  have llv := slv.le
  simp only [maxLen] at llv
  have ht : HSeen w.cell? (.nd tg nl [] lv l) := ⟨seen_nil _ 5 1, hlv, hhl⟩
  refine enter (m := 9) (R := Mem w [] [] []) Try.func20 rfl rfl (Nat.le_of_ble_eq_true rfl) (Mem.start w) ?_
  refine wpc_seq ?_
  refine wpc_region ?_
  refine wpl_t (t_alloc Try.ti25 [.int .u8 0, nl, nl] rfl) rfl (fun b4 => ?_)
  refine wpl_nil ?_
  refine ex_then ?_
  refine wpc_seq ?_
  refine wpc_region ?_
  refine wpl_q (q_pure rfl) rfl ?_
  refine wpl_q (q_pure rfl) rfl ?_
  refine wpl_q (q_build (cs := [.int .u8 (tg.toNat : Int), nl, lv]) rfl (built_o2 tg slv)) rfl ?_
  refine wpl_tp (t_callE (fun y : HT => .blk b4 25 [.int .u8 0, nl, nl] :: y.ents) (fun y => List.perm_append_comm) Try.hb29 rfl fun w h => octTwin (.nd tg nl [] lv l) w (ht.old h) hsm) rfl (fun b8 p8 => ?_)
  haveI := p8.2.one
  refine wpl_t0 (t_stA Try.ti25 rfl rfl LenC.h OneC.h LenC.h) (fun _ => ?_)
  refine wpl_nil ?_
  refine ex_then ?_
  refine wpc_ret ?_
  refine retv1 (.inl rfl) rfl (rv_agg Try.underlying25 rfl Try.ti25 rfl (fun w h => h.atB) LenC.h) ?_
  exact fun w1 h => ⟨b8, p8, rfl, h.below, h.made (.drop (Sub.refl _)) .nil⟩

end Go.Proofs.Ytommkigkkeailaa
