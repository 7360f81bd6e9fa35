/- What the statement reaches, in order. -/
import Derived.Test.YtgnablliekgbgaaDoorMNPLN
import Derived.Test.YtgnablliekgbgaaDoorMNPLL
import Derived.Test.YtgnablliekgbgaaDoorMNTI
import Derived.Test.YtgnablliekgbgaaDoorMNPLI
import Derived.Test.YtgnablliekgbgaaDoorMNPLZ
import Derived.KernelRfl
import Derived.Lib.BufferRead
import Derived.Lib.ConvBytes
import Derived.Laws.IdiomStrings
import Derived.Test.YtgnablliekgbgaaDoorMNPLH
import Derived.Recover
import Derived.WalkKit
import Derived.ProofKit
import Derived.OpenShut
import Derived.ChangeOld
import Derived.Below
import Derived.Carry
import Derived.LaidMore
import Derived.Deep.DeepHandedRow
import Derived.Deep.DeepWitnessRowRef
import Derived.Lib.LaidTab
import Derived.Stop.Joined
import Derived.Test.YtgnablliekgbgaaDoorMN3
set_option linter.unusedSimpArgs false
set_option linter.unusedVariables false
set_option maxRecDepth 100000
namespace Go.Proofs.YtgnablliekgbgaaDoor
open Go Go.PL Go.RowKit
theorem put_step (v : Value) (xs : List UInt8) (t : HT) (w : World) (hrow : (Ent.row v xs.length 5 1 (v8s xs)).at w) (sv : SV v xs.length) (ht : HSeen (rdO (nums [.row v xs.length 5 1 (v8s xs)]) w) t) (hsm : Sm t.tr) (hxl : xs.length + t.tr.siz ≤ 3000000) (ih : ∀ x ∈ t.kids, ∀ (v : Value) (xs : List UInt8) (w : World), (Ent.row v xs.length 5 1 (v8s xs)).at w → SV v xs.length → HSeen (rdO (nums [.row v xs.length 5 1 (v8s xs)]) w) x → Sm x.tr → xs.length + x.tr.siz ≤ 3000000 → Calls Tryd.prog 48 [v, .agg x.c.toArray].toArray w (GivesR w (.row v xs.length 5 1 (v8s xs)) (xs.length + x.tr.siz) 5 1 (v8s (xs ++ enc x.tr)))) :
    Calls Tryd.prog 48 [v, .agg t.c.toArray].toArray w (GivesR w (.row v xs.length 5 1 (v8s xs)) (xs.length + t.tr.siz) 5 1 (v8s (xs ++ enc t.tr))) := by
  obtain ⟨tg, bv, bs, lv, l⟩ := t
  have hb := ht.1
  have hk := ht.2.1
  have svb := hb.sv
  have svl := hk.sv
  have lb := svb.le
  have ll := svl.le
  simp only [maxLen] at lb ll
  have hs3 := content_le hsm
  have hxl : xs.length + (1 + wideF (bs.length + sizL (trs l)) + (bs.length + sizL (trs l))) ≤ 3000000 := hxl
  refine enter (m := 78) (R := Mem w (nums [(.row v xs.length 5 1 (v8s xs))]) [(.row v xs.length 5 1 (v8s xs))] []) Tryd.func48 rfl rfl (Nat.le_of_ble_eq_true rfl) (Mem.startR w hrow) ?_
  refine wpc_seq <| wpc_region ?_
  refine wpl_t (t_box rfl [.int .u8 (tg.toNat : Int), bv, lv] rfl) rfl (fun b3 => ?_)
  refine wpl_q (q_pure rfl) rfl <| wpl_nil <| ex_then <| wpc_seq <| wpc_region <| wpl_q (q_field Tryd.underlying61 rfl Tryd.ti34 rfl rfl _ rfl) rfl <| wpl_q (q_ld Tryd.underlying34 rfl rfl rfl) rfl ?_
  refine wpl_q (q_lenW Tryd.underlying34 rfl zz3) rfl ?_
  refine wpl_q (q_pure rfl) rfl <| wpl_nil <| ex_then <| wpc_seq <| wpc_seq <| wpc_region <| wpl_q (q_field Tryd.underlying61 rfl Tryd.ti59 rfl rfl _ rfl) rfl <| wpl_q (q_ld Tryd.underlying59 rfl rfl rfl) rfl ?_
  refine wpl_q (q_lenW Tryd.underlying59 rfl zz3) rfl ?_
  refine wpl_q (q_pure rfl) rfl <| wpl_nil <| ex_then <| wpc_block ?_
  refine wpc_loopc (ι := { x : Nat // (x ≤ l.length) }) [(0, _), (3, _), (16, _), (17, _)] (fun x Lc => (18, .int .i64 ((x.1 : Nat) : Int)) :: (5, .int .i64 ((bs.length + sizL (trs (l.take x.1)) : Nat) : Int)) :: Lc) (fun x => Mem w (nums [.row v xs.length 5 1 (v8s xs)]) [.blk b3 61 [.int .u8 (tg.toNat : Int), bv, lv], (.row v xs.length 5 1 (v8s xs))] []) (fun x => l.length - x.1) ⟨0, (Nat.zero_le _)⟩ zz9 ?_ ?_
  ·
   exact fun w h => h.sub SubC.h .nil
  ·
   rintro ⟨i, hi0⟩; try dsimp only
   have hi0 : i ≤ l.length := hi0
   refine wpc_seq <| wpc_region <| wpl_q (q_pure rfl) rfl <| wpl_nil <| ex_then <| wpc_seq ?_
   refine wpc_cond rfl (fun hc19 => ?_) (fun hc19 => ?_)
   ·
    simp only [decide_eq_true_eq] at hc19
    have hil : i < l.length := by omega
    haveI := (ht.kid hil).sv.one
    have hs1 := sizL_take hil
    have hs2 := sizL_kid hil
    refine wpc_skip <| ex_then <| wpc_seq <| wpc_block <| wpc_seq <| wpc_region ?_
    refine wpl_q (q_idxW Tryd.underlying59 Tryd.ti61 rfl rfl zz3 zz1) rfl ?_
    refine wpl_q (q_ldWN Tryd.underlying61 rfl Tryd.ti61 rfl (fun w h => hk.mono (rdo_old h)) (l.getD i HT.z).c (cat_part HT.c_length HT.z hil) (HT.c_length _)) rfl ?_
    refine wpl_t (t_alloc Tryd.ti61 HT.z.c rfl) rfl (fun b7 => ?_)
    refine wpl_t0 (t_stA Tryd.ti61 rfl rfl LenC.h OneC.h LenC.h) (fun _ => ?_)
    refine wpl_nil <| ex_then <| wpc_region <| wpl_q (q_pure rfl) rfl <| wpl_q (q_ldN Tryd.underlying61 rfl Tryd.ti61 rfl LenC.h) rfl ?_
    refine wpl_t (t_pur (v := .int .i64 (((l.getD i HT.z).tr.siz : Nat) : Int)) Tryd.hb76 rfl fun w h => size (l.getD i HT.z) w ((ht.kid hil).mono (rdo_old h)) (hsm.kid hil)) rfl (fun b24 => ?_)
    refine wpl_q (q_addN rfl rfl zz1) rfl ?_
    refine wpl_re 25 rfl (congrArg (fun n : Nat => Value.int .i64 (n : Int)) (show bs.length + sizL (trs (l.take i)) + (l.getD i HT.z).tr.siz = bs.length + sizL (trs (l.take (i + 1))) from zz12)) ?_
    refine wpl_q (q_pure rfl) rfl <| wpl_nil <| ex_block <| ex_then <| wpc_region ?_
    refine wpl_q (q_addN (b := 1) rfl rfl zz1) rfl ?_
    refine wpl_q (q_pure rfl) rfl <| wpl_nil ?_
    refine ex_again ⟨i + 1, zz12⟩ ?_ ?_ ?_
    ·
     exact zz9
    ·
     exact fun w h => h.sub SubC.h .nil
    ·
     (show l.length - (i + 1) < l.length - i); omega
   ·
    simp only [decide_eq_false_iff_not] at hc19
    obtain rfl : i = l.length := by omega
    rw [List.take_length]
    have hw := wideF_le (bs.length + sizL (trs l)) zz12
    refine wpc_exit ?_
    refine ex_then_exit ?_
    refine ex_then_exit ?_
    refine ex_block_hit ?_
    refine ex_then <| wpc_seq <| wpc_region <| wpl_q (q_pure rfl) rfl <| wpl_q (q_field Tryd.underlying61 rfl Tryd.ti5 rfl rfl _ rfl) rfl ?_
    refine wpl_q (q_ld Tryd.underlying5 rfl rfl zz34) rfl ?_
    refine wpl_tp (t_bsV (v8s [_]) Tryd.underlying34 Tryd.ti5 rfl rfl zz19 zz19 rfl (v8s_one _)) rfl (fun b30 p30 => ?_)
    refine wpl_tp (t_apW Tryd.underlying34 Tryd.ti5 rfl zz19 rfl rfl (fun w h => zz14) OneC.h zz1 zz1 (v8s (xs ++ [tg])) (v8s_append _ _).symm) rfl (fun b31 p31 => ?_)
    refine wpl_q (q_pure rfl) rfl <| wpl_nil <| ex_then ?_
    refine wpc_cutc ({ x : Value × List UInt8 // (x.2 = xs ++ (tg :: lenB (bs.length + sizL (trs l)))) ∧ (x.2.length = xs.length + 1 + wideF (bs.length + sizL (trs l))) ∧ (SV x.1 x.2.length) }) [(3, .pointer (some ⟨b3, 0, none⟩))] (fun x Lc => (0, x.1.1) :: Lc) (fun x => Mem w (nums [.row v xs.length 5 1 (v8s xs)]) [.blk b3 61 [.int .u8 (tg.toNat : Int), bv, lv], .row x.1.1 (x.1.2.length) 5 1 (v8s (x.1.2))] []) ?_ ?_
    ·
     refine wpc_seq <| wpc_region <| wpl_q (q_pure rfl) rfl ?_
     refine wpl_t (t_pur (v := .int .i64 ((wideF (bs.length + sizL (trs l)) : Nat) : Int)) Tryd.hb77 rfl fun w h => wide (bs.length + sizL (trs l)) w zz12) rfl (fun b33 => ?_)
     have hwp : 1 ≤ wideF (bs.length + sizL (trs l)) := by unfold wideF; split <;> omega
     refine wpl_q (q_subN (b := 1) rfl rfl zz12 zz1) rfl ?_
     refine wpl_q (q_pure rfl) rfl <| wpl_nil <| ex_then <| wpc_seq <| wpc_region <| wpl_q (q_pure rfl) rfl <| wpl_q (q_pure rfl) rfl <| wpl_nil <| ex_then ?_
     refine wpc_cond rfl (fun hc36 => ?_) (fun hc36 => ?_)
     ·
      try simp only [beq_iff_eq] at hc36
      try simp only [decide_eq_true_eq] at hc36
      have hn : (bs.length + sizL (trs l)) < 128 := by
        rcases Nat.lt_or_ge (bs.length + sizL (trs l)) 128 with h | h
        · exact h
        · have h1 := wide_k (n := (bs.length + sizL (trs l))) zz12
          have h2 := wide_ge (n := (bs.length + sizL (trs l))) zz12
          omega
      have hlb : lenB (bs.length + sizL (trs l)) = [of8 (((bs.length + sizL (trs l)) : Nat) : Int)] := by rw [lenB_num zz12, if_pos hn]
      have hy1 : ((xs ++ [tg]) ++ [of8 (((bs.length + sizL (trs l)) : Nat) : Int)]).length = xs.length + 1 + 1 := by simp
      refine wpc_region <| wpl_q (q_pure rfl) rfl <| wpl_q (q_pure rfl) rfl <| wpl_q (q8_conv Tryd.underlying3 Tryd.underlying5 rfl) rfl ?_
      refine wpl_tp (t_bsV (v8s [_]) Tryd.underlying34 Tryd.ti5 rfl rfl zz19 zz19 rfl (v8s_one _)) rfl (fun b40 p40 => ?_)
      refine wpl_tp (t_apW Tryd.underlying34 Tryd.ti5 rfl zz19 rfl rfl (fun w h => zz14) OneC.h zz1 zz1 (v8s ((xs ++ [tg]) ++ [of8 (((bs.length + sizL (trs l)) : Nat) : Int)])) (v8s_append _ _).symm) rfl (fun b41 p41 => ?_)
      refine wpl_q (q_pure rfl) rfl <| wpl_nil ?_
      refine ex_mid ⟨(b41, (xs ++ [tg]) ++ [of8 (((bs.length + sizL (trs l)) : Nat) : Int)]), ⟨by rw [hlb]; simp, by rw [hy1]; omega, by rw [hy1]; exact p41⟩⟩ ?_ ?_
      ·
       exact zz9
      ·
       exact fun w h => by
         dsimp only
         rw [hy1]
         exact h.sel
     ·
      try simp only [beq_eq_false_iff_ne, ne_eq] at hc36
      try simp only [decide_eq_false_iff_not] at hc36
      have hn : ¬ (bs.length + sizL (trs l)) < 128 := fun h => hc36 (by have := wide_1 h; omega)
      have hk : wideF (bs.length + sizL (trs l)) - 1 = kB (bs.length + sizL (trs l)) := wide_k hn
      have hkg := wide_ge hn
      have hlb : lenB (bs.length + sizL (trs l)) = of8 ((128 + kB (bs.length + sizL (trs l)) : Nat) : Int) :: numK (kB (bs.length + sizL (trs l))) (bs.length + sizL (trs l)) := by rw [lenB_num zz12, if_neg hn]
      have hy2 : ((xs ++ [tg] ++ [of8 ((128 + kB (bs.length + sizL (trs l)) : Nat) : Int)]) ++ numK (kB (bs.length + sizL (trs l))) (bs.length + sizL (trs l))).length = xs.length + 1 + 1 + (kB (bs.length + sizL (trs l)) - 0) := by rw [List.length_append, numK_len]; simp
      have e0 : numK (kB (bs.length + sizL (trs l)) - 0) ((bs.length + sizL (trs l)) / 2 ^ (8 * 0)) = numK (kB (bs.length + sizL (trs l))) (bs.length + sizL (trs l)) := by rw [Nat.sub_zero, Nat.mul_zero, Nat.pow_zero, Nat.div_one]
      refine wpc_seq <| wpc_region <| wpl_q (q_pure rfl) rfl <| wpl_q (q_pure rfl) rfl ?_
      refine wpl_q (q_addN (a := 128) rfl rfl zz1) rfl ?_
      refine wpl_re 44 rfl (congrArg (fun n : Nat => Value.int .i64 (n : Int)) (show 128 + (wideF (bs.length + sizL (trs l)) - 1) = 128 + kB (bs.length + sizL (trs l)) from zz12)) ?_
      refine wpl_q (q8_conv Tryd.underlying3 Tryd.underlying5 rfl) rfl ?_
      refine wpl_tp (t_bsV (v8s [_]) Tryd.underlying34 Tryd.ti5 rfl rfl zz19 zz19 rfl (v8s_one _)) rfl (fun b46 p46 => ?_)
      refine wpl_tp (t_apW Tryd.underlying34 Tryd.ti5 rfl zz19 rfl rfl (fun w h => zz14) OneC.h zz1 zz1 (v8s (xs ++ [tg] ++ [of8 ((128 + kB (bs.length + sizL (trs l)) : Nat) : Int)])) (v8s_append _ _).symm) rfl (fun b47 p47 => ?_)
      refine wpl_q (q_pure rfl) rfl <| wpl_nil <| ex_then <| wpc_seq <| wpc_region <| wpl_q (q_pure rfl) rfl ?_
      refine wpl_q (q_subN (b := 1) rfl rfl zz12 zz1) rfl ?_
      refine wpl_re 49 rfl (congrArg (Value.int .i64) (show ((wideF (bs.length + sizL (trs l)) - 1 - 1 : Nat) : Int) = ((kB (bs.length + sizL (trs l)) : Nat) : Int) - 1 from zz12)) ?_
      refine wpl_q (q_pure rfl) rfl <| wpl_nil <| ex_then <| wpc_block ?_
      refine wpc_loopc (ι := { x : Nat × Value // (x.1 ≤ kB (bs.length + sizL (trs l))) ∧ (SV x.2 (xs.length + 1 + 1 + (kB (bs.length + sizL (trs l)) - x.1))) }) [(3, _), (5, _)] (fun x Lc => (9, .int .i64 (((x.1.1 : Nat) : Int) - 1)) :: (0, x.1.2) :: Lc) (fun x => Mem w (nums [.row v xs.length 5 1 (v8s xs)]) [.blk b3 61 [.int .u8 (tg.toNat : Int), bv, lv], .row x.1.2 (xs.length + 1 + 1 + (kB (bs.length + sizL (trs l)) - x.1.1)) 5 1 (v8s (((xs ++ [tg] ++ [of8 ((128 + kB (bs.length + sizL (trs l)) : Nat) : Int)]) ++ numK (kB (bs.length + sizL (trs l)) - x.1.1) ((bs.length + sizL (trs l)) / 2 ^ (8 * x.1.1)))))] []) (fun x => x.1.1) ⟨(kB (bs.length + sizL (trs l)), b47), ⟨Nat.le_refl _, by rw [Nat.sub_self]; exact p47⟩⟩ zz9 ?_ ?_
      ·
       exact fun w h => by
         dsimp only
         rw [numK_all, Nat.sub_self, List.append_nil]
         exact h.sel
      ·
       rintro ⟨⟨s, v3⟩, ⟨hi0, hi1⟩⟩; try dsimp only
       have hi0 : s ≤ kB (bs.length + sizL (trs l)) := hi0; have hi1 : SV v3 (xs.length + 1 + 1 + (kB (bs.length + sizL (trs l)) - s)) := hi1
       refine wpc_seq <| wpc_seq <| wpc_region <| wpl_q (q_pure rfl) rfl <| wpl_q (q_pure rfl) rfl <| wpl_nil <| ex_then ?_
       refine wpc_cond rfl (fun hc51 => ?_) (fun hc51 => ?_)
       ·
        simp only [decide_eq_true_eq] at hc51
        obtain ⟨m, rfl⟩ : ∃ m, s = m + 1 := ⟨s - 1, zz12⟩
        refine wpc_re 9 rfl (congrArg (Value.int .i64) (show (((m + 1 : Nat) : Int) - 1) = ((m : Nat) : Int) from zz12)) ?_
        refine wpc_skip <| ex_then <| wpc_seq <| wpc_block <| wpc_region <| wpl_q (q_pure rfl) rfl <| wpl_q (q_pure rfl) rfl <| wpl_q (q_pure rfl) rfl ?_
        refine wpl_q (q_mulN (a := 8) rfl rfl zz1) rfl ?_
        refine wpl_q (q_shrN rfl rfl zz24) rfl ?_
        refine wpl_q (q8_conv Tryd.underlying3 Tryd.underlying5 rfl) rfl ?_
        refine wpl_tp (t_bsV (v8s [_]) Tryd.underlying34 Tryd.ti5 rfl rfl zz19 zz19 rfl (v8s_one _)) rfl (fun b60 p60 => ?_)
        refine wpl_tp (t_apW Tryd.underlying34 Tryd.ti5 rfl zz19 rfl rfl (fun w h => zz14) OneC.h zz1 zz1 (v8s ((xs ++ [tg] ++ [of8 ((128 + kB (bs.length + sizL (trs l)) : Nat) : Int)]) ++ numK (kB (bs.length + sizL (trs l)) - m) ((bs.length + sizL (trs l)) / 2 ^ (8 * m)))) (by have q := num_step (bs.length + sizL (trs l)) (kB (bs.length + sizL (trs l))) (m + 1) zz12 hi0; rw [Nat.add_sub_cancel] at q; rw [q, ← List.append_assoc]; exact (v8s_append _ _).symm)) rfl (fun b61 p61 => ?_)
        refine wpl_q (q_pure rfl) rfl <| wpl_nil <| ex_block <| ex_then <| wpc_region <| wpl_q (q_pure rfl) rfl ?_
        first | refine wpl_q (qop_eq (q_pure rfl) (congrArg (Value.int .i64) (wk_i64 zz12 zz12))) rfl ?_ | refine wpl_q (q_pure rfl) rfl ?_
        refine wpl_q (q_pure rfl) rfl <| wpl_nil ?_
        refine ex_again ⟨(m, b61), ⟨zz12, by show SV b61 (xs.length + 1 + 1 + (kB (bs.length + sizL (trs l)) - m)); rw [show kB (bs.length + sizL (trs l)) - m = (kB (bs.length + sizL (trs l)) - (m + 1)) + 1 from zz12]; exact p61⟩⟩ ?_ ?_ ?_
        ·
         exact zz9
        ·
         exact fun w h => by
           dsimp only
           rw [show xs.length + 1 + 1 + (kB (bs.length + sizL (trs l)) - (m + 1)) + 1 = xs.length + 1 + 1 + (kB (bs.length + sizL (trs l)) - m) from zz12] at h
           exact h.sel
        ·
         show m < m + 1; omega
       ·
        simp only [decide_eq_false_iff_not] at hc51
        obtain rfl : s = 0 := by omega
        refine wpc_exit ?_
        refine ex_then_exit ?_
        refine ex_then_exit ?_
        refine ex_block_hit ?_
        refine ex_mid ⟨(v3, (xs ++ [tg] ++ [of8 ((128 + kB (bs.length + sizL (trs l)) : Nat) : Int)]) ++ numK (kB (bs.length + sizL (trs l))) (bs.length + sizL (trs l))), ⟨by rw [hlb]; simp, by rw [hy2]; omega, by rw [hy2]; exact hi1⟩⟩ ?_ ?_
        ·
         exact zz9
        ·
         exact fun w h => by
           dsimp only
           rw [e0] at h
           rw [hy2]
           exact h.sel
    ·
     rintro ⟨⟨v2, ys⟩, ⟨hi0, hi1, hi2⟩⟩; try dsimp only
     have hi0 : ys = xs ++ (tg :: lenB (bs.length + sizL (trs l))) := hi0; have hi1 : ys.length = xs.length + 1 + wideF (bs.length + sizL (trs l)) := hi1; have hi2 : SV v2 ys.length := hi2
     refine wpc_seq <| wpc_region <| wpl_q (q_pure rfl) rfl <| wpl_q (q_field Tryd.underlying61 rfl Tryd.ti34 rfl rfl _ rfl) rfl <| wpl_q (q_ld Tryd.underlying34 rfl rfl rfl) rfl ?_
     refine wpl_tp (t_apW Tryd.underlying34 Tryd.ti5 rfl zz19 rfl rfl (fun w h => hb.mono (rdo_old h)) (v8s_one _) zz1 zz1 (v8s (ys ++ bs)) (v8s_append _ _).symm) rfl (fun b65 p65 => ?_)
     refine wpl_q (q_pure rfl) rfl <| wpl_nil <| ex_then <| wpc_seq <| wpc_seq <| wpc_region <| wpl_q (q_field Tryd.underlying61 rfl Tryd.ti59 rfl rfl _ rfl) rfl <| wpl_q (q_ld Tryd.underlying59 rfl rfl rfl) rfl ?_
     refine wpl_q (q_lenW Tryd.underlying59 rfl zz3) rfl ?_
     refine wpl_q (q_pure rfl) rfl <| wpl_nil <| ex_then <| wpc_block ?_
     refine wpc_loopc (ι := { x : Nat × Value × List UInt8 // (x.1 ≤ l.length) ∧ (x.2.2 = xs ++ (tg :: (lenB (bs.length + sizL (trs l)) ++ (bs ++ encL (trs (l.take x.1)))))) ∧ (x.2.2.length = xs.length + 1 + wideF (bs.length + sizL (trs l)) + bs.length + sizL (trs (l.take x.1))) ∧ (SV x.2.1 x.2.2.length) }) [(67, _), (68, _)] (fun x Lc => (69, .int .i64 ((x.1.1 : Nat) : Int)) :: (0, x.1.2.1) :: Lc) (fun x => Mem w (nums [.row v xs.length 5 1 (v8s xs)]) [.blk b3 61 [.int .u8 (tg.toNat : Int), bv, lv], .row x.1.2.1 (x.1.2.2.length) 5 1 (v8s (x.1.2.2))] []) (fun x => l.length - x.1.1) ⟨(0, b65, ys ++ bs), ⟨Nat.zero_le _, by rw [hi0]; simp [encL, trs], by rw [List.length_append, hi1]; rfl, by rw [List.length_append]; exact p65⟩⟩ zz9 ?_ ?_
     ·
      exact fun w h => by
        dsimp only
        rw [List.length_append]
        exact h.sel
     ·
      rintro ⟨⟨i, v4, zs⟩, ⟨hi0, hi1, hi2, hi3⟩⟩; try dsimp only
      have hi0 : i ≤ l.length := hi0; have hi1 : zs = xs ++ (tg :: (lenB (bs.length + sizL (trs l)) ++ (bs ++ encL (trs (l.take i))))) := hi1; have hi2 : zs.length = xs.length + 1 + wideF (bs.length + sizL (trs l)) + bs.length + sizL (trs (l.take i)) := hi2; have hi3 : SV v4 zs.length := hi3
      refine wpc_seq <| wpc_region <| wpl_q (q_pure rfl) rfl <| wpl_nil <| ex_then <| wpc_seq ?_
      refine wpc_cond rfl (fun hc70 => ?_) (fun hc70 => ?_)
      ·
       simp only [decide_eq_true_eq] at hc70
       have hil : i < l.length := by omega
       haveI := (ht.kid hil).sv.one
       have hs1 := sizL_take hil
       have hs2 := sizL_kid hil
       refine wpc_skip <| ex_then <| wpc_seq <| wpc_block <| wpc_seq <| wpc_region ?_
       refine wpl_q (q_idxW Tryd.underlying59 Tryd.ti61 rfl rfl zz3 zz1) rfl ?_
       refine wpl_q (q_ldWN Tryd.underlying61 rfl Tryd.ti61 rfl (fun w h => hk.mono (rdo_old h)) (l.getD i HT.z).c (cat_part HT.c_length HT.z hil) (HT.c_length _)) rfl ?_
       refine wpl_t (t_alloc Tryd.ti61 HT.z.c rfl) rfl (fun b11 => ?_)
       refine wpl_t0 (t_stA Tryd.ti61 rfl rfl LenC.h OneC.h LenC.h) (fun _ => ?_)
       refine wpl_nil <| ex_then <| wpc_region <| wpl_q (q_pure rfl) rfl <| wpl_q (q_ldN Tryd.underlying61 rfl Tryd.ti61 rfl LenC.h) rfl ?_
       refine wpl_tp (t_callR (m := zs.length) (m' := zs.length + (l.getD i HT.z).tr.siz) (ys := v8s (zs ++ enc (l.getD i HT.z).tr)) Tryd.hb48 rfl fun w h hr => ih (l.getD i HT.z) (getD_memH hil) v4 zs w hr hi3 ((ht.kid hil).mono (rdo_nums h zz40)) (hsm.kid hil) zz12) rfl (fun b75 p75 => ?_)
       refine wpl_q (q_pure rfl) rfl <| wpl_nil <| ex_block <| ex_then <| wpc_region ?_
       refine wpl_q (q_addN (b := 1) rfl rfl zz1) rfl ?_
       refine wpl_q (q_pure rfl) rfl <| wpl_nil ?_
       refine ex_again ⟨(i + 1, b75, zs ++ enc (l.getD i HT.z).tr), ⟨zz12, by rw [hi1, encL_take hil]; simp, by rw [List.length_append, enc_len _ (hsm.kid hil), hi2]; dsimp only; omega, by rw [List.length_append, enc_len _ (hsm.kid hil)]; exact p75⟩⟩ ?_ ?_ ?_
       ·
        exact zz9
       ·
        exact fun w h => by
          dsimp only
          rw [List.length_append, enc_len _ (hsm.kid hil)]
          exact h.sel
       ·
        (show l.length - (i + 1) < l.length - i); omega
      ·
       simp only [decide_eq_false_iff_not] at hc70
       obtain rfl : i = l.length := by omega
       rw [List.take_length] at hi1 hi2
       refine wpc_exit ?_
       refine ex_then_exit ?_
       refine ex_then_exit ?_
       refine ex_block_hit ?_
       refine ex_then <| wpc_seq <| wpc_region <| wpl_q (q_pure rfl) rfl <| wpl_q (q_pure rfl) rfl <| wpl_nil <| ex_then <| wpc_ret ?_
       refine ret1 (.inl rfl) rfl rfl ?_
       have hz1 : zs = xs ++ enc (HT.nd tg bv bs lv l).tr := hi1
       have hz2 : zs.length = xs.length + (HT.nd tg bv bs lv l).tr.siz := by rw [hi2]; show _ = xs.length + (1 + wideF (bs.length + sizL (trs l)) + (bs.length + sizL (trs l))); omega
       exact fun w1 h => ⟨v4, by rw [← hz2]; exact hi3, rfl, by rw [hz2, hz1] at h; exact h.sub SubC.h .nil⟩
end Go.Proofs.YtgnablliekgbgaaDoor
namespace Go.Proofs.YtgnablliekgbgaaDoor
open Go Go.PL Go.RowKit
theorem put : ∀ (t : HT) (v : Value) (xs : List UInt8) (w : World), (Ent.row v xs.length 5 1 (v8s xs)).at w → SV v xs.length → HSeen (rdO (nums [.row v xs.length 5 1 (v8s xs)]) w) t → Sm t.tr → xs.length + t.tr.siz ≤ 3000000 → Calls Tryd.prog 48 [v, .agg t.c.toArray].toArray w (GivesR w (.row v xs.length 5 1 (v8s xs)) (xs.length + t.tr.siz) 5 1 (v8s (xs ++ enc t.tr))) := by
  intro t
  induction t using HT.ind with
  | _ tg bv bs lv l ih => intro v xs w h1 h2 h3 h4 h5; exact put_step v xs _ w h1 h2 h3 h4 h5 (fun x hx v xs w a b c d e => ih x hx v xs w a b c d e)
theorem putNil (t : HT) (w : World) (hr : (Ent.row (.slice none 0 0) 0 5 1 []).at w) (ht : HSeen w.cell? t) (hsm : Sm t.tr) : Calls Tryd.prog 48 [.slice none 0 0, .agg t.c.toArray].toArray w (GivesR w (.row (.slice none 0 0) 0 5 1 []) (enc t.tr).length 5 1 (v8s (enc t.tr))) := by
  have h1 := siz_le t.tr hsm
  have h2 : t.tr.byt + 5 * t.tr.cnt ≤ 1000000 := hsm
  have q := put t nl [] w hr SV.nil (ht.mono fun a v hv => by
    show (if a.block ∈ ([] : List Nat) then none else w.cell? a) = some v
    rw [if_neg zz40]; exact hv) hsm (by show 0 + _ ≤ _; omega)
  rw [List.nil_append, show ([] : List UInt8).length + t.tr.siz = (enc t.tr).length by rw [enc_len t.tr hsm]; exact Nat.zero_add _] at q
  exact q
theorem octEncode (t : HT) (w : World) (ht : HSeen w.cell? t) (hsm : Sm t.tr) (hdp : t.tr.dep ≤ 900000) :
    Calls Tryd.prog 26 [.agg t.c.toArray].toArray w (GivesP w (fun v : Value => SV v (encF t.tr).1.length) (fun v => .tuple #[v, .int .i64 (encF t.tr).2]) (fun v => [.row v (encF t.tr).1.length 5 1 (v8s (encF t.tr).1)]) (fun _ => [])) := by
  haveI := ht.sv.one
  refine enter (m := 12) (R := Mem w [] [] []) Tryd.func26 rfl rfl (Nat.le_of_ble_eq_true rfl) (Mem.start w) ?_
  refine wpc_seq <| wpc_region ?_
  refine wpl_t (t_box rfl t.c rfl) rfl (fun b1 => ?_)
  refine wpl_q (q_pure rfl) rfl <| wpl_q (q_pure rfl) rfl <| wpl_nil <| ex_then <| wpc_seq <| wpc_seq <| wpc_region <| wpl_q (q_ldN Tryd.underlying61 rfl Tryd.ti61 rfl LenC.h) rfl ?_
  refine wpl_t (t_pur Tryd.hb47 rfl fun w h => check t w (ht.old h) hsm zz12) rfl (fun b6 => ?_)
  refine wpl_q (q_pure rfl) rfl <| wpl_nil <| ex_then <| wpc_seq <| wpc_region <| wpl_q (q_pure rfl) rfl <| wpl_q (q_pure rfl) rfl <| wpl_nil <| ex_then ?_
  refine wpc_cond rfl (fun hc8 => ?_) (fun hc8 => ?_)
  ·
   have hN : ¬ checkF t.tr = 0 := by simpa using hc8
   refine wpc_seq <| wpc_region <| wpl_q (q_pure rfl) rfl <| wpl_q (q_pure rfl) rfl <| wpl_q (q_pure rfl) rfl <| wpl_nil <| ex_then <| wpc_ret ?_
   refine ex_then_ret ?_
   refine ret2 (.inl rfl) rfl rfl rfl ?_
   exact fun w1 h => ⟨nl, by rw [encF, if_neg hN]; exact SV.nil, by rw [encF, if_neg hN], h.below, by rw [encF, if_neg hN]; exact (show Mem w [] [.row nl 0 5 1 []] [] w1 from (h.nilRow 5 1).sel).made (Sub.refl _) .nil⟩
  ·
   have hZ : checkF t.tr = 0 := by simpa using hc8
   refine wpc_skip <| ex_then <| wpc_seq <| wpc_region <| wpl_q (q_ldN Tryd.underlying61 rfl Tryd.ti61 rfl LenC.h) rfl ?_
   refine wpl_tp (t_callR0 (m' := (enc t.tr).length) (ys := v8s (enc t.tr)) 5 1 Tryd.hb48 rfl fun w h hr => putNil t w hr (ht.old h) hsm) rfl (fun b11 p11 => ?_)
   refine wpl_q (q_pure rfl) rfl <| wpl_q (q_pure rfl) rfl <| wpl_nil <| ex_then <| wpc_ret ?_
   refine ret2 (.inl rfl) rfl rfl rfl ?_
   exact fun w1 h => ⟨b11, by rw [encF, if_pos hZ]; exact p11, by rw [encF, if_pos hZ], h.below, by rw [encF, if_pos hZ]; exact h.made SubC.h .nil⟩
end Go.Proofs.YtgnablliekgbgaaDoor
namespace Go.Proofs.YtgnablliekgbgaaDoor
open Go Go.PL Go.RowKit
section
variable {P : Program} {R : World → Prop} {L : Slots}
end
def headF (xs : List UInt8) : UInt8 × Nat × Nat × Bool :=
  if xs.length < 2 ∨ xs.getD 0 0 = 0 then (0, 0, 0, false)
  else if (xs.getD 1 0).toNat < 128 then (xs.getD 0 0, 2, (xs.getD 1 0).toNat, true)
  else if (xs.getD 1 0).toNat - 128 < 1 ∨ 3 < (xs.getD 1 0).toNat - 128 ∨ xs.length < 2 + ((xs.getD 1 0).toNat - 128) then (0, 0, 0, false)
  else if wideF (numOf ((xs.drop 2).take ((xs.getD 1 0).toNat - 128))) ≠ 1 + ((xs.getD 1 0).toNat - 128) then (0, 0, 0, false)
  else (xs.getD 0 0, 2 + ((xs.getD 1 0).toNat - 128), numOf ((xs.drop 2).take ((xs.getD 1 0).toNat - 128)), true)
theorem getD_dropU (xs : List UInt8) (n j : Nat) : (xs.drop n).getD j 0 = xs.getD (n + j) 0 := by
  rw [List.getD_eq_getElem?_getD, List.getD_eq_getElem?_getD, List.getElem?_drop]
theorem numOf_24 {xs : List UInt8} {i : Nat} (h : i ≤ xs.length) (h3 : i ≤ 3) : numOf (xs.take i) < 16777216 := by
  have h1 := numOf_lt (bs := xs) (i := i) h
  have h2 : 256 ^ i ≤ 256 ^ 3 := Nat.pow_le_pow_right zz19 h3
  have h4 : (256 : Nat) ^ 3 = 16777216 := by decide
  omega
end Go.Proofs.YtgnablliekgbgaaDoor
namespace Go.Proofs.YtgnablliekgbgaaDoor
open Go Go.PL Go.RowKit
def serT (s : UInt64) : Tr := .nd 5 (numB s.toNat) []
def sersT (ss : List UInt64) : List Tr := ss.map serT
def bodyT (l : Rv) : Tr := .nd 134 [] [.nd 1 l.nm [], .nd 2 (numB l.no.toNat) [], .nd 3 (numB (of64 l.fr).toNat) [], .nd 4 (numB (of64 l.tt).toNat) [], .nd 129 [] (sersT l.ss)]
theorem sersT_len (ss : List UInt64) : (sersT ss).length = ss.length := List.length_map ..
theorem numK_le : ∀ (k n : Nat), (numK k n).length = k
  | 0, _ => rfl
  | k + 1, n => by rw [numK, List.length_append, numK_le k]; rfl
theorem numB_le (n : Nat) (h : n < 2 ^ 64) : (numB n).length ≤ 8 := by
  rw [numB, numK_le, kB]
  have : lenF n ≤ 64 := by
    unfold lenF
    split
    · decide
    · rename_i h0
      have := (Nat.log2_lt h0).2 h
      omega
  omega
end Go.Proofs.YtgnablliekgbgaaDoor
namespace Go.Proofs.YtgnablliekgbgaaDoor
open Go Go.PL Go.RowKit
theorem bytL_ser : ∀ (ss : List UInt64), bytL (sersT ss) ≤ 8 * ss.length
  | [] => Nat.le_refl _
  | s :: ss => by
    have h1 := bytL_ser ss
    have h2 := numB_le s.toNat s.toNat_lt
    show (numB s.toNat).length + 0 + bytL (sersT ss) ≤ 8 * (ss.length + 1)
    omega
theorem cntL_ser : ∀ (ss : List UInt64), cntL (sersT ss) = ss.length
  | [] => rfl
  | s :: ss => by
    have h1 := cntL_ser ss
    show 1 + 0 + cntL (sersT ss) = ss.length + 1
    omega
theorem sm_list {ss : List UInt64} (h : ss.length ≤ 520) : Sm (.nd 129 [] (sersT ss)) := by
  have h1 := bytL_ser ss
  have h2 := cntL_ser ss
  show 0 + bytL (sersT ss) + 5 * (1 + cntL (sersT ss)) ≤ 1000000
  omega
theorem sm_body {l : Rv} (h : l.ss.length ≤ 520) (h2 : l.nm.length ≤ 500) : Sm (bodyT l) := by
  have h3 := bytL_ser l.ss
  have h4 := cntL_ser l.ss
  have h5 := numB_le l.no.toNat l.no.toNat_lt
  have h6 := numB_le (of64 l.fr).toNat (of64 l.fr).toNat_lt
  have h7 := numB_le (of64 l.tt).toNat (of64 l.tt).toNat_lt
  show 0 + (l.nm.length + 0 + ((numB l.no.toNat).length + 0 + ((numB (of64 l.fr).toNat).length + 0 + ((numB (of64 l.tt).toNat).length + 0 + (0 + bytL (sersT l.ss) + 0))))) + 5 * (1 + (1 + 0 + (1 + 0 + (1 + 0 + (1 + 0 + (1 + cntL (sersT l.ss) + 0)))))) ≤ 1000000
  omega
end Go.Proofs.YtgnablliekgbgaaDoor
namespace Go.Proofs.YtgnablliekgbgaaDoor
open Go Go.PL Go.RowKit
abbrev HSv := { y : HT // y.sv }
def encS (_ : UInt64) (y : HSv) : Array Value := #[.agg y.1.c.toArray]
def AtS (T : List Nat) (x : UInt64) (y : HSv) (w : World) : Prop := y.1.tr = serT x ∧ GainOk T y.1.ents w
def InvS (pp : Nat) (sv : Value) (ss : List UInt64) (w : World) : Prop := CellsAt w.cell? ⟨pp, 0, none⟩ [sv] ∧ Seen w.cell? sv ss.length 1 (v64s ss)
theorem Mem.gainOk {w0 w : World} {Ln : List Nat} {M N : List Ent} {S : List Fact} (h : Mem w0 Ln M S w) (hs : Sub N M) : GainOk (nums M) N w := by
  have h2 := h.sub hs .nil
  exact ⟨fun e he => ⟨h2.own e he, fun k hk => mem_nums.2 ⟨e, hs.mem _ he, hk⟩⟩, h2.apart⟩
theorem GainOk.keep {T : List Nat} {G : List Ent} {w w' : World} (h : GainOk T G w) (hk : ∀ j, j ∈ T → w'.heap[j]? = w.heap[j]?) : GainOk T G w' := ⟨fun e he => ⟨Ent.kept (h.1 e he).1 fun k hn => hk k ((h.1 e he).2 k hn), (h.1 e he).2⟩, h.2⟩
theorem take_S64 {ss : List UInt64} {i : Nat} (h : i < ss.length) : ss.take i ++ [ss.getD i 0] = ss.take (i + 1) := by rw [List.take_add_one, List.getElem?_eq_getElem h, getD64 h]; rfl
theorem take_P64 {ss : List UInt64} {i : Nat} (h : i < ss.length) : (ss.take i ++ [ss.getD i 0]) <+: ss := by rw [take_S64 h]; exact List.take_prefix _ _
theorem serials1 (yl : Nat) (pp : Nat) (sv : Value) (ss : List UInt64) (J : List Nat → List UInt64 → World → Prop) (K : World → Prop) (w : World)  (hst : StabJ J) (hinv : ∀ T pre w1, J T pre w1 → InvS pp sv ss w1) (hsk : StabK K) (hy : YieldH Tryd.prog yl encS AtS ss J K) (hJ0 : J [] [] w) :
    Calls Tryd.prog 79 [.func (.yield yl) #[] #[], .pointer (some ⟨pp, 0, none⟩)].toArray w (IterPost J K ss) := by
  have ssv := (hinv _ _ _ hJ0).2.sv
  have lss := ssv.le
  simp only [maxLen] at lss
  refine enter (m := 17) (R := Mem w [] [] []) Tryd.func79 rfl rfl (Nat.le_of_ble_eq_true rfl) (Mem.start w) ?_
  refine wpc_seq <| wpc_region ?_
  refine wpl_q (q_load1 Tryd.underlying22 rfl rfl (fun w h => (h.at_old (hinv _ _ _ hJ0).1 0 sv rfl : w.cell? (Addr.add ⟨pp, 0, none⟩ 0) = some sv))) rfl ?_
  refine wpl_q (q_lenW Tryd.underlying22 rfl zz3) rfl ?_
  refine wpl_q (q_pure rfl) rfl <| wpl_nil <| ex_then <| wpc_block ?_
  refine wpc_loopc (ι := { x : Nat × World × List Nat // (x.1 ≤ ss.length) ∧ (J x.2.2 (ss.take x.1) x.2.1) }) [(0, _), (5, _), (6, _)] (fun x Lc => (7, .int .i64 ((x.1.1 : Nat) : Int)) :: Lc) (fun x => Mem x.1.2.1 x.1.2.2 [] []) (fun x => ss.length - x.1.1) ⟨(0, w, []), ⟨Nat.zero_le _, hJ0⟩⟩ zz9 ?_ ?_
  ·
   exact fun w h => h
  ·
   rintro ⟨⟨i, wb, T⟩, ⟨hi0, hi1⟩⟩; try dsimp only
   have hi0 : i ≤ ss.length := hi0; have hi1 : J T (ss.take i) wb := hi1
   have hsee : ∀ {M : List Ent} {S : List Fact} {w : World}, Mem wb T M S w → InvS pp sv ss w := fun h => hinv _ _ _ (hst _ _ _ _ _ hi1 (h.sub .nil .nil) (nums_lt h))
   refine wpc_seq <| wpc_region <| wpl_q (q_pure rfl) rfl <| wpl_nil <| ex_then <| wpc_seq ?_
   refine wpc_cond rfl (fun hc8 => ?_) (fun hc8 => ?_)
   ·
    simp only [decide_eq_true_eq] at hc8
    have hil : i < ss.length := by omega
    refine wpc_skip <| ex_then <| wpc_seq <| wpc_block <| wpc_seq <| wpc_region ?_
    refine wpl_q (q_idxW1 Tryd.underlying22 Tryd.ti23 rfl rfl zz3 zz1) rfl ?_
    refine wpl_q (q_ldW Tryd.underlying23 rfl rfl (fun w h => (hsee h).2) (by first | exact v64s_get zz6 | rfl)) rfl ?_
    refine wpl_q (q_pure rfl) rfl <| wpl_nil <| ex_then <| wpc_seq ?_
    refine wpc_region_y ?_
    refine wil_q (q_pure rfl) rfl ?_
    refine wil_q (q_pure rfl) rfl ?_
    refine wil_tp (t_callP (T := fun _ => []) (N := fun y : HT => y.ents) Tryd.hb24 rfl fun w h => octNum 5 (ss.getD i 0) w) rfl (fun b13 p13 => ?_)
    refine wil_yieldH (ss.getD i 0) (⟨b13, p13.2⟩) rfl rfl hst hy hi1 (take_P64 hil) rfl (fun w h => ⟨p13.1, Mem.gainOk h (sub_left _ _)⟩) rfl ?_ ?_
    ·
     intro u14 hu14
     refine wil_q (q_pure rfl) rfl ?_
     refine wil_nil ?_
     refine ex_then ?_
     refine wpc_cond_f rfl ?_
     refine wpc_skip <| ex_block <| ex_then <| wpc_region ?_
     refine wpl_q (q_addN (b := 1) rfl rfl zz1) rfl ?_
     refine wpl_q (q_pure rfl) rfl <| wpl_nil ?_
     refine ex_again ⟨(i + 1, u14, []), ⟨by show i + 1 ≤ ss.length; omega, by show J [] (ss.take (i + 1)) u14; rw [← take_S64 hil]; exact hu14⟩⟩ ?_ ?_ ?_
     ·
      exact zz9
     ·
      exact fun w h => h
     ·
      (show ss.length - (i + 1) < ss.length - i); omega
    ·
     intro u14 hu14
     refine wil_q (q_pure rfl) rfl ?_
     refine wil_nil ?_
     refine ex_then ?_
     refine wpc_cond_t rfl ?_
     refine wpc_ret ?_
     refine ex_block_ret ?_
     refine ex_then_ret ?_
     refine ex_then_ret ?_
     refine ex_block_ret ?_
     refine ret0 (.inl rfl) rfl ?_
     exact fun w h => iter_stop hsk hu14 h
   ·
    simp only [decide_eq_false_iff_not] at hc8
    obtain rfl : i = ss.length := by omega
    rw [List.take_length] at hi1
    refine wpc_exit ?_
    refine ex_then_exit ?_
    refine ex_then_exit ?_
    refine ex_block_hit ?_
    refine ret0 (.inr rfl) rfl ?_
    exact fun w h => iter_done hst hi1 h
theorem serials_it (sv : Value) (ss : List UInt64) (pp : Nat) (w : World) : IterHand Tryd.prog 79 #[.pointer (some ⟨pp, 0, none⟩)] encS AtS (InvS pp sv ss) ss [] w :=
  fun yl J K hst hinv hsk hy hJ0 => serials1 yl pp sv ss J K w hst hinv hsk hy hJ0
theorem serials (sv : Value) (n : Nat) (w : World) (hsv : SV sv n)  :
    Calls Tryd.prog 51 [sv].toArray w (GivesP w (fun _ : Nat => True) (fun pp : Nat => .func (.func 79) #[] #[.pointer (some ⟨pp, 0, none⟩)]) (fun pp => [.blk pp 22 [sv]]) (fun _ => [])) := by
  obtain ⟨a, cap, rfl, hz⟩ := hsv
  refine enter (m := 4) (R := Mem w [] [] []) Tryd.func51 rfl rfl (Nat.le_of_ble_eq_true rfl) (Mem.start w) ?_
  refine wpc_seq <| wpc_region ?_
  refine wpl_t (t_box rfl [.slice a n cap] rfl) rfl (fun b1 => ?_)
  refine wpl_q (q_pure rfl) rfl <| wpl_nil <| ex_then <| wpc_seq <| wpc_region ?_
  refine wpl_q (q_fn (us := []) (vs := [.pointer (some ⟨b1, 0, none⟩)]) rfl rfl) rfl ?_
  refine wpl_q (q_pure rfl) rfl <| wpl_nil <| ex_then <| wpc_ret ?_
  refine ret1 (.inl rfl) rfl rfl ?_
  exact fun w h => ⟨b1, trivial, rfl, h.below, h.made SubC.h .nil⟩
end Go.Proofs.YtgnablliekgbgaaDoor
namespace Go.Proofs.YtgnablliekgbgaaDoor
open Go Go.PL Go.RowKit
def rowsL (v : Value) (ns : List HT) : List Ent := .row v ns.length 61 3 (hcs ns) :: entsL ns
theorem rowsL_rows {v : Value} {ns : List HT} : ∀ e ∈ rowsL v ns, isRow e := by
  intro e he
  rcases List.mem_cons.1 he with rfl | he
  · trivial
  · obtain ⟨x, hx, hex⟩ : ∃ x ∈ ns, e ∈ x.ents := by
      have : ∀ m : List HT, e ∈ entsL m → ∃ x ∈ m, e ∈ x.ents := by
        intro m
        induction m with
        | nil => intro h; cases h
        | cons y m ih =>
          intro h
          rw [entsL, List.mem_append] at h
          rcases h with h | h
          · exact ⟨y, List.mem_cons_self .., h⟩
          · obtain ⟨x, hx, hh⟩ := ih h
            exact ⟨x, List.mem_cons_of_mem _ hx, hh⟩
      exact this ns he
    exact ents_rows x e hex
theorem rowsL_sub {e : Ent} {v : Value} {ns : List HT} : Sub (rowsL v ns) (e :: .row v ns.length 61 3 (hcs ns) :: entsL ns) := by unfold rowsL; exact .drop (Sub.refl _)
theorem hcs_len (ns : List HT) : (hcs ns).length = ns.length * 3 := cat_len HT.c_length ns
theorem put_last (ns : List HT) (z y : HT) : (hcs (ns ++ [z])).take (ns.length * 3) ++ y.c ++ (hcs (ns ++ [z])).drop (ns.length * 3 + y.c.length) = hcs (ns ++ [y]) := by
  have h := cat_put HT.c_length (l := ns ++ [z]) (i := ns.length) y (by rw [snoc_len]; omega)
  rw [show (ns ++ [z]).set ns.length y = ns ++ [y] by rw [List.set_append]; simp] at h
  exact h
theorem put_in (ns : List HT) (z y : HT) : ns.length * 3 + y.c.length ≤ (hcs (ns ++ [z])).length := by rw [hcs_len, snoc_len, HT.c_length]; omega
theorem put_pos (ns : List HT) (z : HT) : 0 < (hcs (ns ++ [z])).length := by rw [hcs_len, snoc_len]; omega
theorem appendSeq (pp : Nat) (sv : Value) (ss : List UInt64) (w : World)  (hss : ss.length ≤ 520) (hI : InvS pp sv ss w) :
    Calls Tryd.prog 78 [.slice none 0 0, .func (.func 79) #[] #[.pointer (some ⟨pp, 0, none⟩)]].toArray w (GivesP w (fun s : Value × List HT => trs s.2 = sersT ss ∧ SV s.1 s.2.length) (fun s => s.1) (fun s => rowsL s.1 s.2) (fun _ => [])) := by
  refine enterN (m := 15) (R := Mem w [] [] []) Tryd.func78 rfl rfl (Nat.le_of_ble_eq_true rfl) (Mem.start w) ?_
  refine wpc_seq <| wpc_region ?_
  refine wpl_t (t_box rfl [.slice none 0 0] rfl) rfl (fun b2 => ?_)
  refine wpl_q (q_pure rfl) rfl <| wpl_nil <| ex_then <| wpc_seq <| wpc_seq <| wpc_region <| wpl_q (q_pure rfl) rfl <| wpl_nil <| ex_then <| wpc_block ?_
  refine wpc_mono (R' := Mem w [] ([] ++ (.blk b2 59 [nl] :: .row nl ([] : List HT).length 61 3 (hcs ([] : List HT)) :: entsL ([] : List HT))) []) (fun w1 h => (h.nilRow 61 3).sel (M' := [.blk b2 59 [.slice none 0 0], .row (.slice none 0 0) 0 61 3 []])) ?_
  refine wpc_rangeH (encs := encS) (At := AtS) (Inv := (InvS pp sv ss)) (xs := ss) (ρ := Unit) (β := Nat) [] (fun s : Value × List HT => .blk b2 59 [s.1] :: .row s.1 s.2.length 61 3 (hcs s.2) :: entsL s.2) (fun pre s => trs s.2 = sersT pre ∧ SV s.1 s.2.length) (.slice none 0 0, []) (fun _ => False) (fun _ => .ret) (fun _ => []) (fun _ => []) (fun x i b => [.blk b 61 i.1.c]) (fun x i b => [(2, .pointer (some ⟨b2, 0, none⟩)), (5, .pointer (some ⟨b, 0, none⟩))]) rfl Tryd.hb79 ⟨rfl, SV.nil⟩ (fun w h k hk => by cases hk) (fun w h => serials_it sv ss pp w) (fun _ _ _ _ h => ⟨h.at_old hI.1, h.seen_old hI.2⟩) (fun _ _ _ _ _ h hk => ⟨h.1, GainOk.keep h.2 hk⟩) (fun _ _ => rfl) zz19 ?_ ?_ ?_ ?_
  ·
   intro l x i w1 K hK
   haveI := i.2.one
   refine wic_region ?_
   refine wil_t (t_alloc Tryd.ti61 [.int .u8 0, nl, nl] rfl) rfl (fun b5 => ?_)
   refine wil_t0 (t_stA Tryd.ti61 rfl rfl LenC.h OneC.h LenC.h) (fun _ => ?_)
   refine wil_nil ?_
   exact fun a w hs h => hK b5 a w (hs.weaken (subs_get zz9)) h
  ·
   intro l pre x i s b w1 T hgs hpre hm hat hT
   obtain ⟨v, ns⟩ := s
   obtain ⟨hg1, hg2⟩ := hgs
   have hg1 : trs ns = sersT pre := hg1
   have hg2 : SV v ns.length := hg2
   obtain ⟨i, hi2⟩ := i
   obtain ⟨hi1, hat⟩ := hat
   have hi1 : i.tr = serT x := hi1
   have hat : GainOk T i.ents w1 := hat
   haveI := hi2.one
   have lns := hg2.le
   simp only [maxLen] at lns
   have hnl : ns.length ≤ 520 := by
     have h1 : (trs ns).length = pre.length := by rw [hg1, sersT_len]
     rw [trs_length] at h1
     have h2 := hpre.length_le
     rw [List.length_append, List.length_singleton] at h2
     omega
   have l1 : (ns ++ [HT.z]).length = ns.length + 1 := snoc_len _ _
   show WPCI _ _ _ _ (Mem w1 (nums (.blk b 61 i.c :: .blk b2 59 [v] :: .row v ns.length 61 3 (hcs ns) :: entsL ns)) (.blk b 61 i.c :: .blk b2 59 [v] :: .row v ns.length 61 3 (hcs ns) :: entsL ns) []) _ _
   refine wic_block ?_
   refine wic_draw 4 zz7 (fun _ h => h.drew) ?_
   refine wid_q 0 rfl zz7 trivial (q_ld Tryd.underlying59 rfl rfl rfl) rfl (fun _ h => h) ?_
   refine wid_q 1 rfl zz7 trivial (q_ldN Tryd.underlying61 rfl Tryd.ti61 rfl LenC.h) rfl (fun _ h => h) ?_
   refine wid_p 2 rfl zz7 trivial (q_lenW Tryd.underlying59 rfl zz3) rfl sk0 ?_
   refine wid_tp 3 rfl zz7 trivial (t_bsG [.agg HT.z.c.toArray] HT.z.c Tryd.underlying59 Tryd.ti61 rfl zz19 rfl zz19 zz19 rfl (by intro v hv; rw [List.mem_singleton] at hv; subst hv; rfl) (List.append_nil _)) rfl (fun _ => (fun w h => .inr (h.sub SubC.h SubC.h))) (fun b11 p11 => ?_)
   refine wid_tp 4 rfl zz7 trivial (t_apW Tryd.underlying59 Tryd.ti61 rfl zz19 rfl rfl (fun w h => zz15) OneC.h zz1 zz1 (hcs (ns ++ [HT.z])) (cat_snoc HT.c ns HT.z)) rfl (fun _ => skk rfl) (fun b12 p12 => ?_)
   refine wid_p 5 rfl zz7 trivial (q_idxW Tryd.underlying59 Tryd.ti61 rfl rfl zz3 zz1) rfl (skk rfl) ?_
   refine wid_two 6 7 zz7 ?_ ?_
   ·
    refine wia_t0 6 rfl trivial (t_stWN Tryd.ti61 rfl rfl rfl (by exact HT.c_length i) (by exact OneC.h (cs := i.c)) (put_in _ _ _) (put_pos _ _) (hcs (ns ++ [i])) (by exact put_last _ _ _)) (fun _ => skk rfl) (fun _ => ?_)
    refine wid_t0 7 rfl zz7 trivial (t_st1 Tryd.ti59 rfl rfl (SV.one zz3) zz6 [b12] rfl) (fun _ => skk rfl) (fun _ => ?_)
    refine wid_done zz7 ?_
    refine ex_block ?_
    refine ex_roundN ?_
    exact fun w h => ⟨(b12, ns ++ [i]), (.blk b2 59 [b12] :: .row b12 (ns ++ [i]).length 61 3 (hcs (ns ++ [i])) :: entsL ns), i.ents, ⟨by show trs (ns ++ [i]) = _; rw [trs_append, hg1]; show _ ++ [i.tr] = _; rw [hi1]; simp [sersT], by show SV b12 (ns ++ [i]).length; rw [snoc_len]; exact p12⟩, by rw [snoc_len]; exact h.sub SubC.h .nil, hat, .cons _ (.cons _ (List.perm_append_comm.trans (entsL_snoc ns i)))⟩
   ·
    refine wia_t0 7 rfl trivial (t_st1 Tryd.ti59 rfl rfl (SV.one zz3) zz6 [b12] rfl) (fun _ => skk rfl) (fun _ => ?_)
    refine wid_t0 6 rfl zz7 trivial (t_stWN Tryd.ti61 rfl rfl rfl (by exact HT.c_length i) (by exact OneC.h (cs := i.c)) (put_in _ _ _) (put_pos _ _) (hcs (ns ++ [i])) (by exact put_last _ _ _)) (fun _ => skk rfl) (fun _ => ?_)
    refine wid_done zz7 ?_
    refine ex_block ?_
    refine ex_roundN ?_
    exact fun w h => ⟨(b12, ns ++ [i]), (.blk b2 59 [b12] :: .row b12 (ns ++ [i]).length 61 3 (hcs (ns ++ [i])) :: entsL ns), i.ents, ⟨by show trs (ns ++ [i]) = _; rw [trs_append, hg1]; show _ ++ [i.tr] = _; rw [hi1]; simp [sersT], by show SV b12 (ns ++ [i]).length; rw [snoc_len]; exact p12⟩, by rw [snoc_len]; exact h.sub SubC.h .nil, hat, .cons _ (.cons _ (List.perm_append_comm.trans (entsL_snoc ns i)))⟩
  ·
   intro D s hgs
   obtain ⟨v, ns⟩ := s
   obtain ⟨hg1, hg2⟩ := hgs
   have hg1 : trs ns = sersT ss := hg1
   have hg2 : SV v ns.length := hg2
   refine ex_weaken (R1 := Mem w [] (.obj D (.deferred (some [])) :: .blk b2 59 [v] :: .row v ns.length 61 3 (hcs ns) :: entsL ns) []) (L1 := [(2, .pointer (some ⟨b2, 0, none⟩))]) zz9 (fun w h => h) ?_
   refine ex_block <| ex_then <| wpc_seq <| wpc_region <| wpl_q (q_ld Tryd.underlying59 rfl rfl rfl) rfl <| wpl_q (q_pure rfl) rfl <| wpl_nil <| ex_then <| wpc_ret ?_
   refine ex_markN (.inl rfl) .here ?_
   refine ret1 (.inl rfl) rfl rfl ?_
   exact fun w1 h => ⟨(v, ns), ⟨hg1, hg2⟩, rfl, h.below, (h.sub (M' := rowsL v ns) (.drop rowsL_sub) .nil).made (Sub.refl _) .nil⟩
  ·
   intro D r hr; exact hr.elim
end Go.Proofs.YtgnablliekgbgaaDoor
namespace Go.Proofs.YtgnablliekgbgaaDoor
open Go Go.PL Go.RowKit
def seqF (v : Value) (ns : List HT) : Fact := ⟨fun r => Seen r v ns.length 3 (hcs ns) ∧ HSeenL r ns, fun _ _ hr h => ⟨h.1.mono hr, HSeenL_iff.2 fun x hx => (HSeenL_iff.1 h.2 x hx).mono hr⟩⟩
theorem seqF_at {w0 w : World} {Ln : List Nat} {M : List Ent} {S : List Fact} (h : Mem w0 Ln M S w) {v : Value} {ns : List HT} (hs : seqF v ns ∈ S) : Seen w.cell? v ns.length 3 (hcs ns) ∧ HSeenL w.cell? ns := h.fact hs
theorem new_freezeL {B : World} {w : World} {v : Value} {ns : List HT} (h : Mem B [] (rowsL v ns) [] w) : New B.heap.size [] [seqF v ns] w := by
  have h1 : Mem B [] [] ((rowsL v ns).map rowFact ++ []) w := Mem.freezeRows (rowsL v ns) rowsL_rows (by rw [List.append_nil]; exact h)
  refine (h1.imp (T := [seqF v ns]) fun r hs f hf => ?_).made .nil (Sub.refl _)
  rw [List.mem_singleton] at hf
  subst hf
  refine ⟨hs _ (List.mem_append_left _ (List.mem_cons_self ..)), HSeenL_iff.2 fun x hx => hseen_rows x fun e he => hs _ (List.mem_append_left _ (List.mem_map_of_mem (List.mem_cons_of_mem _ (mem_entsL hx he))))⟩
theorem frzL {P : Program} {k : FuncId} {vs : Array Value} {w : World} {p : Value × List HT → Prop} (h : Calls P k vs w (GivesP w p (fun s => s.1) (fun s => rowsL s.1 s.2) (fun _ => []))) : Calls P k vs w (GivesP w p (fun s => s.1) (fun _ => []) (fun s => [seqF s.1 s.2])) := by
  refine h.mono ?_
  rintro e w' ⟨y, hp, rfl, hb, hn⟩
  have hm := (Mem.start w).call hb hn
  rw [List.append_nil, List.append_nil] at hm
  exact ⟨y, hp, rfl, hb, new_freezeL hm⟩
theorem collect (pp : Nat) (sv : Value) (ss : List UInt64) (w : World)  (hss : ss.length ≤ 520) (hI : InvS pp sv ss w) :
    Calls Tryd.prog 50 [.func (.func 79) #[] #[.pointer (some ⟨pp, 0, none⟩)]].toArray w (GivesP w (fun s : Value × List HT => trs s.2 = sersT ss ∧ SV s.1 s.2.length) (fun s => s.1) (fun _ => []) (fun s => [seqF s.1 s.2])) := by
  refine enter (m := 5) (R := Mem w [] [] []) Tryd.func50 rfl rfl (Nat.le_of_ble_eq_true rfl) (Mem.start w) ?_
  refine wpc_seq <| wpc_region <| wpl_q (q_pure rfl) rfl <| wpl_nil <| ex_then <| wpc_seq <| wpc_region <| wpl_q (q_pure rfl) rfl ?_
  refine wpl_tp (t_callPT Tryd.hb78 rfl fun w h => frzL (appendSeq pp sv ss w hss ⟨h.at_old hI.1, h.seen_old hI.2⟩)) rfl (fun b4 p4 => ?_)
  refine wpl_q (q_pure rfl) rfl <| wpl_nil <| ex_then <| wpc_ret ?_
  refine ret1 (.inl rfl) rfl rfl ?_
  exact fun w1 h => ⟨b4, p4, rfl, h.below, h.made .nil SubC.h⟩
theorem rvBody (l : Rv) (w : World) (hl : l.seen w.cell?) (hnl : l.nm.length ≤ maxLen) (hss : l.ss.length ≤ 520) (hnm : l.nm.length ≤ 500) :
    Calls Tryd.prog 27 [.agg l.c.toArray].toArray w (GivesP w (fun y : HT => y.tr = bodyT l ∧ y.sv) (fun y => .agg y.c.toArray) (fun _ => []) (fun y => [Go.Proofs.YtgnablliekgbgaaDoor.hseen y])) := by
  haveI := hl.svs.one
  have lss := hl.s.sv.le
  have lcs := hl.c.sv.le
  have lps := hl.p.sv.le
  have sss := hl.s.sv
  have scs := hl.c.sv
  have sps := hl.p.sv
  simp only [maxLen] at lss lcs lps
  refine enter (m := 26) (R := Mem w [] [] []) Tryd.func27 rfl rfl (Nat.le_of_ble_eq_true rfl) (Mem.start w) ?_
  refine wpc_seq <| wpc_region ?_
  refine wpl_t (t_box rfl l.c rfl) rfl (fun b1 => ?_)
  refine wpl_t (t_alloc Tryd.ti61 [.int .u8 0, nl, nl] rfl) rfl (fun b2 => ?_)
  refine wpl_nil <| ex_then <| wpc_seq ?_
  refine wpc_draw 23 zz7 (fun _ h => h.drew) ?_
  refine wpd_p 0 rfl zz7 trivial (q_field Tryd.underlying32 rfl Tryd.ti9 rfl rfl _ rfl) rfl sk0 ?_
  refine wpd_q 1 rfl zz7 trivial (q_ld Tryd.underlying9 rfl rfl (show l.c[0]? = some (str l.nm) from rfl)) rfl (fun _ h => h) ?_
  refine wpd_p 3 rfl zz7 trivial (q_field Tryd.underlying32 rfl Tryd.ti23 rfl rfl _ rfl) rfl sk0 ?_
  refine wpd_q 4 rfl zz7 trivial (q_ld Tryd.underlying23 rfl rfl (show l.c[1]? = some (.int .u64 (l.no.toNat : Int)) from rfl)) rfl (fun _ h => h) ?_
  refine wpd_p 6 rfl zz7 trivial (q_field Tryd.underlying32 rfl Tryd.ti27 rfl rfl _ rfl) rfl sk0 ?_
  refine wpd_p 7 rfl zz7 trivial (q_field Tryd.underlying27 rfl Tryd.ti2 rfl rfl _ rfl) rfl sk0 ?_
  refine wpd_q 8 rfl zz7 trivial (q_ld Tryd.underlying2 rfl rfl (show l.c[2]? = some (.int .i64 l.fr) from rfl)) rfl (fun _ h => h) ?_
  refine wpd_p 9 rfl zz7 trivial (q64_conv Tryd.underlying2 Tryd.underlying23 rfl) rfl sk0 ?_
  refine wpd_p 11 rfl zz7 trivial (q_field Tryd.underlying32 rfl Tryd.ti27 rfl rfl _ rfl) rfl sk0 ?_
  refine wpd_p 12 rfl zz7 trivial (q_field Tryd.underlying27 rfl Tryd.ti2 rfl rfl _ rfl) rfl sk0 ?_
  refine wpd_q 13 rfl zz7 trivial (q_ld Tryd.underlying2 rfl rfl (show l.c[3]? = some (.int .i64 l.tt) from rfl)) rfl (fun _ h => h) ?_
  refine wpd_p 14 rfl zz7 trivial (q64_conv Tryd.underlying2 Tryd.underlying23 rfl) rfl sk0 ?_
  refine wpd_p 16 rfl zz7 trivial (q_field Tryd.underlying32 rfl Tryd.ti22 rfl rfl _ rfl) rfl sk0 ?_
  refine wpd_q 17 rfl zz7 trivial (q_ld Tryd.underlying22 rfl rfl (show l.c[4]? = some (l.sv) from rfl)) rfl (fun _ h => h) ?_
  refine wpd_tp 2 rfl zz7 trivial (t_callPT Tryd.hb49 rfl fun w h => octStr 1 l.nm w hnl) rfl (fun _ => (fun w h => .inr (h.sub SubC.h SubC.h))) (fun b5 p5 => ?_)
  haveI := p5.2.one
  refine wpd_tp 5 rfl zz7 trivial (t_callPT Tryd.hb24 rfl fun w h => frz (octNum 2 l.no w)) rfl (fun _ => (fun w h => .inr (h.sub SubC.h SubC.h))) (fun b8 p8 => ?_)
  haveI := p8.2.one
  refine wpd_tp 10 rfl zz7 trivial (t_callPT Tryd.hb24 rfl fun w h => frz (octNum 3 (of64 l.fr) w)) rfl (fun _ => (fun w h => .inr (h.sub SubC.h SubC.h))) (fun b13 p13 => ?_)
  haveI := p13.2.one
  refine wpd_tp 15 rfl zz7 trivial (t_callPT Tryd.hb24 rfl fun w h => frz (octNum 4 (of64 l.tt) w)) rfl (fun _ => (fun w h => .inr (h.sub SubC.h SubC.h))) (fun b18 p18 => ?_)
  haveI := p18.2.one
  refine wpd_tp 18 rfl zz7 trivial (t_callP1 Tryd.hb51 rfl fun w h => serials l.sv l.ss.length w hl.s.sv) rfl (fun _ => (fun w h => .inr (h.sub SubC.h SubC.h))) (fun b21 p21 => ?_)
  refine wpd_tp 19 rfl zz7 trivial (t_callPT Tryd.hb50 rfl fun w h => collect b21 l.sv l.ss w hss ⟨h.cells_blk (t := 22) zz4, h.seen_old hl.s⟩) rfl (fun _ => (fun w h => .inr (h.sub SubC.h SubC.h))) (fun b22 p22 => ?_)
  obtain ⟨nv, ns⟩ := b22
  obtain ⟨p22a, p22b⟩ := p22
  dsimp only at p22a p22b ⊢
  refine wpd_tp 20 rfl zz7 trivial (t_callPT Tryd.hb23 rfl fun w h => frz (octSeq 129 nv ns w (seqF_at h zz4).1 (seqF_at h zz4).2 (by rw [p22a]; exact sm_list hss))) rfl (fun _ => (fun w h => .inr (h.sub SubC.h SubC.h))) (fun b23 p23 => ?_)
  haveI := p23.2.one
  refine wpd_tp 21 rfl zz7 trivial (t_bsG [.agg b5.c.toArray, .agg b8.c.toArray, .agg b13.c.toArray, .agg b18.c.toArray, .agg b23.c.toArray] (hcs [b5, b8, b13, b18, b23]) Tryd.underlying59 Tryd.ti61 rfl zz19 rfl zz19 zz19 rfl (by intro v hv; simp only [List.mem_cons, List.not_mem_nil, or_false] at hv; rcases hv with rfl | rfl | rfl | rfl | rfl <;> first | exact HT.c_length _ | rfl) rfl) rfl (fun _ => (fun w h => .inr (h.sub SubC.h SubC.h))) (fun b24 p24 => ?_)
  have htr : Tr.nd 134 [] (trs [b5, b8, b13, b18, b23]) = bodyT l := by
    show Tr.nd 134 [] [b5.tr, b8.tr, b13.tr, b18.tr, b23.tr] = _
    rw [p5.1, p8.1, p13.1, p18.1, p23.1, p22a]; rfl
  have hsm : Sm (Tr.nd 134 [] (trs [b5, b8, b13, b18, b23])) := by rw [htr]; exact sm_body hss hnm
  refine wpd_tp 22 rfl zz7 trivial (t_callPT Tryd.hb23 rfl fun w h => frz (octSeq 134 b24 [b5, b8, b13, b18, b23] w (h.seen_row zz4) ⟨Mem.hseenF h zz4, Mem.hseenF h zz4, Mem.hseenF h zz4, Mem.hseenF h zz4, Mem.hseenF h zz4, trivial⟩ hsm)) rfl (fun _ => (fun w h => .inr (h.sub SubC.h SubC.h))) (fun b25 p25 => ?_)
  haveI := p25.2.one
  refine wpd_t0 23 rfl zz7 trivial (t_stA Tryd.ti61 rfl rfl LenC.h OneC.h LenC.h) (fun _ => skk rfl) (fun _ => ?_)
  refine wpd_done zz7 ?_
  refine ex_then <| wpc_ret ?_
  refine retv1 (.inl rfl) rfl (rv_agg Tryd.underlying61 rfl Tryd.ti61 rfl (fun w h => h.atB) LenC.h) ?_
  exact fun w1 h => ⟨b25, ⟨p25.1.trans htr, p25.2⟩, rfl, h.below, h.made .nil SubC.h⟩
end Go.Proofs.YtgnablliekgbgaaDoor
namespace Go.Proofs.YtgnablliekgbgaaDoor
open Go Go.PL Go.RowKit
theorem shpL_ser : ∀ (ss : List UInt64), shpL (sersT ss) = true
  | [] => rfl
  | s :: ss => by
    show ((!badT 5 (numB s.toNat).length 0 && true) && shpL (sersT ss)) = true
    rw [shpL_ser ss]; simp [badT]
theorem depL_ser : ∀ (ss : List UInt64), depL (sersT ss) ≤ 1
  | [] => Nat.zero_le _
  | s :: ss => by
    have := depL_ser ss
    show max 1 (depL (sersT ss)) ≤ 1
    omega
theorem body_shp (l : Rv) : (bodyT l).shp = true := by
  have h := shpL_ser l.ss
  show ((!badT 134 0 5 && ((!badT 1 l.nm.length 0 && true) && ((!badT 2 (numB l.no.toNat).length 0 && true) && ((!badT 3 (numB (of64 l.fr).toNat).length 0 && true) && ((!badT 4 (numB (of64 l.tt).toNat).length 0 && true) && ((!badT 129 0 (sersT l.ss).length && shpL (sersT l.ss)) && true))))))) = true
  rw [h]; simp [badT]
theorem body_dep (l : Rv) : (bodyT l).dep ≤ 3 := by
  have h := depL_ser l.ss
  show max 1 (max 1 (max 1 (max 1 (max (depL (sersT l.ss) + 1) 0)))) + 1 ≤ 3
  omega
theorem body_cnt (l : Rv) : (bodyT l).cnt = 6 + l.ss.length := by
  show 1 + (1 + 0 + (1 + 0 + (1 + 0 + (1 + 0 + (1 + cntL (sersT l.ss) + 0))))) = _
  rw [cntL_ser]; omega
theorem body_byt {l : Rv} (h2 : l.nm.length ≤ 500) : (bodyT l).byt ≤ 524 + 8 * l.ss.length := by
  have h3 := bytL_ser l.ss
  have h4 := numB_le l.no.toNat l.no.toNat_lt
  have h5 := numB_le (of64 l.fr).toNat (of64 l.fr).toNat_lt
  have h6 := numB_le (of64 l.tt).toNat (of64 l.tt).toNat_lt
  show 0 + (l.nm.length + 0 + ((numB l.no.toNat).length + 0 + ((numB (of64 l.fr).toNat).length + 0 + ((numB (of64 l.tt).toNat).length + 0 + (0 + bytL (sersT l.ss) + 0))))) ≤ _
  omega
theorem chk_tree {t : Tr} (h1 : t.cnt ≤ 4000) (h2 : t.dep ≤ 12) (h3 : t.shp = true) (h4 : t.byt + 5 * t.cnt ≤ 65536) : checkF t = 0 := by
  have h5 := siz_le t (show t.byt + 5 * t.cnt ≤ 1000000 from zz12)
  unfold checkF
  rw [if_neg zz12, if_neg (by simp [h3]), if_neg zz12]
theorem encF_k0 {t : Tr} (h : checkF t = 0) : encF t = (enc t, 0) := if_pos h
theorem chk_body {l : Rv} (h : chkR l = 0) (h2 : l.nm.length ≤ 500) : checkF (bodyT l) = 0 := by
  have h3 := (chk_inv h).1
  have h4 := body_byt h2
  have h5 := body_cnt l
  have h6 := body_dep l
  exact chk_tree zz12 zz12 (body_shp l) zz12
def bdyB (l : Rv) : List UInt8 := if chkR l = 0 then enc (bodyT l) else []
theorem bdy_ok {l : Rv} (h : chkR l = 0) : bdyB l = enc (bodyT l) := if_pos h
theorem bdy_no {l : Rv} (h : chkR l ≠ 0) : bdyB l = [] := if_neg h
theorem octEnc_ok {t : HT} {T : Tr} (w : World) (ht : HSeen w.cell? t) (hsm : Sm T) (hd : T.dep ≤ 12) (hc : checkF T = 0) (e : t.tr = T) : Calls Tryd.prog 26 [.agg t.c.toArray].toArray w (GivesP w (fun v : Value => SV v (enc T).length) (fun v => .tuple #[v, .int .i64 0]) (fun v => [.row v (enc T).length 5 1 (v8s (enc T))]) (fun _ => [])) := by
  subst e
  have q := octEncode t w ht hsm zz12
  rw [encF_k0 hc] at q
  exact q
theorem rvBodyB (l : Rv) (w : World) (hl : l.seen w.cell?) (hnl : l.nm.length ≤ maxLen) (hss : l.ss.length ≤ 520) (hnm : l.nm.length ≤ 500) :
    Calls Tryd.prog 15 [.agg l.c.toArray].toArray w (GivesP w (fun v : Value => SV v (bdyB l).length) (fun v => .tuple #[v, .int .i64 (chkR l)]) (fun v => [.row v (bdyB l).length 5 1 (v8s (bdyB l))]) (fun _ => [])) := by
  haveI := hl.svs.one
  have lss := hl.s.sv.le
  have lcs := hl.c.sv.le
  have lps := hl.p.sv.le
  have sss := hl.s.sv
  have scs := hl.c.sv
  have sps := hl.p.sv
  simp only [maxLen] at lss lcs lps
  refine enter (m := 15) (R := Mem w [] [] []) Tryd.func15 rfl rfl (Nat.le_of_ble_eq_true rfl) (Mem.start w) ?_
  refine wpc_seq <| wpc_region ?_
  refine wpl_t (t_box rfl l.c rfl) rfl (fun b1 => ?_)
  refine wpl_q (q_pure rfl) rfl <| wpl_q (q_pure rfl) rfl <| wpl_nil <| ex_then <| wpc_seq <| wpc_seq <| wpc_region <| wpl_q (q_ldN Tryd.underlying32 rfl Tryd.ti32 rfl LenC.h) rfl ?_
  refine wpl_t (t_pur Tryd.hb10 rfl fun w h => rvCheck l w (hl.old h rfl) hnl) rfl (fun b6 => ?_)
  refine wpl_q (q_pure rfl) rfl <| wpl_nil <| ex_then <| wpc_seq <| wpc_region <| wpl_q (q_pure rfl) rfl <| wpl_q (q_pure rfl) rfl <| wpl_nil <| ex_then ?_
  refine wpc_cond rfl (fun hc8 => ?_) (fun hc8 => ?_)
  ·
   have hN : ¬ chkR l = 0 := by simpa using hc8
   refine wpc_seq <| wpc_region <| wpl_q (q_pure rfl) rfl <| wpl_q (q_pure rfl) rfl <| wpl_q (q_pure rfl) rfl <| wpl_nil <| ex_then <| wpc_ret ?_
   refine ex_then_ret ?_
   refine ret2 (.inl rfl) rfl rfl rfl ?_
   exact fun w1 h => ⟨nl, by rw [bdy_no hN]; exact SV.nil, rfl, h.below, by rw [bdy_no hN]; exact (show Mem w [] [.row nl 0 5 1 []] [] w1 from (h.nilRow 5 1).sel).made (Sub.refl _) .nil⟩
  ·
   have hZ : chkR l = 0 := by simpa using hc8
   refine wpc_skip <| ex_then <| wpc_seq <| wpc_region <| wpl_q (q_ldN Tryd.underlying32 rfl Tryd.ti32 rfl LenC.h) rfl ?_
   refine wpl_tp (t_callPT Tryd.hb27 rfl fun w h => rvBody l w (hl.old h rfl) hnl hss hnm) rfl (fun b11 p11 => ?_)
   haveI := p11.2.one
   refine wpl_tp (t_callP1 Tryd.hb26 rfl fun w h => octEnc_ok w (Mem.hseenF h zz4) (sm_body hss hnm) (by have := body_dep l; omega) (chk_body hZ hnm) p11.1) rfl (fun b12 p12 => ?_)
   refine wpl_q (q_pure rfl) rfl <| wpl_q (q_pure rfl) rfl <| wpl_q (q_pure rfl) rfl <| wpl_q (q_pure rfl) rfl <| wpl_nil <| ex_then <| wpc_ret ?_
   refine ret2 (.inl rfl) rfl rfl rfl ?_
   exact fun w1 h => ⟨b12, by rw [bdy_ok hZ]; exact p12, zz45, h.below, by rw [bdy_ok hZ]; exact h.made SubC.h .nil⟩
end Go.Proofs.YtgnablliekgbgaaDoor
namespace Go.Proofs.YtgnablliekgbgaaDoor
open Go Go.PL Go.RowKit
theorem get16 {l : List (List UInt8)} (h : ∀ x ∈ l, x.length = 16) {i : Nat} (hi : i < l.length) : ((v8s l.flatten).drop (i * 16)).take 16 = v8s (l.getD i []) := by rw [v8s_drop, v8s_take, flat_part l h i hi]
theorem flat_take {l : List (List UInt8)} (h : ∀ x ∈ l, x.length = 16) {i : Nat} (hi : i < l.length) : (l.take (i + 1)).flatten = (l.take i).flatten ++ l.getD i [] := by
  rw [List.take_add_one, List.getD_eq_getElem?_getD, List.getElem?_eq_getElem hi, List.flatten_append]
  simp
theorem made_jn {w0 w : World} {tg : UInt8} {b : Value} {bs : List UInt8} {n : Nat} (hn : bs.length = n) (h : Mem w0 [] [.row b n 5 1 (v8s bs), .row nl 0 61 3 []] [] w) : New w0.heap.size (HT.nd tg b bs nl []).ents [] w := by
  subst hn
  exact madeT h
theorem joined (tg : UInt8) (cv : Value) (l : List (List UInt8)) (w : World) (hcv : Seen w.cell? cv l.length 16 (v8s l.flatten)) (hll : ∀ x ∈ l, x.length = 16) (hlim : l.length ≤ 1000) :
    Calls Tryd.prog 25 [.int .u8 tg.toNat, cv].toArray w (GivesP w (fun y : HT => y.tr = Tr.nd tg l.flatten [] ∧ y.sv) (fun y => .agg y.c.toArray) (fun y => y.ents) (fun _ => [])) := by
  have scv := hcv.sv
  have lcv := scv.le
  simp only [maxLen] at lcv
  refine enter (m := 23) (R := Mem w [] [] []) Tryd.func25 rfl rfl (Nat.le_of_ble_eq_true rfl) (Mem.start w) ?_
  refine wpc_seq <| wpc_region ?_
  refine wpl_t (t_alloc Tryd.ti61 [.int .u8 0, nl, nl] rfl) rfl (fun b4 => ?_)
  refine wpl_nil <| ex_then <| wpc_seq <| wpc_region <| wpl_q (q_pure rfl) rfl ?_
  refine wpl_q (q_build (cs := [.int .u8 (tg.toNat : Int), nl, nl]) rfl (built_o0 tg)) rfl ?_
  refine wpl_t (t_alloc Tryd.ti61 [.int .u8 0, nl, nl] rfl) rfl (fun b5 => ?_)
  refine wpl_t0 (t_stA Tryd.ti61 rfl rfl LenC.h OneC.h LenC.h) (fun _ => ?_)
  refine wpl_nil <| ex_then <| wpc_seq <| wpc_seq <| wpc_region <| wpl_q (q_pure rfl) rfl ?_
  refine wpl_q (q_lenW Tryd.underlying28 rfl zz3) rfl ?_
  refine wpl_q (q_pure rfl) rfl <| wpl_nil <| ex_then <| wpc_block ?_
  refine wpc_loopc (ι := { x : Nat × Value // (x.1 ≤ l.length) ∧ (SV x.2 (x.1 * 16)) }) [(4, _), (5, _), (10, _), (11, _)] (fun x Lc => (12, .int .i64 ((x.1.1 : Nat) : Int)) :: Lc) (fun x => Mem w [] [.blk b5 61 [.int .u8 (tg.toNat : Int), x.1.2, nl], .blk b4 61 [.int .u8 0, nl, nl], .row x.1.2 (x.1.1 * 16) 5 1 (v8s (l.take x.1.1).flatten)] []) (fun x => l.length - x.1.1) ⟨(0, nl), ⟨Nat.zero_le _, SV.nil⟩⟩ zz9 ?_ ?_
  ·
   exact fun w1 h => by
     dsimp only
     rw [List.take_zero]
     exact (show Mem w [] [.blk b5 61 [.int .u8 (tg.toNat : Int), nl, nl], .blk b4 61 [.int .u8 0, nl, nl], .row nl 0 5 1 []] [] w1 from (h.nilRow 5 1).sel)
  ·
   rintro ⟨⟨i, v⟩, ⟨hi0, hi1⟩⟩; try dsimp only
   have hi0 : i ≤ l.length := hi0; have hi1 : SV v (i * 16) := hi1
   haveI := oneH (t := tg) hi1 SV.nil
   refine wpc_seq <| wpc_region <| wpl_q (q_pure rfl) rfl <| wpl_nil <| ex_then <| wpc_seq ?_
   refine wpc_cond rfl (fun hc13 => ?_) (fun hc13 => ?_)
   ·
    simp only [decide_eq_true_eq] at hc13
    have hil : i < l.length := by omega
    have hgl : (l.getD i []).length = 16 := getD_mem_len hll hil
    refine wpc_skip <| ex_then <| wpc_seq <| wpc_block <| wpc_seq <| wpc_region ?_
    refine wpl_q (q_idxW Tryd.underlying28 Tryd.ti41 rfl rfl zz3 zz1) rfl ?_
    refine wpl_q (q_ldWN Tryd.underlying41 rfl Tryd.ti41 rfl (fun w h => zz15) (v8s (l.getD i [])) (get16 hll hil) (by rw [v8s_length]; exact hgl)) rfl ?_
    refine wpl_t (t_alloc Tryd.ti41 (v8s (List.replicate 16 0)) rfl) rfl (fun b7 => ?_)
    refine wpl_t0 (t_stA Tryd.ti41 rfl rfl (by rw [v8s_length]; exact hgl) (v8s_one _) (by rw [v8s_length, List.length_replicate])) (fun _ => ?_)
    refine wpl_nil <| ex_then ?_
    refine wpc_draw 3 zz7 (fun _ h => h.drew) ?_
    refine wpd_p 0 rfl zz7 trivial (q_field Tryd.underlying61 rfl Tryd.ti34 rfl rfl _ rfl) rfl sk0 ?_
    refine wpd_q 1 rfl zz7 trivial (q_ld Tryd.underlying34 rfl rfl rfl) rfl (fun _ h => h) ?_
    refine wpd_p 2 rfl zz7 trivial (q_arAll Tryd.underlying41 Tryd.ti5 rfl rfl) rfl sk0 ?_
    refine wpd_tp 3 rfl zz7 trivial (t_apW Tryd.underlying34 Tryd.ti5 rfl zz19 rfl rfl (fun w h => h.seenA zz19 (by rw [v8s_length, hgl])) (v8s_one _) zz1 zz1 (v8s (l.take (i + 1)).flatten) (by rw [flat_take hll hil]; exact (v8s_append _ _).symm)) rfl (fun _ => skk rfl) (fun b19 p19 => ?_)
    haveI := oneH (t := tg) p19 SV.nil
    refine wpd_p 4 rfl zz7 trivial (q_field Tryd.underlying61 rfl Tryd.ti34 rfl rfl _ rfl) rfl (skk rfl) ?_
    refine wpd_t0 5 rfl zz7 trivial (t_st1 Tryd.ti34 rfl rfl (SV.one zz3) zz6 [.int .u8 (tg.toNat : Int), b19, nl] rfl) (fun _ => skk rfl) (fun _ => ?_)
    refine wpd_done zz7 ?_
    refine ex_block <| ex_then <| wpc_region ?_
    refine wpl_q (q_addN (b := 1) rfl rfl zz1) rfl ?_
    refine wpl_q (q_pure rfl) rfl <| wpl_nil ?_
    refine ex_again ⟨(i + 1, b19), ⟨by dsimp only; omega, by rw [Nat.add_mul]; exact p19⟩⟩ ?_ ?_ ?_
    ·
     exact zz9
    ·
     exact fun w h => by
       dsimp only
       rw [Nat.add_mul]
       exact h.sel
    ·
     (show l.length - (i + 1) < l.length - i); omega
   ·
    simp only [decide_eq_false_iff_not] at hc13
    obtain rfl : i = l.length := by omega
    rw [List.take_length]
    refine wpc_exit ?_
    refine ex_then_exit ?_
    refine ex_then_exit ?_
    refine ex_block_hit ?_
    refine ex_then <| wpc_seq <| wpc_region <| wpl_q (q_ldN Tryd.underlying61 rfl Tryd.ti61 rfl LenC.h) rfl ?_
    refine wpl_t0 (t_stA Tryd.ti61 rfl rfl LenC.h OneC.h LenC.h) (fun _ => ?_)
    refine wpl_nil <| ex_then <| wpc_ret ?_
    refine retv1 (.inl rfl) rfl (rv_agg Tryd.underlying61 rfl Tryd.ti61 rfl (fun w h => h.atB) LenC.h) ?_
    exact fun w1 h => ⟨.nd tg v l.flatten nl [], ⟨rfl, by show SV v l.flatten.length; rw [flat_len l hll]; exact hi1, SV.nil⟩, rfl, h.below, made_jn (flat_len l hll) (h.nilRow 61 3).sel⟩
end Go.Proofs.YtgnablliekgbgaaDoor
namespace Go.Proofs.YtgnablliekgbgaaDoor
open Go Go.PL Go.RowKit
def sigT3 (ix : Int) (chs ps : List (List UInt8)) : Tr := .nd 131 [] [.nd 1 (numB (of64 ix).toNat) [], .nd 2 chs.flatten [], .nd 3 ps.flatten []]
def sigT (l : Rv) : Tr := sigT3 l.ix l.chs l.ps
def wholeT (l : Rv) : Tr := .nd 135 [] [bodyT l, sigT l]
theorem sig_byt {ix : Int} {chs ps : List (List UInt8)} (hc : ∀ x ∈ chs, x.length = 16) (hp : ∀ x ∈ ps, x.length = 16) (h1 : chs.length ≤ 60) (h2 : ps.length ≤ 60) : (sigT3 ix chs ps).byt ≤ 1928 := by
  have h3 := numB_le (of64 ix).toNat (of64 ix).toNat_lt
  have h4 := flat_len chs hc
  have h5 := flat_len ps hp
  show 0 + ((numB (of64 ix).toNat).length + 0 + (chs.flatten.length + 0 + (ps.flatten.length + 0 + 0))) ≤ _
  omega
theorem sm_sig {ix : Int} {chs ps : List (List UInt8)} (hc : ∀ x ∈ chs, x.length = 16) (hp : ∀ x ∈ ps, x.length = 16) (h1 : chs.length ≤ 60) (h2 : ps.length ≤ 60) : Sm (sigT3 ix chs ps) := by
  have h3 := sig_byt (ix := ix) hc hp h1 h2
  show (sigT3 ix chs ps).byt + 5 * 4 ≤ 1000000
  omega
theorem sig_shp (ix : Int) (chs ps : List (List UInt8)) : (sigT3 ix chs ps).shp = true := by
  show ((!badT 131 0 3 && ((!badT 1 (numB (of64 ix).toNat).length 0 && true) && ((!badT 2 chs.flatten.length 0 && true) && ((!badT 3 ps.flatten.length 0 && true) && true))))) = true
  simp [badT]
structure RLim (l : Rv) : Prop where
  nm : l.nm.length ≤ 500
  ss : l.ss.length ≤ 520
  c : l.chs.length ≤ 60
  p : l.ps.length ≤ 60
theorem whole_cnt (l : Rv) : (wholeT l).cnt = 11 + l.ss.length := by
  show 1 + ((bodyT l).cnt + (4 + 0)) = _
  rw [body_cnt]; omega
theorem whole_byt {l : Rv} (h : RLim l) (hc : ∀ x ∈ l.chs, x.length = 16) (hp : ∀ x ∈ l.ps, x.length = 16) : (wholeT l).byt ≤ 2452 + 8 * l.ss.length := by
  have h1 := body_byt h.nm
  have h2 := sig_byt (ix := l.ix) hc hp h.c h.p
  show 0 + ((bodyT l).byt + ((sigT3 l.ix l.chs l.ps).byt + 0)) ≤ _
  omega
theorem sm_whole {l : Rv} (h : RLim l) (hc : ∀ x ∈ l.chs, x.length = 16) (hp : ∀ x ∈ l.ps, x.length = 16) : Sm (wholeT l) := by
  have h1 := whole_byt h hc hp
  have h2 := whole_cnt l
  have h3 := h.ss
  show (wholeT l).byt + 5 * (wholeT l).cnt ≤ 1000000
  omega
theorem whole_dep (l : Rv) : (wholeT l).dep ≤ 4 := by
  have h := body_dep l
  show max (bodyT l).dep (max (max 1 (max 1 (max 1 0)) + 1) 0) + 1 ≤ 4
  omega
theorem whole_shp (l : Rv) : (wholeT l).shp = true := by
  have h := body_shp l
  have h2 := sig_shp l.ix l.chs l.ps
  show (!badT 135 0 2 && ((bodyT l).shp && ((sigT3 l.ix l.chs l.ps).shp && true))) = true
  rw [h, h2]; simp [badT]
theorem chk_whole {l : Rv} (h : chkR l = 0) (k : RLim l) (hc : ∀ x ∈ l.chs, x.length = 16) (hp : ∀ x ∈ l.ps, x.length = 16) : checkF (wholeT l) = 0 := by
  have h3 := (chk_inv h).1
  have h4 := whole_byt k hc hp
  have h5 := whole_cnt l
  have h6 := whole_dep l
  exact chk_tree zz12 zz12 (whole_shp l) zz12
def encB (l : Rv) : List UInt8 := if chkR l = 0 then enc (wholeT l) else []
theorem enc_ok {l : Rv} (h : chkR l = 0) : encB l = enc (wholeT l) := if_pos h
theorem enc_no {l : Rv} (h : chkR l ≠ 0) : encB l = [] := if_neg h
theorem rvEncode (l : Rv) (w : World) (hl : l.seen w.cell?) (hnl : l.nm.length ≤ maxLen) (hk : RLim l) :
    Calls Tryd.prog 8 [.agg l.c.toArray].toArray w (GivesP w (fun v : Value => SV v (encB l).length) (fun v => .tuple #[v, .int .i64 (chkR l)]) (fun v => [.row v (encB l).length 5 1 (v8s (encB l))]) (fun _ => [])) := by
  haveI := hl.svs.one
  have lss := hl.s.sv.le
  have lcs := hl.c.sv.le
  have lps := hl.p.sv.le
  have sss := hl.s.sv
  have scs := hl.c.sv
  have sps := hl.p.sv
  simp only [maxLen] at lss lcs lps
  refine enter (m := 34) (R := Mem w [] [] []) Tryd.func8 rfl rfl (Nat.le_of_ble_eq_true rfl) (Mem.start w) ?_
  refine wpc_seq <| wpc_region ?_
  refine wpl_t (t_box rfl l.c rfl) rfl (fun b1 => ?_)
  refine wpl_q (q_pure rfl) rfl <| wpl_q (q_pure rfl) rfl <| wpl_nil <| ex_then <| wpc_seq <| wpc_seq <| wpc_region <| wpl_q (q_ldN Tryd.underlying32 rfl Tryd.ti32 rfl LenC.h) rfl ?_
  refine wpl_t (t_pur Tryd.hb10 rfl fun w h => rvCheck l w (hl.old h rfl) hnl) rfl (fun b7 => ?_)
  refine wpl_q (q_pure rfl) rfl <| wpl_nil <| ex_then <| wpc_seq <| wpc_region <| wpl_q (q_pure rfl) rfl <| wpl_q (q_pure rfl) rfl <| wpl_nil <| ex_then ?_
  refine wpc_cond rfl (fun hc9 => ?_) (fun hc9 => ?_)
  ·
   have hN : ¬ chkR l = 0 := by simpa using hc9
   refine wpc_seq <| wpc_region <| wpl_q (q_pure rfl) rfl <| wpl_q (q_pure rfl) rfl <| wpl_q (q_pure rfl) rfl <| wpl_nil <| ex_then <| wpc_ret ?_
   refine ex_then_ret ?_
   refine ret2 (.inl rfl) rfl rfl rfl ?_
   exact fun w1 h => ⟨nl, by rw [enc_no hN]; exact SV.nil, rfl, h.below, by rw [enc_no hN]; exact (show Mem w [] [.row nl 0 5 1 []] [] w1 from (h.nilRow 5 1).sel).made (Sub.refl _) .nil⟩
  ·
   have hZ : chkR l = 0 := by simpa using hc9
   refine wpc_skip <| ex_then <| wpc_seq ?_
   refine wpc_draw 16 zz7 (fun _ h => h.drew) ?_
   refine wpd_p 0 rfl zz7 trivial (q_field Tryd.underlying32 rfl Tryd.ti30 rfl rfl _ rfl) rfl sk0 ?_
   refine wpd_p 1 rfl zz7 trivial (q_field Tryd.underlying30 rfl Tryd.ti3 rfl rfl _ rfl) rfl sk0 ?_
   refine wpd_q 2 rfl zz7 trivial (q_ld Tryd.underlying3 rfl rfl (show l.c[5]? = some (.int .i64 l.ix) from rfl)) rfl (fun _ h => h) ?_
   refine wpd_p 3 rfl zz7 trivial (q64_conv Tryd.underlying3 Tryd.underlying23 rfl) rfl sk0 ?_
   refine wpd_p 5 rfl zz7 trivial (q_field Tryd.underlying32 rfl Tryd.ti30 rfl rfl _ rfl) rfl sk0 ?_
   refine wpd_p 6 rfl zz7 trivial (q_field Tryd.underlying30 rfl Tryd.ti28 rfl rfl _ rfl) rfl sk0 ?_
   refine wpd_q 7 rfl zz7 trivial (q_ld Tryd.underlying28 rfl rfl (show l.c[6]? = some (l.cv) from rfl)) rfl (fun _ h => h) ?_
   refine wpd_p 9 rfl zz7 trivial (q_field Tryd.underlying32 rfl Tryd.ti30 rfl rfl _ rfl) rfl sk0 ?_
   refine wpd_p 10 rfl zz7 trivial (q_field Tryd.underlying30 rfl Tryd.ti28 rfl rfl _ rfl) rfl sk0 ?_
   refine wpd_q 11 rfl zz7 trivial (q_ld Tryd.underlying28 rfl rfl (show l.c[7]? = some (l.pv) from rfl)) rfl (fun _ h => h) ?_
   refine wpd_two 4 15 zz7 ?_ ?_
   ·
    refine wpa_tp 4 rfl trivial (t_callPT Tryd.hb24 rfl fun w h => frz (octNum 1 (of64 l.ix) w)) rfl (fun _ => (fun w h => .inr (h.sub SubC.h SubC.h))) (fun b15 p15 => ?_)
    haveI := p15.2.one
    refine wpd_two 8 15 zz7 ?_ ?_
    ·
     refine wpa_tp 8 rfl trivial (t_callPT Tryd.hb25 rfl fun w h => frz (joined 2 l.cv l.chs w (h.seen_old hl.c) hl.lc (by have := hk.c; omega))) rfl (fun _ => (fun w h => .inr (h.sub SubC.h SubC.h))) (fun b19 p19 => ?_)
     haveI := p19.2.one
     refine wpd_two 12 15 zz7 ?_ ?_
     ·
      refine wpa_tp 12 rfl trivial (t_callPT Tryd.hb25 rfl fun w h => frz (joined 3 l.pv l.ps w (h.seen_old hl.p) hl.lp (by have := hk.p; omega))) rfl (fun _ => (fun w h => .inr (h.sub SubC.h SubC.h))) (fun b23 p23 => ?_)
      haveI := p23.2.one
      refine wpd_two 13 15 zz7 ?_ ?_
      ·
       refine wpa_tp 13 rfl trivial (t_bsG [.agg b15.c.toArray, .agg b19.c.toArray, .agg b23.c.toArray] (hcs [b15, b19, b23]) Tryd.underlying59 Tryd.ti61 rfl zz19 rfl zz19 zz19 rfl zz28 rfl) rfl (fun _ => (fun w h => .inr (h.sub SubC.h SubC.h))) (fun b24 p24 => ?_)
       have htr : Tr.nd 131 [] (trs [b15, b19, b23]) = sigT l := by
         show Tr.nd 131 [] [b15.tr, b19.tr, b23.tr] = _
         rw [p15.1, p19.1, p23.1]; rfl
       have hsm : Sm (Tr.nd 131 [] (trs [b15, b19, b23])) := by rw [htr]; exact sm_sig hl.lc hl.lp hk.c hk.p
       refine wpd_two 14 15 zz7 ?_ ?_
       ·
        refine wpa_tp 14 rfl trivial (t_callPT Tryd.hb23 rfl fun w h => frz (octSeq 131 b24 [b15, b19, b23] w (h.seen_row zz4) ⟨Mem.hseenF h zz4, Mem.hseenF h zz4, Mem.hseenF h zz4, trivial⟩ hsm)) rfl (fun _ => (fun w h => .inr (h.sub SubC.h SubC.h))) (fun b25 p25 => ?_)
        haveI := p25.2.one
        refine wpd_t 15 rfl zz7 trivial (t_alloc Tryd.ti61 [.int .u8 0, nl, nl] rfl) rfl (fun _ => (fun w h => .inr (h.sub SubC.h SubC.h))) (fun b5 => ?_)
        refine wpd_t0 16 rfl zz7 trivial (t_stA Tryd.ti61 rfl rfl LenC.h OneC.h LenC.h) (fun _ => skk rfl) (fun _ => ?_)
        refine wpd_done zz7 ?_
        refine ex_then <| wpc_seq ?_
        refine wpc_draw 10 zz7 (fun _ h => h.drew) ?_
        refine wpd_q 0 rfl zz7 trivial (q_ldN Tryd.underlying32 rfl Tryd.ti32 rfl LenC.h) rfl (fun _ h => h) ?_
        refine wpd_q 2 rfl zz7 trivial (q_ldN Tryd.underlying61 rfl Tryd.ti61 rfl LenC.h) rfl (fun _ h => h) ?_
        refine wpd_tp 1 rfl zz7 trivial (t_callPT Tryd.hb27 rfl fun w h => rvBody l w (hl.old h rfl) hnl hk.ss hk.nm) rfl (fun _ => (fun w h => .inr (h.sub SubC.h SubC.h))) (fun b27 p27 => ?_)
        haveI := p27.2.one
        refine wpd_tp 3 rfl zz7 trivial (t_bsG [.agg b27.c.toArray, .agg b25.c.toArray] (hcs [b27, b25]) Tryd.underlying59 Tryd.ti61 rfl zz19 rfl zz19 zz19 rfl zz26 rfl) rfl (fun _ => (fun w h => .inr (h.sub SubC.h SubC.h))) (fun b29 p29 => ?_)
        have htw : Tr.nd 135 [] (trs [b27, b25]) = wholeT l := by
          show Tr.nd 135 [] [b27.tr, b25.tr] = _
          rw [p27.1, p25.1, htr]; rfl
        have hsw : Sm (Tr.nd 135 [] (trs [b27, b25])) := by rw [htw]; exact sm_whole hk hl.lc hl.lp
        refine wpd_tp 4 rfl zz7 trivial (t_callPT Tryd.hb23 rfl fun w h => frz (octSeq 135 b29 [b27, b25] w (h.seen_row zz4) ⟨Mem.hseenF h zz4, Mem.hseenF h zz4, trivial⟩ hsw)) rfl (fun _ => (fun w h => .inr (h.sub SubC.h SubC.h))) (fun b30 p30 => ?_)
        haveI := p30.2.one
        refine wpd_tp 5 rfl zz7 trivial (t_callP1 Tryd.hb26 rfl fun w h => octEnc_ok w (Mem.hseenF h zz4) (sm_whole hk hl.lc hl.lp) (by have := whole_dep l; omega) (chk_whole hZ hk hl.lc hl.lp) (p30.1.trans htw)) rfl (fun _ => (fun w h => .inr (h.sub SubC.h SubC.h))) (fun b31 p31 => ?_)
        refine wpd_p 6 rfl zz7 trivial (q_pure rfl) rfl (fun w h => .inr (h.sub SubC.h SubC.h)) ?_
        refine wpd_p 7 rfl zz7 trivial (q_pure rfl) rfl (fun w h => .inr (h.sub SubC.h SubC.h)) ?_
        refine wpd_p 8 rfl zz7 trivial (q_pure rfl) rfl (fun w h => .inr (h.sub SubC.h SubC.h)) ?_
        refine wpd_p 9 rfl zz7 trivial (q_pure rfl) rfl (fun w h => .inr (h.sub SubC.h SubC.h)) ?_
        refine wpd_done zz7 ?_
        refine ex_then <| wpc_ret ?_
        refine ret2 (.inl rfl) rfl rfl rfl ?_
        exact fun w1 h => ⟨b31, by rw [enc_ok hZ]; exact p31, zz45, h.below, zz52⟩
       ·
        refine wpa_t 15 rfl trivial (t_alloc Tryd.ti61 [.int .u8 0, nl, nl] rfl) rfl (fun _ => (fun w h => .inr (h.sub SubC.h SubC.h))) (fun b5 => ?_)
        refine wpd_tp 14 rfl zz7 trivial (t_callPT Tryd.hb23 rfl fun w h => frz (octSeq 131 b24 [b15, b19, b23] w (h.seen_row zz4) ⟨Mem.hseenF h zz4, Mem.hseenF h zz4, Mem.hseenF h zz4, trivial⟩ hsm)) rfl (fun _ => (fun w h => .inr (h.sub SubC.h SubC.h))) (fun b25 p25 => ?_)
        haveI := p25.2.one
        refine wpd_t0 16 rfl zz7 trivial (t_stA Tryd.ti61 rfl rfl LenC.h OneC.h LenC.h) (fun _ => skk rfl) (fun _ => ?_)
        refine wpd_done zz7 ?_
        refine ex_then <| wpc_seq ?_
        refine wpc_draw 10 zz7 (fun _ h => h.drew) ?_
        refine wpd_q 0 rfl zz7 trivial (q_ldN Tryd.underlying32 rfl Tryd.ti32 rfl LenC.h) rfl (fun _ h => h) ?_
        refine wpd_q 2 rfl zz7 trivial (q_ldN Tryd.underlying61 rfl Tryd.ti61 rfl LenC.h) rfl (fun _ h => h) ?_
        refine wpd_tp 1 rfl zz7 trivial (t_callPT Tryd.hb27 rfl fun w h => rvBody l w (hl.old h rfl) hnl hk.ss hk.nm) rfl (fun _ => (fun w h => .inr (h.sub SubC.h SubC.h))) (fun b27 p27 => ?_)
        haveI := p27.2.one
        refine wpd_tp 3 rfl zz7 trivial (t_bsG [.agg b27.c.toArray, .agg b25.c.toArray] (hcs [b27, b25]) Tryd.underlying59 Tryd.ti61 rfl zz19 rfl zz19 zz19 rfl zz26 rfl) rfl (fun _ => (fun w h => .inr (h.sub SubC.h SubC.h))) (fun b29 p29 => ?_)
        have htw : Tr.nd 135 [] (trs [b27, b25]) = wholeT l := by
          show Tr.nd 135 [] [b27.tr, b25.tr] = _
          rw [p27.1, p25.1, htr]; rfl
        have hsw : Sm (Tr.nd 135 [] (trs [b27, b25])) := by rw [htw]; exact sm_whole hk hl.lc hl.lp
        refine wpd_tp 4 rfl zz7 trivial (t_callPT Tryd.hb23 rfl fun w h => frz (octSeq 135 b29 [b27, b25] w (h.seen_row zz4) ⟨Mem.hseenF h zz4, Mem.hseenF h zz4, trivial⟩ hsw)) rfl (fun _ => (fun w h => .inr (h.sub SubC.h SubC.h))) (fun b30 p30 => ?_)
        haveI := p30.2.one
        refine wpd_tp 5 rfl zz7 trivial (t_callP1 Tryd.hb26 rfl fun w h => octEnc_ok w (Mem.hseenF h zz4) (sm_whole hk hl.lc hl.lp) (by have := whole_dep l; omega) (chk_whole hZ hk hl.lc hl.lp) (p30.1.trans htw)) rfl (fun _ => (fun w h => .inr (h.sub SubC.h SubC.h))) (fun b31 p31 => ?_)
        refine wpd_p 6 rfl zz7 trivial (q_pure rfl) rfl (fun w h => .inr (h.sub SubC.h SubC.h)) ?_
        refine wpd_p 7 rfl zz7 trivial (q_pure rfl) rfl (fun w h => .inr (h.sub SubC.h SubC.h)) ?_
        refine wpd_p 8 rfl zz7 trivial (q_pure rfl) rfl (fun w h => .inr (h.sub SubC.h SubC.h)) ?_
        refine wpd_p 9 rfl zz7 trivial (q_pure rfl) rfl (fun w h => .inr (h.sub SubC.h SubC.h)) ?_
        refine wpd_done zz7 ?_
        refine ex_then <| wpc_ret ?_
        refine ret2 (.inl rfl) rfl rfl rfl ?_
        exact fun w1 h => ⟨b31, by rw [enc_ok hZ]; exact p31, zz45, h.below, zz52⟩
      ·
       refine wpa_t 15 rfl trivial (t_alloc Tryd.ti61 [.int .u8 0, nl, nl] rfl) rfl (fun _ => (fun w h => .inr (h.sub SubC.h SubC.h))) (fun b5 => ?_)
       refine wpd_tp 13 rfl zz7 trivial (t_bsG [.agg b15.c.toArray, .agg b19.c.toArray, .agg b23.c.toArray] (hcs [b15, b19, b23]) Tryd.underlying59 Tryd.ti61 rfl zz19 rfl zz19 zz19 rfl zz28 rfl) rfl (fun _ => (fun w h => .inr (h.sub SubC.h SubC.h))) (fun b24 p24 => ?_)
       have htr : Tr.nd 131 [] (trs [b15, b19, b23]) = sigT l := by
         show Tr.nd 131 [] [b15.tr, b19.tr, b23.tr] = _
         rw [p15.1, p19.1, p23.1]; rfl
       have hsm : Sm (Tr.nd 131 [] (trs [b15, b19, b23])) := by rw [htr]; exact sm_sig hl.lc hl.lp hk.c hk.p
       refine wpd_tp 14 rfl zz7 trivial (t_callPT Tryd.hb23 rfl fun w h => frz (octSeq 131 b24 [b15, b19, b23] w (h.seen_row zz4) ⟨Mem.hseenF h zz4, Mem.hseenF h zz4, Mem.hseenF h zz4, trivial⟩ hsm)) rfl (fun _ => (fun w h => .inr (h.sub SubC.h SubC.h))) (fun b25 p25 => ?_)
       haveI := p25.2.one
       refine wpd_t0 16 rfl zz7 trivial (t_stA Tryd.ti61 rfl rfl LenC.h OneC.h LenC.h) (fun _ => skk rfl) (fun _ => ?_)
       refine wpd_done zz7 ?_
       refine ex_then <| wpc_seq ?_
       refine wpc_draw 10 zz7 (fun _ h => h.drew) ?_
       refine wpd_q 0 rfl zz7 trivial (q_ldN Tryd.underlying32 rfl Tryd.ti32 rfl LenC.h) rfl (fun _ h => h) ?_
       refine wpd_q 2 rfl zz7 trivial (q_ldN Tryd.underlying61 rfl Tryd.ti61 rfl LenC.h) rfl (fun _ h => h) ?_
       refine wpd_tp 1 rfl zz7 trivial (t_callPT Tryd.hb27 rfl fun w h => rvBody l w (hl.old h rfl) hnl hk.ss hk.nm) rfl (fun _ => (fun w h => .inr (h.sub SubC.h SubC.h))) (fun b27 p27 => ?_)
       haveI := p27.2.one
       refine wpd_tp 3 rfl zz7 trivial (t_bsG [.agg b27.c.toArray, .agg b25.c.toArray] (hcs [b27, b25]) Tryd.underlying59 Tryd.ti61 rfl zz19 rfl zz19 zz19 rfl zz26 rfl) rfl (fun _ => (fun w h => .inr (h.sub SubC.h SubC.h))) (fun b29 p29 => ?_)
       have htw : Tr.nd 135 [] (trs [b27, b25]) = wholeT l := by
         show Tr.nd 135 [] [b27.tr, b25.tr] = _
         rw [p27.1, p25.1, htr]; rfl
       have hsw : Sm (Tr.nd 135 [] (trs [b27, b25])) := by rw [htw]; exact sm_whole hk hl.lc hl.lp
       refine wpd_tp 4 rfl zz7 trivial (t_callPT Tryd.hb23 rfl fun w h => frz (octSeq 135 b29 [b27, b25] w (h.seen_row zz4) ⟨Mem.hseenF h zz4, Mem.hseenF h zz4, trivial⟩ hsw)) rfl (fun _ => (fun w h => .inr (h.sub SubC.h SubC.h))) (fun b30 p30 => ?_)
       haveI := p30.2.one
       refine wpd_tp 5 rfl zz7 trivial (t_callP1 Tryd.hb26 rfl fun w h => octEnc_ok w (Mem.hseenF h zz4) (sm_whole hk hl.lc hl.lp) (by have := whole_dep l; omega) (chk_whole hZ hk hl.lc hl.lp) (p30.1.trans htw)) rfl (fun _ => (fun w h => .inr (h.sub SubC.h SubC.h))) (fun b31 p31 => ?_)
       refine wpd_p 6 rfl zz7 trivial (q_pure rfl) rfl (fun w h => .inr (h.sub SubC.h SubC.h)) ?_
       refine wpd_p 7 rfl zz7 trivial (q_pure rfl) rfl (fun w h => .inr (h.sub SubC.h SubC.h)) ?_
       refine wpd_p 8 rfl zz7 trivial (q_pure rfl) rfl (fun w h => .inr (h.sub SubC.h SubC.h)) ?_
       refine wpd_p 9 rfl zz7 trivial (q_pure rfl) rfl (fun w h => .inr (h.sub SubC.h SubC.h)) ?_
       refine wpd_done zz7 ?_
       refine ex_then <| wpc_ret ?_
       refine ret2 (.inl rfl) rfl rfl rfl ?_
       exact fun w1 h => ⟨b31, by rw [enc_ok hZ]; exact p31, zz45, h.below, zz52⟩
     ·
      refine wpa_t 15 rfl trivial (t_alloc Tryd.ti61 [.int .u8 0, nl, nl] rfl) rfl (fun _ => (fun w h => .inr (h.sub SubC.h SubC.h))) (fun b5 => ?_)
      refine wpd_tp 12 rfl zz7 trivial (t_callPT Tryd.hb25 rfl fun w h => frz (joined 3 l.pv l.ps w (h.seen_old hl.p) hl.lp (by have := hk.p; omega))) rfl (fun _ => (fun w h => .inr (h.sub SubC.h SubC.h))) (fun b23 p23 => ?_)
      haveI := p23.2.one
      refine wpd_tp 13 rfl zz7 trivial (t_bsG [.agg b15.c.toArray, .agg b19.c.toArray, .agg b23.c.toArray] (hcs [b15, b19, b23]) Tryd.underlying59 Tryd.ti61 rfl zz19 rfl zz19 zz19 rfl zz28 rfl) rfl (fun _ => (fun w h => .inr (h.sub SubC.h SubC.h))) (fun b24 p24 => ?_)
      have htr : Tr.nd 131 [] (trs [b15, b19, b23]) = sigT l := by
        show Tr.nd 131 [] [b15.tr, b19.tr, b23.tr] = _
        rw [p15.1, p19.1, p23.1]; rfl
      have hsm : Sm (Tr.nd 131 [] (trs [b15, b19, b23])) := by rw [htr]; exact sm_sig hl.lc hl.lp hk.c hk.p
      refine wpd_tp 14 rfl zz7 trivial (t_callPT Tryd.hb23 rfl fun w h => frz (octSeq 131 b24 [b15, b19, b23] w (h.seen_row zz4) ⟨Mem.hseenF h zz4, Mem.hseenF h zz4, Mem.hseenF h zz4, trivial⟩ hsm)) rfl (fun _ => (fun w h => .inr (h.sub SubC.h SubC.h))) (fun b25 p25 => ?_)
      haveI := p25.2.one
      refine wpd_t0 16 rfl zz7 trivial (t_stA Tryd.ti61 rfl rfl LenC.h OneC.h LenC.h) (fun _ => skk rfl) (fun _ => ?_)
      refine wpd_done zz7 ?_
      refine ex_then <| wpc_seq ?_
      refine wpc_draw 10 zz7 (fun _ h => h.drew) ?_
      refine wpd_q 0 rfl zz7 trivial (q_ldN Tryd.underlying32 rfl Tryd.ti32 rfl LenC.h) rfl (fun _ h => h) ?_
      refine wpd_q 2 rfl zz7 trivial (q_ldN Tryd.underlying61 rfl Tryd.ti61 rfl LenC.h) rfl (fun _ h => h) ?_
      refine wpd_tp 1 rfl zz7 trivial (t_callPT Tryd.hb27 rfl fun w h => rvBody l w (hl.old h rfl) hnl hk.ss hk.nm) rfl (fun _ => (fun w h => .inr (h.sub SubC.h SubC.h))) (fun b27 p27 => ?_)
      haveI := p27.2.one
      refine wpd_tp 3 rfl zz7 trivial (t_bsG [.agg b27.c.toArray, .agg b25.c.toArray] (hcs [b27, b25]) Tryd.underlying59 Tryd.ti61 rfl zz19 rfl zz19 zz19 rfl zz26 rfl) rfl (fun _ => (fun w h => .inr (h.sub SubC.h SubC.h))) (fun b29 p29 => ?_)
      have htw : Tr.nd 135 [] (trs [b27, b25]) = wholeT l := by
        show Tr.nd 135 [] [b27.tr, b25.tr] = _
        rw [p27.1, p25.1, htr]; rfl
      have hsw : Sm (Tr.nd 135 [] (trs [b27, b25])) := by rw [htw]; exact sm_whole hk hl.lc hl.lp
      refine wpd_tp 4 rfl zz7 trivial (t_callPT Tryd.hb23 rfl fun w h => frz (octSeq 135 b29 [b27, b25] w (h.seen_row zz4) ⟨Mem.hseenF h zz4, Mem.hseenF h zz4, trivial⟩ hsw)) rfl (fun _ => (fun w h => .inr (h.sub SubC.h SubC.h))) (fun b30 p30 => ?_)
      haveI := p30.2.one
      refine wpd_tp 5 rfl zz7 trivial (t_callP1 Tryd.hb26 rfl fun w h => octEnc_ok w (Mem.hseenF h zz4) (sm_whole hk hl.lc hl.lp) (by have := whole_dep l; omega) (chk_whole hZ hk hl.lc hl.lp) (p30.1.trans htw)) rfl (fun _ => (fun w h => .inr (h.sub SubC.h SubC.h))) (fun b31 p31 => ?_)
      refine wpd_p 6 rfl zz7 trivial (q_pure rfl) rfl (fun w h => .inr (h.sub SubC.h SubC.h)) ?_
      refine wpd_p 7 rfl zz7 trivial (q_pure rfl) rfl (fun w h => .inr (h.sub SubC.h SubC.h)) ?_
      refine wpd_p 8 rfl zz7 trivial (q_pure rfl) rfl (fun w h => .inr (h.sub SubC.h SubC.h)) ?_
      refine wpd_p 9 rfl zz7 trivial (q_pure rfl) rfl (fun w h => .inr (h.sub SubC.h SubC.h)) ?_
      refine wpd_done zz7 ?_
      refine ex_then <| wpc_ret ?_
      refine ret2 (.inl rfl) rfl rfl rfl ?_
      exact fun w1 h => ⟨b31, by rw [enc_ok hZ]; exact p31, zz45, h.below, zz52⟩
    ·
     refine wpa_t 15 rfl trivial (t_alloc Tryd.ti61 [.int .u8 0, nl, nl] rfl) rfl (fun _ => (fun w h => .inr (h.sub SubC.h SubC.h))) (fun b5 => ?_)
     refine wpd_tp 8 rfl zz7 trivial (t_callPT Tryd.hb25 rfl fun w h => frz (joined 2 l.cv l.chs w (h.seen_old hl.c) hl.lc (by have := hk.c; omega))) rfl (fun _ => (fun w h => .inr (h.sub SubC.h SubC.h))) (fun b19 p19 => ?_)
     haveI := p19.2.one
     refine wpd_tp 12 rfl zz7 trivial (t_callPT Tryd.hb25 rfl fun w h => frz (joined 3 l.pv l.ps w (h.seen_old hl.p) hl.lp (by have := hk.p; omega))) rfl (fun _ => (fun w h => .inr (h.sub SubC.h SubC.h))) (fun b23 p23 => ?_)
     haveI := p23.2.one
     refine wpd_tp 13 rfl zz7 trivial (t_bsG [.agg b15.c.toArray, .agg b19.c.toArray, .agg b23.c.toArray] (hcs [b15, b19, b23]) Tryd.underlying59 Tryd.ti61 rfl zz19 rfl zz19 zz19 rfl zz28 rfl) rfl (fun _ => (fun w h => .inr (h.sub SubC.h SubC.h))) (fun b24 p24 => ?_)
     have htr : Tr.nd 131 [] (trs [b15, b19, b23]) = sigT l := by
       show Tr.nd 131 [] [b15.tr, b19.tr, b23.tr] = _
       rw [p15.1, p19.1, p23.1]; rfl
     have hsm : Sm (Tr.nd 131 [] (trs [b15, b19, b23])) := by rw [htr]; exact sm_sig hl.lc hl.lp hk.c hk.p
     refine wpd_tp 14 rfl zz7 trivial (t_callPT Tryd.hb23 rfl fun w h => frz (octSeq 131 b24 [b15, b19, b23] w (h.seen_row zz4) ⟨Mem.hseenF h zz4, Mem.hseenF h zz4, Mem.hseenF h zz4, trivial⟩ hsm)) rfl (fun _ => (fun w h => .inr (h.sub SubC.h SubC.h))) (fun b25 p25 => ?_)
     haveI := p25.2.one
     refine wpd_t0 16 rfl zz7 trivial (t_stA Tryd.ti61 rfl rfl LenC.h OneC.h LenC.h) (fun _ => skk rfl) (fun _ => ?_)
     refine wpd_done zz7 ?_
     refine ex_then <| wpc_seq ?_
     refine wpc_draw 10 zz7 (fun _ h => h.drew) ?_
     refine wpd_q 0 rfl zz7 trivial (q_ldN Tryd.underlying32 rfl Tryd.ti32 rfl LenC.h) rfl (fun _ h => h) ?_
     refine wpd_q 2 rfl zz7 trivial (q_ldN Tryd.underlying61 rfl Tryd.ti61 rfl LenC.h) rfl (fun _ h => h) ?_
     refine wpd_tp 1 rfl zz7 trivial (t_callPT Tryd.hb27 rfl fun w h => rvBody l w (hl.old h rfl) hnl hk.ss hk.nm) rfl (fun _ => (fun w h => .inr (h.sub SubC.h SubC.h))) (fun b27 p27 => ?_)
     haveI := p27.2.one
     refine wpd_tp 3 rfl zz7 trivial (t_bsG [.agg b27.c.toArray, .agg b25.c.toArray] (hcs [b27, b25]) Tryd.underlying59 Tryd.ti61 rfl zz19 rfl zz19 zz19 rfl zz26 rfl) rfl (fun _ => (fun w h => .inr (h.sub SubC.h SubC.h))) (fun b29 p29 => ?_)
     have htw : Tr.nd 135 [] (trs [b27, b25]) = wholeT l := by
       show Tr.nd 135 [] [b27.tr, b25.tr] = _
       rw [p27.1, p25.1, htr]; rfl
     have hsw : Sm (Tr.nd 135 [] (trs [b27, b25])) := by rw [htw]; exact sm_whole hk hl.lc hl.lp
     refine wpd_tp 4 rfl zz7 trivial (t_callPT Tryd.hb23 rfl fun w h => frz (octSeq 135 b29 [b27, b25] w (h.seen_row zz4) ⟨Mem.hseenF h zz4, Mem.hseenF h zz4, trivial⟩ hsw)) rfl (fun _ => (fun w h => .inr (h.sub SubC.h SubC.h))) (fun b30 p30 => ?_)
     haveI := p30.2.one
     refine wpd_tp 5 rfl zz7 trivial (t_callP1 Tryd.hb26 rfl fun w h => octEnc_ok w (Mem.hseenF h zz4) (sm_whole hk hl.lc hl.lp) (by have := whole_dep l; omega) (chk_whole hZ hk hl.lc hl.lp) (p30.1.trans htw)) rfl (fun _ => (fun w h => .inr (h.sub SubC.h SubC.h))) (fun b31 p31 => ?_)
     refine wpd_p 6 rfl zz7 trivial (q_pure rfl) rfl (fun w h => .inr (h.sub SubC.h SubC.h)) ?_
     refine wpd_p 7 rfl zz7 trivial (q_pure rfl) rfl (fun w h => .inr (h.sub SubC.h SubC.h)) ?_
     refine wpd_p 8 rfl zz7 trivial (q_pure rfl) rfl (fun w h => .inr (h.sub SubC.h SubC.h)) ?_
     refine wpd_p 9 rfl zz7 trivial (q_pure rfl) rfl (fun w h => .inr (h.sub SubC.h SubC.h)) ?_
     refine wpd_done zz7 ?_
     refine ex_then <| wpc_ret ?_
     refine ret2 (.inl rfl) rfl rfl rfl ?_
     exact fun w1 h => ⟨b31, by rw [enc_ok hZ]; exact p31, zz45, h.below, zz52⟩
   ·
    refine wpa_t 15 rfl trivial (t_alloc Tryd.ti61 [.int .u8 0, nl, nl] rfl) rfl (fun _ => (fun w h => .inr (h.sub SubC.h SubC.h))) (fun b5 => ?_)
    refine wpd_tp 4 rfl zz7 trivial (t_callPT Tryd.hb24 rfl fun w h => frz (octNum 1 (of64 l.ix) w)) rfl (fun _ => (fun w h => .inr (h.sub SubC.h SubC.h))) (fun b15 p15 => ?_)
    haveI := p15.2.one
    refine wpd_tp 8 rfl zz7 trivial (t_callPT Tryd.hb25 rfl fun w h => frz (joined 2 l.cv l.chs w (h.seen_old hl.c) hl.lc (by have := hk.c; omega))) rfl (fun _ => (fun w h => .inr (h.sub SubC.h SubC.h))) (fun b19 p19 => ?_)
    haveI := p19.2.one
    refine wpd_tp 12 rfl zz7 trivial (t_callPT Tryd.hb25 rfl fun w h => frz (joined 3 l.pv l.ps w (h.seen_old hl.p) hl.lp (by have := hk.p; omega))) rfl (fun _ => (fun w h => .inr (h.sub SubC.h SubC.h))) (fun b23 p23 => ?_)
    haveI := p23.2.one
    refine wpd_tp 13 rfl zz7 trivial (t_bsG [.agg b15.c.toArray, .agg b19.c.toArray, .agg b23.c.toArray] (hcs [b15, b19, b23]) Tryd.underlying59 Tryd.ti61 rfl zz19 rfl zz19 zz19 rfl zz28 rfl) rfl (fun _ => (fun w h => .inr (h.sub SubC.h SubC.h))) (fun b24 p24 => ?_)
    have htr : Tr.nd 131 [] (trs [b15, b19, b23]) = sigT l := by
      show Tr.nd 131 [] [b15.tr, b19.tr, b23.tr] = _
      rw [p15.1, p19.1, p23.1]; rfl
    have hsm : Sm (Tr.nd 131 [] (trs [b15, b19, b23])) := by rw [htr]; exact sm_sig hl.lc hl.lp hk.c hk.p
    refine wpd_tp 14 rfl zz7 trivial (t_callPT Tryd.hb23 rfl fun w h => frz (octSeq 131 b24 [b15, b19, b23] w (h.seen_row zz4) ⟨Mem.hseenF h zz4, Mem.hseenF h zz4, Mem.hseenF h zz4, trivial⟩ hsm)) rfl (fun _ => (fun w h => .inr (h.sub SubC.h SubC.h))) (fun b25 p25 => ?_)
    haveI := p25.2.one
    refine wpd_t0 16 rfl zz7 trivial (t_stA Tryd.ti61 rfl rfl LenC.h OneC.h LenC.h) (fun _ => skk rfl) (fun _ => ?_)
    refine wpd_done zz7 ?_
    refine ex_then <| wpc_seq ?_
    refine wpc_draw 10 zz7 (fun _ h => h.drew) ?_
    refine wpd_q 0 rfl zz7 trivial (q_ldN Tryd.underlying32 rfl Tryd.ti32 rfl LenC.h) rfl (fun _ h => h) ?_
    refine wpd_q 2 rfl zz7 trivial (q_ldN Tryd.underlying61 rfl Tryd.ti61 rfl LenC.h) rfl (fun _ h => h) ?_
    refine wpd_tp 1 rfl zz7 trivial (t_callPT Tryd.hb27 rfl fun w h => rvBody l w (hl.old h rfl) hnl hk.ss hk.nm) rfl (fun _ => (fun w h => .inr (h.sub SubC.h SubC.h))) (fun b27 p27 => ?_)
    haveI := p27.2.one
    refine wpd_tp 3 rfl zz7 trivial (t_bsG [.agg b27.c.toArray, .agg b25.c.toArray] (hcs [b27, b25]) Tryd.underlying59 Tryd.ti61 rfl zz19 rfl zz19 zz19 rfl zz26 rfl) rfl (fun _ => (fun w h => .inr (h.sub SubC.h SubC.h))) (fun b29 p29 => ?_)
    have htw : Tr.nd 135 [] (trs [b27, b25]) = wholeT l := by
      show Tr.nd 135 [] [b27.tr, b25.tr] = _
      rw [p27.1, p25.1, htr]; rfl
    have hsw : Sm (Tr.nd 135 [] (trs [b27, b25])) := by rw [htw]; exact sm_whole hk hl.lc hl.lp
    refine wpd_tp 4 rfl zz7 trivial (t_callPT Tryd.hb23 rfl fun w h => frz (octSeq 135 b29 [b27, b25] w (h.seen_row zz4) ⟨Mem.hseenF h zz4, Mem.hseenF h zz4, trivial⟩ hsw)) rfl (fun _ => (fun w h => .inr (h.sub SubC.h SubC.h))) (fun b30 p30 => ?_)
    haveI := p30.2.one
    refine wpd_tp 5 rfl zz7 trivial (t_callP1 Tryd.hb26 rfl fun w h => octEnc_ok w (Mem.hseenF h zz4) (sm_whole hk hl.lc hl.lp) (by have := whole_dep l; omega) (chk_whole hZ hk hl.lc hl.lp) (p30.1.trans htw)) rfl (fun _ => (fun w h => .inr (h.sub SubC.h SubC.h))) (fun b31 p31 => ?_)
    refine wpd_p 6 rfl zz7 trivial (q_pure rfl) rfl (fun w h => .inr (h.sub SubC.h SubC.h)) ?_
    refine wpd_p 7 rfl zz7 trivial (q_pure rfl) rfl (fun w h => .inr (h.sub SubC.h SubC.h)) ?_
    refine wpd_p 8 rfl zz7 trivial (q_pure rfl) rfl (fun w h => .inr (h.sub SubC.h SubC.h)) ?_
    refine wpd_p 9 rfl zz7 trivial (q_pure rfl) rfl (fun w h => .inr (h.sub SubC.h SubC.h)) ?_
    refine wpd_done zz7 ?_
    refine ex_then <| wpc_ret ?_
    refine ret2 (.inl rfl) rfl rfl rfl ?_
    exact fun w1 h => ⟨b31, by rw [enc_ok hZ]; exact p31, zz45, h.below, zz52⟩
end Go.Proofs.YtgnablliekgbgaaDoor
namespace Go.Proofs.YtgnablliekgbgaaDoor
open Go Go.PL Go.RowKit
theorem headF_le (xs : List UInt8) : (headF xs).2.1 ≤ 5 ∧ (headF xs).2.1 ≤ xs.length ∧ (headF xs).2.2.1 < 16777216 ∧ ((headF xs).2.2.2 = true → 2 ≤ (headF xs).2.1) := by
  unfold headF
  have hb := (xs.getD 1 0).toNat_lt
  by_cases h1 : xs.length < 2 ∨ xs.getD 0 0 = 0
  · rw [if_pos h1]; exact ⟨zz19, Nat.zero_le _, zz19, fun h => by cases h⟩
  · rw [if_neg h1]
    by_cases h2 : (xs.getD 1 0).toNat < 128
    · rw [if_pos h2]; exact ⟨by show 2 ≤ 5; omega, by show 2 ≤ _; omega, by show (xs.getD 1 0).toNat < _; omega, fun _ => Nat.le_refl _⟩
    · rw [if_neg h2]
      by_cases h3 : (xs.getD 1 0).toNat - 128 < 1 ∨ 3 < (xs.getD 1 0).toNat - 128 ∨ xs.length < 2 + ((xs.getD 1 0).toNat - 128)
      · rw [if_pos h3]; exact ⟨zz19, Nat.zero_le _, zz19, fun h => by cases h⟩
      · rw [if_neg h3]
        split
        · exact ⟨zz19, Nat.zero_le _, zz19, fun h => by cases h⟩
        · have q := numOf_24 (xs := xs.drop 2) (i := (xs.getD 1 0).toNat - 128) zz38 zz12
          exact ⟨by show 2 + ((xs.getD 1 0).toNat - 128) ≤ 5; omega, by show 2 + ((xs.getD 1 0).toNat - 128) ≤ _; omega, by dsimp only; exact q, fun _ => by show 2 ≤ 2 + ((xs.getD 1 0).toNat - 128); omega⟩
def kidsW (tk : List UInt8 → Option (Tr × Nat)) : Nat → List UInt8 → Option (List Tr)
  | 0, ys => if ys.isEmpty then some [] else none
  | k + 1, ys => if ys.isEmpty then some [] else (tk ys).bind fun r => (kidsW tk k (ys.drop r.2)).map (r.1 :: ·)
def takeF : Nat → List UInt8 → Option (Tr × Nat)
  | 0, _ => none
  | f + 1, xs => if (headF xs).2.2.2 = false ∨ xs.length < (headF xs).2.1 + (headF xs).2.2.1 then none
    else if (headF xs).1.toNat < 128 then some (.nd (headF xs).1 ((xs.drop (headF xs).2.1).take (headF xs).2.2.1) [], (headF xs).2.1 + (headF xs).2.2.1)
    else (kidsW (takeF f) (headF xs).2.2.1 ((xs.drop (headF xs).2.1).take (headF xs).2.2.1)).map fun l => (.nd (headF xs).1 [] l, (headF xs).2.1 + (headF xs).2.2.1)
theorem takeF_le {f : Nat} {xs : List UInt8} {t : Tr} {m : Nat} (h : takeF f xs = some (t, m)) : 2 ≤ m ∧ m ≤ xs.length := by
  cases f with
  | zero => cases h
  | succ f =>
    have hh := headF_le xs
    unfold takeF at h
    split at h
    · cases h
    · rename_i h1
      rw [not_or, Bool.not_eq_false] at h1
      have h2 := hh.2.2.2 h1.1
      split at h
      · cases h; omega
      · obtain ⟨l, _, e⟩ := Option.map_eq_some_iff.1 h
        cases e; omega
theorem kidsW_nil (tk : List UInt8 → Option (Tr × Nat)) : ∀ k, kidsW tk k [] = some []
  | 0 => rfl
  | _ + 1 => rfl
end Go.Proofs.YtgnablliekgbgaaDoor
namespace Go.Proofs.YtgnablliekgbgaaDoor
open Go Go.PL Go.RowKit
theorem kidsW_size {f : Nat} (ih : ∀ (xs : List UInt8) (t : Tr) (m : Nat), takeF f xs = some (t, m) → t.byt + 2 * t.cnt ≤ m ∧ t.dep ≤ f) : ∀ (k : Nat) (ys : List UInt8) (l : List Tr), kidsW (takeF f) k ys = some l → bytL l + 2 * cntL l ≤ ys.length ∧ depL l ≤ f
  | 0, ys, l, h => by
    unfold kidsW at h
    split at h
    · cases h; exact ⟨Nat.zero_le _, Nat.zero_le _⟩
    · cases h
  | k + 1, ys, l, h => by
    unfold kidsW at h
    split at h
    · cases h; exact ⟨Nat.zero_le _, Nat.zero_le _⟩
    · obtain ⟨⟨t, m⟩, h1, h2⟩ := Option.bind_eq_some_iff.1 h
      obtain ⟨l2, h3, rfl⟩ := Option.map_eq_some_iff.1 h2
      have a := ih _ _ _ h1
      have b := kidsW_size ih k _ _ h3
      have c := takeF_le h1
      rw [List.length_drop] at b
      dsimp only at a b c ⊢
      rw [bytL, cntL, depL]
      omega
theorem takeF_size : ∀ (f : Nat) (xs : List UInt8) (t : Tr) (m : Nat), takeF f xs = some (t, m) → t.byt + 2 * t.cnt ≤ m ∧ t.dep ≤ f
  | 0, xs, t, m, h => by cases h
  | f + 1, xs, t, m, h => by
    have hh := headF_le xs
    unfold takeF at h
    split at h
    · cases h
    · rename_i h1
      rw [not_or, Bool.not_eq_false] at h1
      have h2 := hh.2.2.2 h1.1
      split at h
      · cases h
        have e : ((xs.drop (headF xs).2.1).take (headF xs).2.2.1).length ≤ (headF xs).2.2.1 := by rw [List.length_take]; omega
        refine ⟨?_, ?_⟩
        · rw [Tr.byt, Tr.cnt, bytL, cntL]; omega
        · rw [Tr.dep, depL]; omega
      · obtain ⟨l, h3, e⟩ := Option.map_eq_some_iff.1 h
        cases e
        have b := kidsW_size (takeF_size f) _ _ _ h3
        have e : ((xs.drop (headF xs).2.1).take (headF xs).2.2.1).length ≤ (headF xs).2.2.1 := by rw [List.length_take]; omega
        refine ⟨?_, ?_⟩
        · rw [Tr.byt, Tr.cnt, List.length_nil]; omega
        · rw [Tr.dep]; omega
def decF (xs : List UInt8) : Tr × Int :=
  if 65536 < xs.length then (Tr.z, 4) else match takeF 12 xs with
    | some (t, m) => if m = xs.length ∧ checkF t = 0 then (t, 0) else (Tr.z, 12)
    | none => (Tr.z, 12)
end Go.Proofs.YtgnablliekgbgaaDoor
namespace Go.Proofs.YtgnablliekgbgaaDoor
open Go Go.PL Go.RowKit
theorem of8_lt {n : Nat} (h : n < 256) : (of8 ((n : Nat) : Int)).toNat = n := by have := of8_toNat (n : Int); omega
theorem headF_k {g b : UInt8} {zs : List UInt8} {k n : Nat} (hg : g ≠ 0) (hb : b.toNat = 128 + k) (hk : 1 ≤ k) (hk3 : k ≤ 3) (hl : k ≤ zs.length) (hn : numOf (zs.take k) = n) (hw : wideF n = 1 + k) : headF (g :: b :: zs) = (g, 2 + k, n, true) := by
  have e : (List.getD (g :: b :: zs) 1 0).toNat - 128 = k := by show b.toNat - 128 = k; omega
  unfold headF
  rw [e, if_neg (by rintro (h | h); · have h : zs.length + 1 + 1 < 2 := h; omega
                    · exact hg h), if_neg (by show ¬ b.toNat < 128; omega), if_neg (by show ¬ (k < 1 ∨ 3 < k ∨ zs.length + 1 + 1 < 2 + k); omega), if_neg (by show ¬ wideF (numOf (zs.take k)) ≠ 1 + k; rw [hn, hw]; simp)]
  show (g, 2 + k, numOf (zs.take k), true) = _
  rw [hn]
theorem headF_enc {g : UInt8} (hg : g ≠ 0) {n : Nat} (h : n < 16777216) (ys : List UInt8) : headF (g :: (lenB n ++ ys)) = (g, 1 + (lenB n).length, n, true) := by
  have hw := wideF_eq h
  unfold lenB
  split
  · rename_i h1
    have e := of8_lt (n := n) zz12
    show headF (g :: of8 (n : Int) :: ys) = (g, 2, n, true)
    unfold headF
    rw [if_neg (by rintro (h | h); · have h : ys.length + 1 + 1 < 2 := h; omega
                   · exact hg h), if_pos (by show (of8 (n : Int)).toNat < 128; omega)]
    show (g, 2, (of8 (n : Int)).toNat, true) = _
    rw [e]
  · rename_i h1
    rw [if_neg h1] at hw
    split
    · rename_i h2
      rw [if_pos h2] at hw
      refine headF_k (k := 1) (b := 129) (zs := of8 (n : Int) :: ys) hg rfl zz12 zz12 zz40 ?_ hw
      show 256 * 0 + (of8 (n : Int)).toNat = n
      rw [of8_lt h2]; omega
    · rename_i h2
      rw [if_neg h2] at hw
      split
      · rename_i h3
        rw [if_pos h3] at hw
        refine headF_k (k := 2) (b := 130) (zs := of8 ((n / 256 : Nat) : Int) :: of8 ((n % 256 : Nat) : Int) :: ys) hg rfl zz12 zz12 zz40 ?_ hw
        show 256 * (256 * 0 + (of8 ((n / 256 : Nat) : Int)).toNat) + (of8 ((n % 256 : Nat) : Int)).toNat = n
        rw [of8_lt zz12, of8_lt zz12]; omega
      · rename_i h3
        rw [if_neg h3] at hw
        refine headF_k (k := 3) (b := 131) (zs := of8 ((n / 65536 : Nat) : Int) :: of8 ((n / 256 % 256 : Nat) : Int) :: of8 ((n % 256 : Nat) : Int) :: ys) hg rfl zz12 zz12 zz40 ?_ hw
        show 256 * (256 * (256 * 0 + (of8 ((n / 65536 : Nat) : Int)).toNat) + (of8 ((n / 256 % 256 : Nat) : Int)).toNat) + (of8 ((n % 256 : Nat) : Int)).toNat = n
        rw [of8_lt zz12, of8_lt zz12, of8_lt zz12]; omega
theorem encL_len {g : UInt8} {bs : List UInt8} {l : List Tr} (h : Sm (.nd g bs l)) : (encL l).length = sizL l := by
  have h1 := enc_len _ h
  have hc := content_le h
  rw [enc, List.length_cons, List.length_append, List.length_append, lenB_length zz12, Tr.siz] at h1
  omega
theorem enc_pos (t : Tr) : 1 ≤ (enc t).length := by cases t; rw [enc, List.length_cons]; omega
theorem kids_enc {f : Nat} {l : List Tr} (ih : ∀ x ∈ l, ∀ rest, takeF f (enc x ++ rest) = some (x, (enc x).length)) : ∀ (m : List Tr), (∀ x ∈ m, x ∈ l) → ∀ k, (encL m).length ≤ k → kidsW (takeF f) k (encL m) = some m
  | [], _, k, _ => kidsW_nil _ k
  | x :: m, hm, k, hk => by
    have hp := enc_pos x
    rw [encL, List.length_append] at hk
    obtain ⟨j, rfl⟩ : ∃ j, k = j + 1 := ⟨k - 1, zz12⟩
    rw [encL, kidsW, if_neg, ih x (hm x (List.mem_cons_self ..))]
    · show (kidsW (takeF f) j ((enc x ++ encL m).drop (enc x).length)).map (x :: ·) = _
      rw [List.drop_left, kids_enc ih m (fun y hy => hm y (List.mem_cons_of_mem _ hy)) j zz12]; rfl
    · intro he
      rw [List.isEmpty_iff] at he
      have := congrArg List.length he
      rw [List.length_append, List.length_nil] at this
      omega
theorem shpL_mem {l : List Tr} (h : shpL l = true) : ∀ x ∈ l, x.shp = true := by
  induction l with
  | nil => intro x hx; cases hx
  | cons y l ih =>
    rw [shpL, Bool.and_eq_true] at h
    intro x hx
    rcases List.mem_cons.1 hx with rfl | hx
    · exact h.1
    · exact ih h.2 x hx
theorem depL_mem {l : List Tr} : ∀ x ∈ l, x.dep ≤ depL l := by
  induction l with
  | nil => intro x hx; cases hx
  | cons y l ih =>
    intro x hx
    rw [depL]
    rcases List.mem_cons.1 hx with rfl | hx
    · omega
    · have := ih x hx; omega
theorem take_enc : ∀ t : Tr, Sm t → t.shp = true → ∀ (f : Nat) (rest : List UInt8), t.dep ≤ f → takeF f (enc t ++ rest) = some (t, (enc t).length) := by
  intro t
  induction t using Tr.ind with
  | _ g bs l ih =>
    intro hs hp f rest hd
    rw [Tr.dep] at hd
    obtain ⟨f, rfl⟩ : ∃ f2, f = f2 + 1 := ⟨f - 1, zz12⟩
    have hc := content_le hs
    have hel := encL_len hs
    rw [Tr.shp, Bool.and_eq_true, Bool.not_eq_true', badT, Bool.or_eq_false_iff, Bool.or_eq_false_iff, Bool.and_eq_false_iff, Bool.and_eq_false_iff] at hp
    simp only [decide_eq_false_iff_not] at hp
    obtain ⟨⟨⟨hg, h1⟩, h2⟩, h3⟩ := hp
    have hlb := lenB_length (n := bs.length + sizL l) zz12
    have hx : enc (.nd g bs l) ++ rest = g :: (lenB (bs.length + sizL l) ++ ((bs ++ encL l) ++ rest)) := by rw [enc]; simp
    have hh := headF_enc hg (n := bs.length + sizL l) zz12 ((bs ++ encL l) ++ rest)
    have hlen : (enc (.nd g bs l)).length = 1 + (lenB (bs.length + sizL l)).length + (bs.length + sizL l) := by rw [enc, List.length_cons, List.length_append, List.length_append, hel]; omega
    have hdr : ((g :: (lenB (bs.length + sizL l) ++ ((bs ++ encL l) ++ rest))).drop (1 + (lenB (bs.length + sizL l)).length)).take (bs.length + sizL l) = bs ++ encL l := by
      rw [show g :: (lenB (bs.length + sizL l) ++ ((bs ++ encL l) ++ rest)) = (g :: lenB (bs.length + sizL l)) ++ ((bs ++ encL l) ++ rest) from rfl, List.drop_left' (by rw [List.length_cons]; omega), List.take_left' (by rw [List.length_append, hel])]
    rw [hx, takeF, hh]
    dsimp only
    rw [if_neg (by
      rintro (h | h)
      · cases h
      · simp only [List.length_cons, List.length_append, hel] at h; omega), hdr, hlen]
    by_cases h128 : g.toNat < 128
    · rw [if_pos h128]
      have hl0 : l = [] := List.eq_nil_of_length_eq_zero (by
        rcases h1 with h1 | h1
        · exact absurd (show g < 128 from h128) h1
        · omega)
      subst hl0
      rw [encL, List.append_nil]
    · rw [if_neg h128]
      have hb0 : bs = [] := List.eq_nil_of_length_eq_zero (by
        rcases h2 with h2 | h2
        · exact absurd (show (128 : UInt8) ≤ g from (by show (128 : Nat) ≤ g.toNat; omega)) h2
        · omega)
      subst hb0
      rw [List.nil_append, kids_enc (l := l) (fun x hx rest => ih x hx (hs.kidT hx) (shpL_mem h3 x hx) f rest (by have := depL_mem x hx; omega)) l (fun _ h => h) _ (by rw [hel]; simp)]
      rfl
end Go.Proofs.YtgnablliekgbgaaDoor
namespace Go.Proofs.YtgnablliekgbgaaDoor
open Go Go.PL Go.RowKit
theorem numK_numOf : ∀ (k : Nat) (ys : List UInt8), ys.length = k → numK k (numOf ys) = ys
  | 0, ys, h => by rw [List.eq_nil_of_length_eq_zero h]; rfl
  | k + 1, ys, h => by
    have h1 := numOf_take (bs := ys) (i := k) zz12
    have h2 := take_succD (0 : UInt8) (l := ys) (i := k) zz12
    rw [List.take_of_length_le zz12] at h1 h2
    have hb := (ys.getD k 0).toNat_lt
    have ih := numK_numOf k (ys.take k) (by rw [List.length_take]; omega)
    rw [numK, h1, show (256 * numOf (ys.take k) + (ys.getD k 0).toNat) / 256 = numOf (ys.take k) from zz12, ih, of8_mod]
    have e : of8 ((256 * numOf (ys.take k) + (ys.getD k 0).toNat : Nat) : Int) = ys.getD k 0 := by
      apply UInt8.toNat_inj.1
      have := of8_toNat ((256 * numOf (ys.take k) + (ys.getD k 0).toNat : Nat) : Int)
      omega
    rw [e, ← h2]
theorem headF_inv {xs : List UInt8} (h : (headF xs).2.2.2 = true) : (headF xs).1 ≠ 0 ∧ xs.take (headF xs).2.1 = (headF xs).1 :: lenB (headF xs).2.2.1 ∧ (headF xs).2.1 = 1 + (lenB (headF xs).2.2.1).length := by
  match xs with
  | [] => cases h
  | [a] => cases h
  | a :: b :: zs =>
    have hb := b.toNat_lt
    have q : headF (a :: b :: zs) = if (a :: b :: zs).length < 2 ∨ a = 0 then (0, 0, 0, false) else if b.toNat < 128 then (a, 2, b.toNat, true) else if b.toNat - 128 < 1 ∨ 3 < b.toNat - 128 ∨ (a :: b :: zs).length < 2 + (b.toNat - 128) then (0, 0, 0, false)
      else if wideF (numOf (zs.take (b.toNat - 128))) ≠ 1 + (b.toNat - 128) then (0, 0, 0, false) else (a, 2 + (b.toNat - 128), numOf (zs.take (b.toNat - 128)), true) := rfl
    by_cases h1 : (a :: b :: zs).length < 2 ∨ a = 0
    · rw [q, if_pos h1] at h; cases h
    · rw [if_neg h1] at q
      have ha : a ≠ 0 := fun e => h1 (.inr e)
      by_cases h2 : b.toNat < 128
      · rw [if_pos h2] at q
        rw [q]
        have e : lenB b.toNat = [b] := by
          rw [lenB, if_pos h2]
          congr 1
          apply UInt8.toNat_inj.1
          exact of8_lt zz12
        refine ⟨ha, ?_, ?_⟩
        · show [a, b] = a :: lenB b.toNat
          rw [e]
        · show 2 = 1 + (lenB b.toNat).length
          rw [e]; rfl
      · rw [if_neg h2] at q
        by_cases h3 : b.toNat - 128 < 1 ∨ 3 < b.toNat - 128 ∨ (a :: b :: zs).length < 2 + (b.toNat - 128)
        · rw [q, if_pos h3] at h; cases h
        · rw [if_neg h3] at q
          by_cases h4 : wideF (numOf (zs.take (b.toNat - 128))) ≠ 1 + (b.toNat - 128)
          · rw [q, if_pos h4] at h; cases h
          · rw [if_neg h4] at q
            rw [q]
            have h4 : wideF (numOf (zs.take (b.toNat - 128))) = 1 + (b.toNat - 128) := Decidable.not_not.1 h4
            have hl : (zs.take (b.toNat - 128)).length = b.toNat - 128 := by
              rw [List.length_take]
              have : ¬ (zs.length + 1 + 1 < 2 + (b.toNat - 128)) := fun h => h3 (.inr (.inr h))
              omega
            have hn := numOf_24 (xs := zs) (i := b.toNat - 128) (by rw [List.length_take] at hl; omega) zz12
            have h128 : ¬ numOf (zs.take (b.toNat - 128)) < 128 := fun h => by
              have := wide_1 h
              omega
            have hk : kB (numOf (zs.take (b.toNat - 128))) = b.toNat - 128 := by
              have := wide_k h128
              omega
            have e : lenB (numOf (zs.take (b.toNat - 128))) = b :: zs.take (b.toNat - 128) := by
              have eb : of8 ((128 + (b.toNat - 128) : Nat) : Int) = b := UInt8.toNat_inj.1 (by rw [of8_lt zz12]; omega)
              rw [lenB_num hn, if_neg h128, hk, numK_numOf _ _ hl, eb]
            refine ⟨ha, ?_, ?_⟩
            · show (a :: b :: zs).take (2 + (b.toNat - 128)) = a :: lenB _
              rw [e, show 2 + (b.toNat - 128) = (b.toNat - 128) + 1 + 1 from zz12]; rfl
            · show 2 + (b.toNat - 128) = 1 + (lenB _).length
              rw [e, List.length_cons, hl]; omega
theorem sm_of {t : Tr} {m : Nat} (h : t.byt + 2 * t.cnt ≤ m) (hm : m ≤ 70000) : Sm t := by unfold Sm; omega
theorem kids_inv {f : Nat} (ih : ∀ (xs : List UInt8) (t : Tr) (m : Nat), xs.length ≤ 70000 → takeF f xs = some (t, m) → xs.take m = enc t ∧ t.shp = true) : ∀ (k : Nat) (ys : List UInt8) (l : List Tr), ys.length ≤ 70000 → kidsW (takeF f) k ys = some l → ys = encL l ∧ shpL l = true
  | 0, ys, l, _, h => by
    unfold kidsW at h
    split at h
    · rename_i he
      cases h
      exact ⟨List.isEmpty_iff.1 he, rfl⟩
    · cases h
  | k + 1, ys, l, hl, h => by
    unfold kidsW at h
    split at h
    · rename_i he
      cases h
      exact ⟨List.isEmpty_iff.1 he, rfl⟩
    · obtain ⟨⟨t, m⟩, h1, h2⟩ := Option.bind_eq_some_iff.1 h
      obtain ⟨l2, h3, rfl⟩ := Option.map_eq_some_iff.1 h2
      obtain ⟨a1, a2⟩ := ih _ _ _ hl h1
      obtain ⟨b1, b2⟩ := kids_inv ih k _ _ zz38 h3
      dsimp only at a1 a2 b1 b2 ⊢
      refine ⟨?_, ?_⟩
      · rw [encL, ← a1, ← b1, List.take_append_drop]
      · rw [shpL, a2, b2]; rfl
theorem take_inv : ∀ (f : Nat) (xs : List UInt8) (t : Tr) (m : Nat), xs.length ≤ 70000 → takeF f xs = some (t, m) → xs.take m = enc t ∧ t.shp = true
  | 0, xs, t, m, _, h => by cases h
  | f + 1, xs, t, m, hl, h => by
    have hsz := takeF_size _ _ _ _ h
    have hle := takeF_le h
    have hsm := sm_of hsz.1 zz12
    unfold takeF at h
    split at h
    · cases h
    · rename_i h1
      rw [not_or, Bool.not_eq_false] at h1
      obtain ⟨k1, k2, k3⟩ := headF_inv h1.1
      have hseg : ((xs.drop (headF xs).2.1).take (headF xs).2.2.1).length = (headF xs).2.2.1 := by rw [List.length_take, List.length_drop]; omega
      have htk : xs.take ((headF xs).2.1 + (headF xs).2.2.1) = (headF xs).1 :: (lenB (headF xs).2.2.1 ++ (xs.drop (headF xs).2.1).take (headF xs).2.2.1) := by
        rw [List.take_add, k2]; rfl
      split at h
      · rename_i h128
        cases h
        refine ⟨?_, ?_⟩
        · rw [htk, enc, encL, sizL, Nat.add_zero, hseg, List.append_nil]
        · rw [Tr.shp, badT, shpL]
          simp only [List.length_nil, Bool.and_true, Bool.not_eq_true', Bool.or_eq_false_iff, Bool.and_eq_false_iff, decide_eq_false_iff_not]
          refine ⟨⟨k1, .inr zz12⟩, .inl ?_⟩
          intro hh
          have hh : (128 : Nat) ≤ (headF xs).1.toNat := hh
          omega
      · rename_i h128
        obtain ⟨l, h3, e⟩ := Option.map_eq_some_iff.1 h
        cases e
        obtain ⟨b1, b2⟩ := kids_inv (take_inv f) _ _ _ (by rw [hseg]; omega) h3
        have hel := encL_len hsm
        rw [← b1, hseg] at hel
        refine ⟨?_, ?_⟩
        · rw [htk, enc, ← b1, List.nil_append, List.length_nil, Nat.zero_add, ← hel]
        · rw [Tr.shp, badT, b2]
          simp only [List.length_nil, Bool.and_true, Bool.not_eq_true', Bool.or_eq_false_iff, Bool.and_eq_false_iff, decide_eq_false_iff_not]
          exact ⟨⟨k1, .inl (fun hh => h128 hh)⟩, .inr zz12⟩
end Go.Proofs.YtgnablliekgbgaaDoor
namespace Go.Proofs.YtgnablliekgbgaaDoor
open Go Go.PL Go.RowKit
def chainX : List PanicEntry := [{ v := (Value.iface 112 (.agg #[])), recovered := false }]
def GivesX {ι : Type} (w : World) (M1 : List Ent) (p : ι → Prop) (V : ι → Value) (N : ι → List Ent) (bad : Prop) (e : Ending) (w' : World) : Prop :=
  (∃ x, p x ∧ e = .returned (V x) ∧ Mem w (nums M1) (N x) [] w') ∨ (bad ∧ e = .panicked chainX ∧ Mem w (nums M1) [] [] w')
class OutX (Q : Exit → Act → World → Prop) (ds : List Deferred) (w0 : World) (Ln : List Nat) (bad : outParam Prop) : Prop where
  out : ∀ a w, a.defers = ds → bad → Mem w0 Ln [] [] w → Q (.panic chainX) a w
section
variable {P : Program} {n : Cx} {R : World → Prop} {L : Slots} {Q : Exit → Act → World → Prop} {w0 : World} {Ln : List Nat} {M : List Ent} {S : List Fact} {bad bad1 : Prop} {ops : Array Oper} {rest : List Oper}
instance outX_then {K : Act → World → Prop} {ds : List Deferred} [h : OutX Q ds w0 Ln bad] : OutX (Exit.then K Q) ds w0 Ln bad := ⟨fun a w e hb hm => h.out a w e hb hm⟩
instance outX_block {id : Nat} {ds : List Deferred} [h : OutX Q ds w0 Ln bad] : OutX (Exit.inBlock id Q) ds w0 Ln bad := ⟨fun a w e hb hm => h.out a w e hb hm⟩
instance outX_body {fn : Func} {ι : Type} {M1 : List Ent} {p : ι → Prop} {V : ι → Value} {N : ι → List Ent} : OutX (bodyPost P fn (GivesX w0 M1 p V N bad)) [] w0 (nums M1) bad := ⟨fun a w e hb hm => ⟨e, .inr ⟨hb, rfl, hm⟩⟩⟩
theorem t_callX {k : FuncId} {args : Array Operand} {at_ : Array TypeId} {vs : List Value} {ι : Type} {p : ι → Prop} {V : ι → Value} {N : ι → List Ent} (M1 X A : List Ent) (Z : ι → List Ent) (hA : M1 ++ X = A) [hM : SelC A M] (hZ : ∀ x, p x → (N x ++ X).Perm (Z x)) (hb : HasBody P k) (hv : evs L args.toList = some vs)
    (hc : ∀ w, Mem w0 Ln M S w → Mem w (nums M1) M1 [] w → Calls P k vs.toArray w (GivesX w M1 p V N bad1)) [hO : OutX Q n.ds w0 Ln bad] (hbad : bad1 → bad) :
    TOpP P Q n (Mem w0 Ln M S) L (.call { callee := .value (.func k), args := args, argTypes := at_ }) ι p V (fun x => Mem w0 Ln (Z x) S) := by
  have h : TOp P Q n (Mem w0 Ln M S) L (.call { callee := .value (.func k), args := args, argTypes := at_ }) { x : ι // p x } (fun x => V x.1) (fun x => Mem w0 Ln (Z x.1) S) := by
    intro d ty pos af g a w K hs hm0 hk
    subst hA
    have hm := hm0.selP hM.h
    have hargs : args.map a.eval = vs.toArray := by
      have e : (args.map a.eval).toList = vs := by rw [Array.toList_map]; exact evs_eval hs hv
      rw [← e]
    have hrun : (execOp a.eval ⟨d, .call { callee := .value (.func k), args := args, argTypes := at_ }, ty, pos, af, g⟩).run P w = .ok (.enter k vs.toArray) w := by
      have hf : ev L (.func k) = some (.func (.func k) #[] #[]) := rfl
      simp only [execOp, resolve, hs.eval hf, hargs]
      simp [Deferred.ofValue, invoke, run_callFunc hb]
    unfold Oper.wp
    rw [hrun]
    refine (hc w hm0 (Mem.startL w (fun e he => hm.own e (List.mem_append_left _ he)) (List.pairwise_append.1 hm.apart).1)).mono ?_
    rintro e w' (⟨x, hp, rfl, h⟩ | ⟨hb1, rfl, h⟩)
    · exact hk ⟨x, hp⟩ w' ((((hm.perm List.perm_append_comm).framedS h).perm List.perm_append_comm).perm (hZ x hp))
    · exact hO.out a w' hs.defers (hbad hb1) (((hm.perm List.perm_append_comm).framedS h).sub .nil .nil)
  exact h.rep fun x w h => ⟨x.1, x.2, rfl, h⟩
theorem wpl_panicX {x : Operand} {ty : TypeId} {pos : String} {af : Array Edge} (hx : ev L x = some (Value.iface 112 (.agg #[]))) [hO : OutX Q n.ds w0 Ln bad] (hb : bad) : WPL P ops Q n (Mem w0 Ln M S) L (⟨none, .panic x, ty, pos, af, none⟩ :: rest) := by
  intro a w hs hr
  unfold wpList
  simp only [Region.wanted, if_true]
  have hrun : (execOp a.eval ⟨none, .panic x, ty, pos, af, none⟩).run P w = .halt (.panic (Value.iface 112 (.agg #[]))) w := by
    simp only [execOp, hs.eval hx]
    simp [Instr.panic, Sem.run_bind, Result.andThen]
  unfold Oper.wp
  rw [hrun]
  exact .inl (hO.out a w hs.defers hb (hr.sub .nil .nil))
end
end Go.Proofs.YtgnablliekgbgaaDoor
namespace Go.Proofs.YtgnablliekgbgaaDoor
open Go Go.PL Go.RowKit
def Tr.kl : Tr → List Tr | .nd _ _ l => l
def lenP (ys : List UInt8) : Option (Nat × Nat) :=
  if ys.length < 1 then none
  else if (ys.getD 0 0).toNat < 128 then some ((ys.getD 0 0).toNat, 1)
  else if (ys.getD 0 0).toNat < 129 ∨ 131 < (ys.getD 0 0).toNat ∨ ys.length < 1 + ((ys.getD 0 0).toNat - 128) then none
  else if wideF (numOf ((ys.drop 1).take ((ys.getD 0 0).toNat - 128))) ≠ (ys.getD 0 0).toNat - 127 then none
  else some (numOf ((ys.drop 1).take ((ys.getD 0 0).toNat - 128)), 1 + ((ys.getD 0 0).toNat - 128))
theorem lenP_le {ys : List UInt8} {r : Nat × Nat} (h : lenP ys = some r) : 1 ≤ r.2 ∧ r.2 ≤ 4 ∧ r.2 ≤ ys.length ∧ r.1 < 16777216 := by
  unfold lenP at h
  by_cases h1 : ys.length < 1
  · rw [if_pos h1] at h; cases h
  · rw [if_neg h1] at h
    by_cases h2 : (ys.getD 0 0).toNat < 128
    · rw [if_pos h2] at h; cases h; exact ⟨Nat.le_refl _, by show 1 ≤ 4; omega, by show 1 ≤ _; omega, by show (ys.getD 0 0).toNat < _; omega⟩
    · rw [if_neg h2] at h
      by_cases h3 : (ys.getD 0 0).toNat < 129 ∨ 131 < (ys.getD 0 0).toNat ∨ ys.length < 1 + ((ys.getD 0 0).toNat - 128)
      · rw [if_pos h3] at h; cases h
      · rw [if_neg h3] at h
        split at h
        · cases h
        · have q := numOf_24 (xs := ys.drop 1) (i := (ys.getD 0 0).toNat - 128) zz38 zz12
          obtain rfl := Option.some.inj h
          exact ⟨by dsimp only; omega, by dsimp only; omega, by dsimp only; omega, by dsimp only; exact q⟩
theorem headF_lenP (xs : List UInt8) : headF xs = if xs.length < 1 ∨ xs.getD 0 0 = 0 then (0, 0, 0, false) else match lenP (xs.drop 1) with
    | none => (0, 0, 0, false)
    | some r => (xs.getD 0 0, 1 + r.2, r.1, true) := by
  have e1 : (xs.drop 1).getD 0 0 = xs.getD 1 0 := getD_dropU xs 1 0
  have e2 : (xs.drop 1).length = xs.length - 1 := List.length_drop
  have e3 : (xs.drop 1).drop 1 = xs.drop 2 := List.drop_drop
  unfold headF lenP
  rw [e1, e2, e3]
  by_cases h0 : xs.length < 1 ∨ xs.getD 0 0 = 0
  · rw [if_pos h0, if_pos (by rcases h0 with h | h; · exact .inl zz12
                              · exact .inr h)]
  · rw [if_neg h0]
    rw [not_or] at h0
    by_cases h1 : xs.length < 2
    · rw [if_pos (.inl h1), if_pos (show xs.length - 1 < 1 from zz12)]
    · rw [if_neg (by rintro (h | h); · exact h1 h
                     · exact h0.2 h), if_neg (show ¬ xs.length - 1 < 1 from zz12)]
      by_cases h2 : (xs.getD 1 0).toNat < 128
      · rw [if_pos h2, if_pos h2]; rfl
      · rw [if_neg h2, if_neg h2]
        by_cases h3 : (xs.getD 1 0).toNat - 128 < 1 ∨ 3 < (xs.getD 1 0).toNat - 128 ∨ xs.length < 2 + ((xs.getD 1 0).toNat - 128)
        · rw [if_pos h3, if_pos (show ((xs.getD 1 0).toNat < 129 ∨ 131 < (xs.getD 1 0).toNat ∨ xs.length - 1 < 1 + ((xs.getD 1 0).toNat - 128)) from zz12)]
        · rw [if_neg h3, if_neg (show ¬ ((xs.getD 1 0).toNat < 129 ∨ 131 < (xs.getD 1 0).toNat ∨ xs.length - 1 < 1 + ((xs.getD 1 0).toNat - 128)) from zz12), show 1 + ((xs.getD 1 0).toNat - 128) = (xs.getD 1 0).toNat - 127 from zz12]
          split
          · rfl
          · show (_, _, _, true) = (_, _, _, true)
            rw [show 2 + ((xs.getD 1 0).toNat - 128) = 1 + ((xs.getD 1 0).toNat - 127) from zz12]
def takeP : Nat → List UInt8 → Option (Tr × Nat)
  | 0, _ => none
  | f + 1, xs => if xs.length < 1 then none else match lenP (xs.drop 1) with
    | none => none
    | some r => if xs.length < 1 + r.2 + r.1 then none
      else if (xs.getD 0 0).toNat < 128 then some (.nd (xs.getD 0 0) ((xs.drop (1 + r.2)).take r.1) [], 1 + r.2 + r.1)
      else (kidsW (takeP f) r.1 ((xs.drop (1 + r.2)).take r.1)).map fun l => (.nd (xs.getD 0 0) [] l, 1 + r.2 + r.1)
theorem kidsW_imp {tk tk2 : List UInt8 → Option (Tr × Nat)} (h : ∀ xs t m, tk xs = some (t, m) → tk2 xs = some (t, m)) : ∀ (k : Nat) (ys : List UInt8) (l : List Tr), kidsW tk k ys = some l → kidsW tk2 k ys = some l
  | 0, ys, l, e => by unfold kidsW at e ⊢; exact e
  | k + 1, ys, l, e => by
    unfold kidsW at e ⊢
    split at e
    · rw [if_pos ‹_›]; exact e
    · rw [if_neg ‹_›]
      obtain ⟨⟨t, m⟩, h1, h2⟩ := Option.bind_eq_some_iff.1 e
      obtain ⟨l2, h3, rfl⟩ := Option.map_eq_some_iff.1 h2
      rw [h _ _ _ h1]
      show (kidsW tk2 k _).map _ = _
      rw [kidsW_imp h k _ _ h3]; rfl
theorem kidsW_impS {tk tk2 : List UInt8 → Option (Tr × Nat)} (h : ∀ xs t m, tk xs = some (t, m) → t.shp = true → tk2 xs = some (t, m)) : ∀ (k : Nat) (ys : List UInt8) (l : List Tr), kidsW tk k ys = some l → shpL l = true → kidsW tk2 k ys = some l
  | 0, ys, l, e, _ => by unfold kidsW at e ⊢; exact e
  | k + 1, ys, l, e, hs => by
    unfold kidsW at e ⊢
    split at e
    · rw [if_pos ‹_›]; exact e
    · rw [if_neg ‹_›]
      obtain ⟨⟨t, m⟩, h1, h2⟩ := Option.bind_eq_some_iff.1 e
      obtain ⟨l2, h3, rfl⟩ := Option.map_eq_some_iff.1 h2
      rw [shpL, Bool.and_eq_true] at hs
      rw [h _ _ _ h1 hs.1]
      show (kidsW tk2 k _).map _ = _
      rw [kidsW_impS h k _ _ h3 hs.2]; rfl
theorem takeP_of : ∀ (f : Nat) (xs : List UInt8) (t : Tr) (m : Nat), takeF f xs = some (t, m) → takeP f xs = some (t, m)
  | 0, _, _, _, h => by cases h
  | f + 1, xs, t, m, h => by
    unfold takeF at h
    rw [headF_lenP xs] at h
    unfold takeP
    by_cases h0 : xs.length < 1 ∨ xs.getD 0 0 = 0
    · rw [if_pos h0] at h; simp at h
    · rw [if_neg h0] at h
      rw [not_or] at h0
      rw [if_neg h0.1]
      cases hl : lenP (xs.drop 1) with
      | none => rw [hl] at h; simp at h
      | some r =>
        rw [hl] at h
        dsimp only at h ⊢
        by_cases h2 : xs.length < 1 + r.2 + r.1
        · rw [if_pos (.inr h2)] at h; cases h
        · rw [if_neg (by rintro (h | h); · cases h
                         · exact h2 h)] at h
          rw [if_neg h2]
          by_cases h3 : (xs.getD 0 0).toNat < 128
          · rw [if_pos h3] at h ⊢; exact h
          · rw [if_neg h3] at h ⊢
            obtain ⟨l, h4, e⟩ := Option.map_eq_some_iff.1 h
            rw [kidsW_imp (takeP_of f) _ _ _ h4]; exact congrArg some e
theorem takeF_of : ∀ (f : Nat) (xs : List UInt8) (t : Tr) (m : Nat), takeP f xs = some (t, m) → t.shp = true → takeF f xs = some (t, m)
  | 0, _, _, _, h, _ => by cases h
  | f + 1, xs, t, m, h, hs => by
    unfold takeP at h
    unfold takeF
    by_cases h1 : xs.length < 1
    · rw [if_pos h1] at h; cases h
    · rw [if_neg h1] at h
      cases hl : lenP (xs.drop 1) with
      | none => rw [hl] at h; cases h
      | some r =>
        rw [hl] at h
        dsimp only at h
        have ht : t = .nd (xs.getD 0 0) t.bs t.kl := by
          by_cases h2 : xs.length < 1 + r.2 + r.1
          · rw [if_pos h2] at h; cases h
          · rw [if_neg h2] at h
            by_cases h3 : (xs.getD 0 0).toNat < 128
            · rw [if_pos h3] at h; cases h; rfl
            · rw [if_neg h3] at h
              obtain ⟨l, h4, e⟩ := Option.map_eq_some_iff.1 h
              cases e; rfl
        have hg : xs.getD 0 0 ≠ 0 := by
          intro e
          rw [ht, Tr.shp, badT, e] at hs
          simp at hs
        have hq : headF xs = (xs.getD 0 0, 1 + r.2, r.1, true) := by
          rw [headF_lenP xs, if_neg (by rintro (h | h); · exact h1 h
                                        · exact hg h), hl]
        rw [hq]
        dsimp only
        by_cases h2 : xs.length < 1 + r.2 + r.1
        · rw [if_pos h2] at h; cases h
        · rw [if_neg h2] at h
          rw [if_neg (by rintro (h | h); · cases h
                         · exact h2 h)]
          by_cases h3 : (xs.getD 0 0).toNat < 128
          · rw [if_pos h3] at h ⊢; exact h
          · rw [if_neg h3] at h ⊢
            obtain ⟨l, h4, e⟩ := Option.map_eq_some_iff.1 h
            cases e
            rw [Tr.shp, Bool.and_eq_true] at hs
            rw [kidsW_impS (takeF_of f) _ _ _ h4 hs.2]; rfl
theorem takeP_le {f : Nat} {xs : List UInt8} {t : Tr} {m : Nat} (h : takeP f xs = some (t, m)) : 2 ≤ m ∧ m ≤ xs.length := by
  cases f with
  | zero => cases h
  | succ f =>
    unfold takeP at h
    split at h
    · cases h
    · split at h
      · cases h
      · rename_i r hr
        have q := lenP_le hr
        rw [List.length_drop] at q
        split at h
        · cases h
        · split at h
          · cases h; omega
          · obtain ⟨l, _, e⟩ := Option.map_eq_some_iff.1 h
            cases e; omega
theorem kidsP_size {f : Nat} (ih : ∀ (xs : List UInt8) (t : Tr) (m : Nat), takeP f xs = some (t, m) → t.byt + 2 * t.cnt ≤ m ∧ t.dep ≤ f) : ∀ (k : Nat) (ys : List UInt8) (l : List Tr), kidsW (takeP f) k ys = some l → bytL l + 2 * cntL l ≤ ys.length ∧ depL l ≤ f
  | 0, ys, l, h => by
    unfold kidsW at h
    split at h
    · cases h; exact ⟨Nat.zero_le _, Nat.zero_le _⟩
    · cases h
  | k + 1, ys, l, h => by
    unfold kidsW at h
    split at h
    · cases h; exact ⟨Nat.zero_le _, Nat.zero_le _⟩
    · obtain ⟨⟨t, m⟩, h1, h2⟩ := Option.bind_eq_some_iff.1 h
      obtain ⟨l2, h3, rfl⟩ := Option.map_eq_some_iff.1 h2
      have a := ih _ _ _ h1
      have b := kidsP_size ih k _ _ h3
      have c := takeP_le h1
      rw [List.length_drop] at b
      dsimp only at a b c ⊢
      rw [bytL, cntL, depL]
      omega
theorem takeP_size : ∀ (f : Nat) (xs : List UInt8) (t : Tr) (m : Nat), takeP f xs = some (t, m) → t.byt + 2 * t.cnt ≤ m ∧ t.dep ≤ f
  | 0, xs, t, m, h => by cases h
  | f + 1, xs, t, m, h => by
    unfold takeP at h
    split at h
    · cases h
    · split at h
      · cases h
      · rename_i r hr
        have q := lenP_le hr
        rw [List.length_drop] at q
        have e : ((xs.drop (1 + r.2)).take r.1).length ≤ r.1 := by rw [List.length_take]; omega
        split at h
        · cases h
        · split at h
          · cases h
            refine ⟨?_, ?_⟩
            · rw [Tr.byt, Tr.cnt, bytL, cntL]; omega
            · rw [Tr.dep, depL]; omega
          · obtain ⟨l, h3, e2⟩ := Option.map_eq_some_iff.1 h
            cases e2
            have b := kidsP_size (takeP_size f) _ _ _ h3
            refine ⟨?_, ?_⟩
            · rw [Tr.byt, Tr.cnt, List.length_nil]; omega
            · rw [Tr.dep]; omega
def decP (xs : List UInt8) : Tr × Int :=
  if 65536 < xs.length then (Tr.z, 4) else match takeP 12 xs with
    | some (t, m) => if m = xs.length ∧ checkF t = 0 then (t, 0) else (Tr.z, 12)
    | none => (Tr.z, 12)
theorem decP_eq (xs : List UInt8) : decP xs = decF xs := by
  unfold decP decF
  split
  · rfl
  · cases hF : takeF 12 xs with
    | some r => rw [takeP_of 12 xs r.1 r.2 hF]
    | none =>
      dsimp only
      cases hP : takeP 12 xs with
      | none => rfl
      | some r =>
        dsimp only
        rw [if_neg]
        rintro ⟨_, h2⟩
        have hs : r.1.shp = true := by
          cases h : r.1.shp with
          | true => rfl
          | false =>
            unfold checkF at h2
            split at h2
            · cases h2
            · exact absurd h2 (by first | decide | (rw [if_pos h]; decide))
        rw [takeF_of 12 xs r.1 r.2 hP hs] at hF
        cases hF
def KG (tk : List UInt8 → Option (Tr × Nat)) (n : Nat) (seg : List UInt8) (ns : List HT) (c : Nat) : Prop := ∃ k, seg.length - c ≤ k ∧ kidsW tk n seg = (kidsW tk k (seg.drop c)).map (trs ns ++ ·)
section
variable {tk : List UInt8 → Option (Tr × Nat)}
theorem KG_start {seg : List UInt8} : KG tk seg.length seg [] 0 := ⟨seg.length, zz12, by
  rw [List.drop_zero]
  cases kidsW tk seg.length seg <;> rfl⟩
theorem KG_cons {n : Nat} {seg : List UInt8} {ns : List HT} {c : Nat} (h : KG tk n seg ns c) (hc : c < seg.length) : ∃ k, seg.length - c ≤ k + 1 ∧ kidsW tk n seg = ((tk (seg.drop c)).bind fun r => (kidsW tk k ((seg.drop c).drop r.2)).map (r.1 :: ·)).map (trs ns ++ ·) := by
  obtain ⟨k, h1, h2⟩ := h
  obtain ⟨j, rfl⟩ : ∃ j, k = j + 1 := ⟨k - 1, zz12⟩
  refine ⟨j, h1, ?_⟩
  rw [h2, kidsW, if_neg]
  intro he
  rw [List.isEmpty_iff] at he
  have := congrArg List.length he
  rw [List.length_drop] at this
  simp at this; omega
theorem KG_none {n : Nat} {seg : List UInt8} {ns : List HT} {c : Nat} (h : KG tk n seg ns c) (hc : c < seg.length) (ht : tk (seg.drop c) = none) : kidsW tk n seg = none := by
  obtain ⟨k, _, h2⟩ := KG_cons h hc
  rw [h2, ht]; rfl
theorem KG_some {n : Nat} {seg : List UInt8} {ns : List HT} {c m : Nat} {y : HT} (h : KG tk n seg ns c) (hc : c < seg.length) (ht : tk (seg.drop c) = some (y.tr, m)) (hm : 1 ≤ m) : KG tk n seg (ns ++ [y]) (c + m) := by
  obtain ⟨k, h1, h2⟩ := KG_cons h hc
  refine ⟨k, zz12, ?_⟩
  rw [h2, ht, trs_append]
  show ((kidsW tk k ((seg.drop c).drop m)).map (y.tr :: ·)).map _ = _
  rw [List.drop_drop]
  cases kidsW tk k (seg.drop (c + m)) with
  | none => rfl
  | some l =>
    show some (trs ns ++ (y.tr :: l)) = some ((trs ns ++ trs [y]) ++ l)
    rw [List.append_assoc]; rfl
theorem KG_end {n : Nat} {seg : List UInt8} {ns : List HT} {c : Nat} (h : KG tk n seg ns c) (hc : seg.length ≤ c) : kidsW tk n seg = some (trs ns) := by
  obtain ⟨k, _, h2⟩ := h
  rw [h2, List.drop_of_length_le hc, kidsW_nil]
  show some (trs ns ++ []) = some _
  rw [List.append_nil]
end
end Go.Proofs.YtgnablliekgbgaaDoor
namespace Go.Proofs.YtgnablliekgbgaaDoor
open Go Go.PL Go.RowKit
theorem cutA {r : Rd} {v : Value} {ys : List UInt8} (h : Seen r v ys.length 1 (v8s ys)) {a : Nat} (ha : a ≤ ys.length) : Seen r (slv v a ys.length 1) (ys.drop a).length 1 (v8s (ys.drop a)) := by
  have q := (h.slv8 a ys.length ha (Nat.le_refl _)).re8
  rw [List.take_of_length_le zz38] at q
  exact q
theorem cutB {r : Rd} {v : Value} {ys : List UInt8} (h : Seen r v ys.length 1 (v8s ys)) {a : Nat} (ha : a ≤ ys.length) : Seen r (slv v 0 a 1) (ys.take a).length 1 (v8s (ys.take a)) := by
  have q := (h.slv8 0 a (Nat.zero_le _) ha).re8
  rw [List.drop_zero, Nat.sub_zero] at q
  exact q
section
variable {P : Program} {n : Cx} {R : World → Prop} {L : Slots} {Q : Exit → Act → World → Prop} {w0 : World} {Ln : List Nat} {M : List Ent} {S : List Fact} {bad bad1 c : Prop}
def isIface : TypeDesc → Bool
  | .interface _ => true
  | _ => false
theorem q_mkI {t : TypeId} {x : Operand} {v : Value} {dd : TypeDesc} (hu : P.underlying t = some dd) (hd : isIface dd = false) (hx : ev L x = some v) : QOp P n R L (.makeInterface t x) (.iface t v) := by
  intro d ty pos af g a w hs _
  have e : (Instr.makeInterface t v).run P w = .ok (.iface t v) w := by
    cases dd <;> first | (cases hd; done) | (simp [Instr.makeInterface, run_underlying hu, Sem.run_bind, Result.andThen, pure])
  simp only [execOp, hs.eval hx]
  simp [e]
theorem Sel.self {α : Type} : ∀ l : List α, Sel l l
  | [] => .nil
  | _ :: l => .cons .here (Sel.self l)
theorem t_callX0 {k : FuncId} {args : Array Operand} {at_ : Array TypeId} {vs : List Value} (hb : HasBody P k) (hv : evs L args.toList = some vs)
    (hc : ∀ w, Calls P k vs.toArray w (GivesX w [] (fun _ : Unit => c) (fun _ => .tuple #[]) (fun _ => []) bad1)) [hO : OutX Q n.ds w0 Ln bad] (hbad : bad1 → bad) :
    TOpP P Q n (Mem w0 Ln M S) L (.call { callee := .value (.func k), args := args, argTypes := at_ }) Unit (fun _ => c) (fun _ => .tuple #[]) (fun _ => Mem w0 Ln M S) := by
  have : SelC M M := ⟨Sel.self M⟩
  exact t_callX [] M M (fun _ => M) rfl (fun _ _ => .refl _) hb hv (fun w _ _ => hc w) hbad
end
theorem lenP_1 {ys : List UInt8} (h : 1 ≤ ys.length) : (ys.take 1).getD 0 0 = ys.getD 0 0 := by
  cases ys with
  | nil => cases h
  | cons a l => rfl
theorem or_byte (a b : Nat) (h : b < 256) : a * 2 ^ 8 ||| b = 256 * a + b := by
  have := Nat.two_pow_add_eq_or_of_lt (i := 8) (b := b) zz12 a
  rw [Nat.mul_comm a, ← this]
theorem must (b : Bool) (w : World)   :
    Calls Tryd.prog 64 [.bool b].toArray w (GivesX w [] (fun _ : Unit => b = true) (fun _ => .tuple #[]) (fun _ => []) (b = false)) := by
  refine enter (m := 6) (R := Mem w (nums []) [] []) Tryd.func64 rfl rfl (Nat.le_of_ble_eq_true rfl) (Mem.start w) ?_
  refine wpc_seq <| wpc_region <| wpl_q (q_pure rfl) rfl <| wpl_q (q_pure rfl) rfl <| wpl_nil <| ex_then ?_
  refine wpc_cond rfl (fun hc3 => ?_) (fun hc3 => ?_)
  ·
   refine wpc_region ?_
   refine wpl_q (q_build (cs := []) rfl rfl) rfl ?_
   refine wpl_q (q_mkI Tryd.underlying112 rfl rfl) rfl ?_
   exact wpl_panicX rfl (by simpa using hc3)
  ·
   have hbt : b = true := by simpa using hc3
   refine wpc_skip ?_
   refine ret0 (.inr rfl) rfl ?_
   exact fun w1 h => Or.inl ⟨(), hbt, rfl, h⟩
theorem cut (b : Nat) (v : Value) (m : Nat) (n : Nat) (w : World) (hB : Mem w (nums [.blk b 116 [v]]) [.blk b 116 [v]] [] w) (sv : SV v m)  :
    Calls Tryd.prog 87 [.pointer (some ⟨b, 0, none⟩), .int .i64 ((n : Nat) : Int)].toArray w (GivesX w [.blk b 116 [v]] (fun _ : Unit => n ≤ m) (fun _ => slv v 0 n 1) (fun _ => [.blk b 116 [slv v n m 1]]) (m < n)) := by
  have lm := sv.le
  simp only [maxLen] at lm
  refine enter (m := 30) (R := Mem w (nums [.blk b 116 [v]]) [.blk b 116 [v]] []) Tryd.func87 rfl rfl (Nat.le_of_ble_eq_true rfl) hB ?_
  refine wpc_seq <| wpc_region <| wpl_q (q_pure rfl) rfl <| wpl_nil <| ex_then <| wpc_seq <| wpc_region <| wpl_q (q_pure rfl) rfl <| wpl_q (q_pure rfl) rfl <| wpl_q (q_pure rfl) rfl <| wpl_q (q_field Tryd.underlying116 rfl Tryd.ti34 rfl rfl _ rfl) rfl <| wpl_q (q_ld Tryd.underlying34 rfl rfl rfl) rfl ?_
  refine wpl_q (q_lenW Tryd.underlying34 rfl zz3) rfl ?_
  refine wpl_q (q_pure rfl) rfl ?_
  refine wpl_tp (t_callX0 Tryd.hb64 rfl (fun w => must _ w) (fun hb => by simp only [decide_eq_false_iff_not] at hb; omega)) rfl (fun b13 p13 => ?_)
  have hnm : n ≤ m := by simp only [decide_eq_true_eq] at p13; omega
  refine wpl_nil <| ex_then <| wpc_seq <| wpc_region <| wpl_q (q_pure rfl) rfl <| wpl_q (q_pure rfl) rfl <| wpl_q (q_field Tryd.underlying116 rfl Tryd.ti34 rfl rfl _ rfl) rfl <| wpl_q (q_ld Tryd.underlying34 rfl rfl rfl) rfl <| wpl_q (q_pure rfl) rfl ?_
  refine wpl_q (q_slWh Tryd.underlying34 Tryd.ti5 rfl rfl zz3 zz12) rfl ?_
  refine wpl_q (q_pure rfl) rfl <| wpl_nil <| ex_then <| wpc_seq <| wpc_region <| wpl_q (q_pure rfl) rfl <| wpl_q (q_pure rfl) rfl <| wpl_q (q_pure rfl) rfl <| wpl_q (q_field Tryd.underlying116 rfl Tryd.ti34 rfl rfl _ rfl) rfl <| wpl_q (q_ld Tryd.underlying34 rfl rfl rfl) rfl <| wpl_q (q_pure rfl) rfl ?_
  refine wpl_q (q_slWl Tryd.underlying34 Tryd.ti5 rfl rfl zz3 zz12) rfl ?_
  refine wpl_q (q_pure rfl) rfl <| wpl_q (q_field Tryd.underlying116 rfl Tryd.ti34 rfl rfl _ rfl) rfl ?_
  refine wpl_t0 (t_st1 Tryd.ti34 rfl rfl (SV.one zz3) zz6 _ rfl) (fun _ => ?_)
  refine wpl_nil <| ex_then <| wpc_seq <| wpc_region <| wpl_q (q_pure rfl) rfl <| wpl_q (q_pure rfl) rfl <| wpl_nil <| ex_then <| wpc_ret ?_
  refine ret1 (.inl rfl) rfl rfl ?_
  exact fun w1 h => Or.inl ⟨(), hnm, rfl, h⟩
theorem length (b : Nat) (v : Value) (ys : List UInt8) (w : World) (hB : Mem w (nums [.blk b 116 [v]]) [.blk b 116 [v]] [] w) (hs : Seen (rdO (nums [.blk b 116 [v]]) w) v ys.length 1 (v8s ys))  :
    Calls Tryd.prog 88 [.pointer (some ⟨b, 0, none⟩)].toArray w (GivesX w [.blk b 116 [v]] (fun x : Value × Nat × Nat => lenP ys = some x.2 ∧ ∀ r, Seen r v ys.length 1 (v8s ys) → Seen r x.1 (ys.drop x.2.2).length 1 (v8s (ys.drop x.2.2))) (fun x => .int .i64 ((x.2.1 : Nat) : Int)) (fun x => [.blk b 116 [x.1]]) (lenP ys = none)) := by
  have sv := hs.sv
  have lm := sv.le
  simp only [maxLen] at lm
  refine enter (m := 44) (R := Mem w (nums [.blk b 116 [v]]) [.blk b 116 [v]] []) Tryd.func88 rfl rfl (Nat.le_of_ble_eq_true rfl) hB ?_
  refine wpc_seq <| wpc_region <| wpl_q (q_pure rfl) rfl <| wpl_nil <| ex_then <| wpc_seq <| wpc_region <| wpl_q (q_pure rfl) rfl ?_
  refine wpl_tp (t_callX [.blk b 116 [v]] [] [.blk b 116 [v]] (fun _ => [.blk b 116 [(slv v 1 ys.length 1)]]) rfl (fun _ _ => .refl _) Tryd.hb87 rfl (fun w h h2 => cut b v ys.length 1 w h2 sv) (fun hb => by rw [lenP, if_pos hb])) rfl (fun b8 p8 => ?_)
  have hk1 := lenP_1 p8
  have sv1 : SV (slv v 1 ys.length 1) (ys.drop 1).length := (cutA hs p8).sv
  have sv0 : SV (slv v 0 1 1) 1 := sv.slv zz12 p8
  refine wpl_q (q_idxW1 (j := 0) Tryd.underlying34 Tryd.ti5 rfl rfl zz3 zz1) rfl ?_
  refine wpl_q (q_ldW Tryd.underlying5 rfl rfl (fun w h => cutB (hs.mono (rdo_old h)) p8) (v8s_get (xs := ys.take 1) (i := 0) (by rw [List.length_take]; omega))) rfl ?_
  refine wpl_re 10 rfl (congrArg (fun n : Nat => Value.int .u8 (n : Int)) (show ((ys.take 1).getD 0 0).toNat = (ys.getD 0 0).toNat by rw [hk1])) ?_
  refine wpl_q (q8_int Tryd.underlying5 Tryd.underlying3 rfl) rfl <| wpl_q (q_pure rfl) rfl <| wpl_nil <| ex_then <| wpc_seq <| wpc_seq <| wpc_region <| wpl_q (q_pure rfl) rfl <| wpl_q (q_pure rfl) rfl <| wpl_nil <| ex_then ?_
  refine wpc_cond rfl (fun hc13 => ?_) (fun hc13 => ?_)
  ·
   simp only [decide_eq_true_eq] at hc13
   have hR : lenP ys = some ((ys.getD 0 0).toNat, 1) := by rw [lenP, if_neg zz12, if_pos zz12]
   refine wpc_seq <| wpc_region <| wpl_q (q_pure rfl) rfl <| wpl_q (q_pure rfl) rfl <| wpl_nil <| ex_then <| wpc_ret ?_
   refine ex_then_ret ?_
   refine ret1 (.inl rfl) rfl rfl ?_
   exact fun w1 h => Or.inl ⟨((slv v 1 ys.length 1), (ys.getD 0 0).toNat, 1), ⟨hR, fun r q => cutA q p8⟩, rfl, h⟩
  ·
   simp only [decide_eq_false_iff_not] at hc13
   have hk := (ys.getD 0 0).toNat_lt
   refine wpc_skip <| ex_then <| wpc_seq <| wpc_region <| wpl_q (q_pure rfl) rfl <| wpl_q (q_pure rfl) rfl <| wpl_q (q_pure rfl) rfl ?_
   refine wpl_bool2 17 16 rfl rfl (fun hb17 => ?_) (fun hb17 => ?_)
   ·
    try simp only [decide_eq_true_eq] at hb17
    refine wpl_on rfl rfl <| wpl_q (q_pure rfl) rfl <| wpl_on rfl rfl <| wpl_q (q_pure rfl) rfl <| wpl_q (q_pure rfl) rfl ?_
    refine wpl_tp (t_callX0 Tryd.hb64 rfl (fun w => must _ w) (fun hb => by rw [lenP, if_neg zz12, if_neg zz12, if_pos (by first | (simp only [decide_eq_false_iff_not] at hb; omega) | omega)])) rfl (fun b21 p21 => ?_)
    simp only [decide_eq_true_eq] at p21
    refine wpl_nil <| ex_then <| wpc_seq <| wpc_region <| wpl_q (q_pure rfl) rfl <| wpl_nil <| ex_then <| wpc_seq <| wpc_seq <| wpc_region <| wpl_q (q_pure rfl) rfl <| wpl_q (q_pure rfl) rfl ?_
    refine wpl_q (q_subN (b := 128) rfl rfl zz12 zz1) rfl ?_
    refine wpl_tp (t_callX [.blk b 116 [(slv v 1 ys.length 1)]] [] [.blk b 116 [(slv v 1 ys.length 1)]] (fun _ => [.blk b 116 [slv (slv v 1 ys.length 1) ((ys.getD 0 0).toNat - 128) (ys.drop 1).length 1]]) rfl (fun _ _ => .refl _) Tryd.hb87 rfl (fun w h h2 => cut b (slv v 1 ys.length 1) (ys.drop 1).length ((ys.getD 0 0).toNat - 128) w h2 sv1) (fun hb => by rw [List.length_drop] at hb; rw [lenP, if_neg zz12, if_neg zz12, if_pos zz12])) rfl (fun b25 p25 => ?_)
    have hs2 := fun (r : Rd) (q : Seen r v ys.length 1 (v8s ys)) => cutB (cutA q p8) p25
    have hl2 : ((ys.drop 1).take ((ys.getD 0 0).toNat - 128)).length = (ys.getD 0 0).toNat - 128 := by rw [List.length_take]; omega
    have sv2 : SV (slv (slv v 1 ys.length 1) 0 ((ys.getD 0 0).toNat - 128) 1) ((ys.getD 0 0).toNat - 128) := sv1.slv zz12 p25
    have hp25 := p25
    rw [List.length_drop] at hp25
    refine wpl_q (q_lenW Tryd.underlying34 rfl zz3) rfl ?_
    refine wpl_q (q_pure rfl) rfl <| wpl_nil <| ex_then <| wpc_block ?_
    refine wpc_loopc (ι := { x : Nat // (x ≤ (ys.getD 0 0).toNat - 128) }) [(3, _), (25, _), (26, _)] (fun x Lc => (27, .int .i64 ((x.1 : Nat) : Int)) :: (4, .int .i64 ((numOf (((ys.drop 1).take ((ys.getD 0 0).toNat - 128)).take x.1) : Nat) : Int)) :: Lc) (fun x => Mem w (nums [.blk b 116 [v]]) [.blk b 116 [slv (slv v 1 ys.length 1) ((ys.getD 0 0).toNat - 128) (ys.drop 1).length 1]] []) (fun x => (ys.getD 0 0).toNat - 128 - x.1) ⟨0, (Nat.zero_le _)⟩ zz9 ?_ ?_
    ·
     exact fun w h => h
    ·
     rintro ⟨i, hi0⟩; try dsimp only
     have hi0 : i ≤ (ys.getD 0 0).toNat - 128 := hi0
     refine wpc_seq <| wpc_region <| wpl_q (q_pure rfl) rfl <| wpl_nil <| ex_then <| wpc_seq ?_
     refine wpc_cond rfl (fun hc28 => ?_) (fun hc28 => ?_)
     ·
      simp only [decide_eq_true_eq] at hc28
      have hil : i < ((ys.drop 1).take ((ys.getD 0 0).toNat - 128)).length := by omega
      have hn24 := numOf_24 (xs := ((ys.drop 1).take ((ys.getD 0 0).toNat - 128))) (i := i) zz12 zz12
      have hcb := (((ys.drop 1).take ((ys.getD 0 0).toNat - 128)).getD i 0).toNat_lt
      refine wpc_skip <| ex_then <| wpc_seq <| wpc_block <| wpc_seq <| wpc_region ?_
      refine wpl_q (q_idxW1 Tryd.underlying34 Tryd.ti5 rfl rfl zz3 zz1) rfl ?_
      refine wpl_q (q_ldW Tryd.underlying5 rfl rfl (fun w h => hs2 _ (hs.mono (rdo_old h))) (v8s_get hil)) rfl ?_
      refine wpl_q (q_pure rfl) rfl <| wpl_nil <| ex_then <| wpc_region <| wpl_q (q_pure rfl) rfl ?_
      refine wpl_q (q_shlN (b := 8) rfl rfl zz24 zz1) rfl ?_
      refine wpl_q (q_pure rfl) rfl <| wpl_q (q8_int Tryd.underlying5 Tryd.underlying3 rfl) rfl ?_
      refine wpl_q (q_orN rfl rfl zz1 zz1) rfl ?_
      refine wpl_re 35 rfl (congrArg (fun n : Nat => Value.int .i64 (n : Int)) (show numOf (((ys.drop 1).take ((ys.getD 0 0).toNat - 128)).take i) * 2 ^ 8 ||| (((ys.drop 1).take ((ys.getD 0 0).toNat - 128)).getD i 0).toNat = numOf (((ys.drop 1).take ((ys.getD 0 0).toNat - 128)).take (i + 1)) by rw [numOf_take hil]; exact or_byte _ _ (((ys.drop 1).take ((ys.getD 0 0).toNat - 128)).getD i 0).toNat_lt)) ?_
      refine wpl_q (q_pure rfl) rfl <| wpl_nil <| ex_block <| ex_then <| wpc_region ?_
      refine wpl_q (q_addN (b := 1) rfl rfl zz1) rfl ?_
      refine wpl_q (q_pure rfl) rfl <| wpl_nil ?_
      refine ex_again ⟨i + 1, zz12⟩ ?_ ?_ ?_
      ·
       exact zz9
      ·
       exact fun w h => h
      ·
       (show (ys.getD 0 0).toNat - 128 - (i + 1) < (ys.getD 0 0).toNat - 128 - i); omega
     ·
      simp only [decide_eq_false_iff_not] at hc28
      obtain rfl : i = (ys.getD 0 0).toNat - 128 := by omega
      have ht : ((ys.drop 1).take ((ys.getD 0 0).toNat - 128)).take ((ys.getD 0 0).toNat - 128) = ((ys.drop 1).take ((ys.getD 0 0).toNat - 128)) := List.take_of_length_le zz12
      rw [ht]
      have hn24 := numOf_24 (xs := ys.drop 1) (i := (ys.getD 0 0).toNat - 128) zz38 zz12
      refine wpc_exit ?_
      refine ex_then_exit ?_
      refine ex_then_exit ?_
      refine ex_block_hit ?_
      refine ex_then <| wpc_seq <| wpc_region <| wpl_q (q_pure rfl) rfl ?_
      refine wpl_t (t_pur (v := .int .i64 ((wideF (numOf ((ys.drop 1).take ((ys.getD 0 0).toNat - 128))) : Nat) : Int)) Tryd.hb77 rfl fun w h => wide (numOf ((ys.drop 1).take ((ys.getD 0 0).toNat - 128))) w zz12) rfl (fun b38 => ?_)
      refine wpl_q (q_pure rfl) rfl ?_
      refine wpl_q (q_subN (b := 127) rfl rfl zz12 zz1) rfl ?_
      refine wpl_q (q_pure rfl) rfl ?_
      refine wpl_tp (t_callX0 Tryd.hb64 rfl (fun w => must _ w) (fun hb => by rw [lenP, if_neg zz12, if_neg zz12, if_neg zz12, if_pos (by simp only [beq_eq_false_iff_ne, ne_eq] at hb; intro e; exact hb (by rw [e]))])) rfl (fun b42 p42 => ?_)
      have hw : wideF (numOf ((ys.drop 1).take ((ys.getD 0 0).toNat - 128))) = (ys.getD 0 0).toNat - 127 := by simp only [beq_iff_eq] at p42; omega
      have hR : lenP ys = some (numOf ((ys.drop 1).take ((ys.getD 0 0).toNat - 128)), 1 + ((ys.getD 0 0).toNat - 128)) := by rw [lenP, if_neg zz12, if_neg zz12, if_neg zz12, if_neg (fun hh => hh hw)]
      refine wpl_nil <| ex_then <| wpc_seq <| wpc_region <| wpl_q (q_pure rfl) rfl <| wpl_q (q_pure rfl) rfl <| wpl_nil <| ex_then <| wpc_ret ?_
      refine ret1 (.inl rfl) rfl rfl ?_
      exact fun w1 h => Or.inl ⟨(slv (slv v 1 ys.length 1) ((ys.getD 0 0).toNat - 128) (ys.drop 1).length 1, numOf ((ys.drop 1).take ((ys.getD 0 0).toNat - 128)), 1 + ((ys.getD 0 0).toNat - 128)), ⟨hR, fun r q => by have z := cutA (cutA q p8) p25; rw [List.drop_drop] at z; exact z⟩, rfl, h⟩
   ·
    try simp only [decide_eq_false_iff_not] at hb17
    refine wpl_off rfl rfl rfl rfl <| wpl_off rfl rfl rfl rfl <| wpl_q (q_pure rfl) rfl ?_
    refine wpl_tp (t_callX0 Tryd.hb64 rfl (fun w => must _ w) (fun hb => by rw [lenP, if_neg zz12, if_neg zz12, if_pos (by first | (simp only [decide_eq_false_iff_not] at hb; omega) | omega)])) rfl (fun b21 p21 => ?_)
    cases p21
end Go.Proofs.YtgnablliekgbgaaDoor
namespace Go.Proofs.YtgnablliekgbgaaDoor
open Go Go.PL Go.RowKit
section
variable {f : Nat} {ys : List UInt8} {r : Nat × Nat}
theorem tp_1 (h : ys.length < 1) : takeP f ys = none := by
  cases f with
  | zero => rfl
  | succ f => rw [takeP, if_pos h]
theorem tp_2 (h : lenP (ys.drop 1) = none) : takeP f ys = none := by
  cases f with
  | zero => rfl
  | succ f => rw [takeP, h]; split <;> rfl
theorem tp_3 (h : lenP (ys.drop 1) = some r) (h2 : ys.length < 1 + r.2 + r.1) : takeP f ys = none := by
  cases f with
  | zero => rfl
  | succ f =>
    rw [takeP, h]
    split
    · rfl
    · exact if_pos h2
theorem tp_4 (h0 : 1 ≤ ys.length) (h : lenP (ys.drop 1) = some r) (h2 : ¬ ys.length < 1 + r.2 + r.1) (h3 : (ys.getD 0 0).toNat < 128) : takeP (f + 1) ys = some (.nd (ys.getD 0 0) ((ys.drop (1 + r.2)).take r.1) [], 1 + r.2 + r.1) := by
  rw [takeP, if_neg zz12, h]
  exact (if_neg h2).trans (if_pos h3)
theorem tp_5 (h0 : 1 ≤ ys.length) (h : lenP (ys.drop 1) = some r) (h2 : ¬ ys.length < 1 + r.2 + r.1) (h3 : ¬ (ys.getD 0 0).toNat < 128) : takeP (f + 1) ys = (kidsW (takeP f) r.1 ((ys.drop (1 + r.2)).take r.1)).map fun l => (.nd (ys.getD 0 0) [] l, 1 + r.2 + r.1) := by
  rw [takeP, if_neg zz12, h]
  exact (if_neg h2).trans (if_neg h3)
end
instance (priority := 500) selC_refl {α : Type} {l : List α} : SelC l l := ⟨Sel.self l⟩
theorem Sel.skip {α : Type} {l m : List α} {y : α} (h : Sel l m) : Sel l (y :: m) := by
  induction h with
  | nil => exact .nil
  | cons hr _ ih => exact .cons (.there hr) ih
theorem Sel.sub {α : Type} {l m : List α} (h : Sub l m) : Sel l m := by
  induction h with
  | nil => exact .nil
  | keep _ ih => exact .cons .here ih
  | drop _ ih => exact Sel.skip ih
instance (priority := 300) selC_sub {α : Type} {l m : List α} [s : SubC l m] : SelC l m := ⟨Sel.sub s.h⟩
theorem built_rd {v : Value} {n : Nat} (hv : SV v n) : Tryd.prog.built 116 [(0, v)] = some [v].toArray := by
  obtain ⟨a, cap, rfl, _⟩ := hv
  kernel_rfl
theorem value_step (b : Nat) (v : Value) (ys : List UInt8) (d : Nat) (w : World) (hB : Mem w (nums [.blk b 116 [v]]) [.blk b 116 [v]] [] w) (hs : Seen (rdO (nums [.blk b 116 [v]]) w) v ys.length 1 (v8s ys)) (f : Nat) (hd : d + f = 13) (hyl : ys.length ≤ 70000) (ih : ∀ f2, f = f2 + 1 → ∀ (b : Nat) (v : Value) (ys : List UInt8) (w : World), Mem w (nums [.blk b 116 [v]]) [.blk b 116 [v]] [] w → Seen (rdO (nums [.blk b 116 [v]]) w) v ys.length 1 (v8s ys) → ys.length ≤ 70000 → Calls Tryd.prog 63 [.pointer (some ⟨b, 0, none⟩), .int .i64 ((d + 1 : Nat) : Int)].toArray w (GivesX w [.blk b 116 [v]] (fun x : HT × Value × Nat => takeP f2 ys = some (x.1.tr, x.2.2) ∧ x.1.sv ∧ ∀ r, Seen r v ys.length 1 (v8s ys) → Seen r x.2.1 (ys.drop x.2.2).length 1 (v8s (ys.drop x.2.2))) (fun x => .agg x.1.c.toArray) (fun x => .blk b 116 [x.2.1] :: x.1.ents) (takeP f2 ys = none))) :
    Calls Tryd.prog 63 [.pointer (some ⟨b, 0, none⟩), .int .i64 ((d : Nat) : Int)].toArray w (GivesX w [.blk b 116 [v]] (fun x : HT × Value × Nat => takeP f ys = some (x.1.tr, x.2.2) ∧ x.1.sv ∧ ∀ r, Seen r v ys.length 1 (v8s ys) → Seen r x.2.1 (ys.drop x.2.2).length 1 (v8s (ys.drop x.2.2))) (fun x => .agg x.1.c.toArray) (fun x => .blk b 116 [x.2.1] :: x.1.ents) (takeP f ys = none)) := by
  have sv := hs.sv
  have lm := sv.le
  simp only [maxLen] at lm
  refine enter (m := 46) (R := Mem w (nums [.blk b 116 [v]]) [.blk b 116 [v]] []) Tryd.func63 rfl rfl (Nat.le_of_ble_eq_true rfl) hB ?_
  refine wpc_seq <| wpc_region ?_
  refine wpl_t (t_alloc Tryd.ti61 HT.z.c rfl) rfl (fun b4 => ?_)
  refine wpl_nil <| ex_then <| wpc_seq <| wpc_region <| wpl_q (q_pure rfl) rfl <| wpl_q (q_pure rfl) rfl ?_
  refine wpl_tp (t_callX0 Tryd.hb64 rfl (fun w => must _ w) (fun hb => by simp only [decide_eq_false_iff_not] at hb; obtain rfl : f = 0 := zz12; rfl)) rfl (fun b10 p10 => ?_)
  obtain ⟨f2, rfl⟩ : ∃ f2, f = f2 + 1 := ⟨f - 1, by simp only [decide_eq_true_eq] at p10; omega⟩
  refine wpl_nil <| ex_then <| wpc_seq <| wpc_region <| wpl_q (q_pure rfl) rfl ?_
  refine wpl_tp (t_callX [.blk b 116 [v]] [.blk b4 61 HT.z.c] [.blk b 116 [v], .blk b4 61 HT.z.c] (fun _ => [.blk b 116 [(slv v 1 ys.length 1)], .blk b4 61 HT.z.c]) rfl (fun _ _ => .refl _) Tryd.hb87 rfl (fun w h h2 => cut b v ys.length 1 w h2 sv) (fun hb => tp_1 hb)) rfl (fun b12 p12 => ?_)
  have hk1 := lenP_1 p12
  have sv1 : SV (slv v 1 ys.length 1) (ys.drop 1).length := (cutA hs p12).sv
  have sv0 : SV (slv v 0 1 1) 1 := sv.slv zz12 p12
  refine wpl_q (q_idxW1 (j := 0) Tryd.underlying34 Tryd.ti5 rfl rfl zz3 zz1) rfl ?_
  refine wpl_q (q_ldW Tryd.underlying5 rfl rfl (fun w h => cutB (hs.mono (rdo_old h)) p12) (v8s_get (xs := ys.take 1) (i := 0) (by rw [List.length_take]; omega))) rfl ?_
  refine wpl_re 14 rfl (congrArg (fun n : Nat => Value.int .u8 (n : Int)) (show ((ys.take 1).getD 0 0).toNat = (ys.getD 0 0).toNat by rw [hk1])) ?_
  refine wpl_q (q_build (cs := [.int .u8 ((ys.getD 0 0).toNat : Int), nl, nl]) rfl (built_o0 (ys.getD 0 0))) rfl ?_
  refine wpl_t (t_alloc Tryd.ti61 HT.z.c rfl) rfl (fun b5 => ?_)
  refine wpl_t0 (t_stA Tryd.ti61 rfl rfl LenC.h OneC.h LenC.h) (fun _ => ?_)
  refine wpl_nil <| ex_then <| wpc_seq <| wpc_region <| wpl_q (q_pure rfl) rfl <| wpl_q (q_pure rfl) rfl ?_
  refine wpl_tp (t_callX [.blk b 116 [(slv v 1 ys.length 1)]] [.blk b5 61 [.int .u8 ((ys.getD 0 0).toNat : Int), nl, nl], .blk b4 61 HT.z.c] [.blk b 116 [(slv v 1 ys.length 1)], .blk b5 61 [.int .u8 ((ys.getD 0 0).toNat : Int), nl, nl], .blk b4 61 HT.z.c] (fun x => [.blk b 116 [x.1], .blk b5 61 [.int .u8 ((ys.getD 0 0).toNat : Int), nl, nl], .blk b4 61 HT.z.c]) rfl (fun _ _ => .refl _) Tryd.hb88 rfl (fun w h h2 => length b (slv v 1 ys.length 1) (ys.drop 1) w h2 ((cutA hs p12).mono (rdo_nums h zz4))) (fun hb => tp_2 hb)) rfl (fun b18 p18 => ?_)
  obtain ⟨u, n, m⟩ := b18
  dsimp only at p18 ⊢
  have hp := p18.1
  have hle := lenP_le hp
  dsimp only at hle
  have hU := fun (r : Rd) (q : Seen r v ys.length 1 (v8s ys)) => p18.2 r (cutA q p12)
  have svu := (hU _ hs).sv
  have hdl : (ys.drop 1).length = ys.length - 1 := List.length_drop
  have hzl : ((ys.drop 1).drop m).length = ys.length - 1 - m := by rw [List.length_drop, hdl]
  refine wpl_tp (t_callX [.blk b 116 [u]] [.blk b5 61 [.int .u8 ((ys.getD 0 0).toNat : Int), nl, nl], .blk b4 61 HT.z.c] [.blk b 116 [u], .blk b5 61 [.int .u8 ((ys.getD 0 0).toNat : Int), nl, nl], .blk b4 61 HT.z.c] (fun _ => [.blk b 116 [(slv u n ((ys.drop 1).drop m).length 1)], .blk b5 61 [.int .u8 ((ys.getD 0 0).toNat : Int), nl, nl], .blk b4 61 HT.z.c]) rfl (fun _ _ => .refl _) Tryd.hb87 rfl (fun w h h2 => cut b u ((ys.drop 1).drop m).length n w h2 svu) (fun hb => tp_3 hp (by rw [hzl] at hb; dsimp only; omega))) rfl (fun b19 p19 => ?_)
  have hdd : ((ys.drop 1).drop m).drop n = ys.drop (1 + m + n) := by rw [List.drop_drop, List.drop_drop, Nat.add_assoc]
  have hzs : ((ys.drop 1).drop m).take n = ((ys.drop (1 + m)).take n) := by rw [List.drop_drop]
  have hsl : ((ys.drop (1 + m)).take n).length = n := by rw [← hzs, List.length_take]; omega
  have hn3 : ¬ ys.length < 1 + (n, m).2 + (n, m).1 := by rw [hzl] at p19; dsimp only; omega
  have hC := fun (r : Rd) (q : Seen r v ys.length 1 (v8s ys)) => cutB (hU r q) p19
  rw [hzs] at hC
  have svc := (hC _ hs).sv
  have hD : ∀ r, Seen r v ys.length 1 (v8s ys) → Seen r (slv u n ((ys.drop 1).drop m).length 1) (ys.drop (1 + m + n)).length 1 (v8s (ys.drop (1 + m + n))) := fun r q => by have z := cutA (hU r q) p19; rw [hdd] at z; exact z
  have h5 : ¬ (ys.getD 0 0).toNat < 128 → takeP (f2 + 1) ys = (kidsW (takeP f2) n ((ys.drop (1 + m)).take n)).map fun l => (.nd (ys.getD 0 0) [] l, 1 + m + n) := fun ht => tp_5 p12 hp hn3 ht
  refine wpl_q (q_pure rfl) rfl <| wpl_nil <| ex_then <| wpc_seq <| wpc_seq <| wpc_region <| wpl_q (q_field Tryd.underlying61 rfl Tryd.ti5 rfl rfl _ rfl) rfl ?_
  refine wpl_q (q_ld Tryd.underlying5 rfl rfl zz34) rfl ?_
  refine wpl_q (q_pure rfl) rfl <| wpl_nil <| ex_then ?_
  refine wpc_cond rfl (fun hc22 => ?_) (fun hc22 => ?_)
  ·
   simp only [decide_eq_true_eq] at hc22
   have ht : (ys.getD 0 0).toNat < 128 := by omega
   refine wpc_seq <| wpc_region <| wpl_q (q_pure rfl) rfl ?_
   refine wpl_tp (t_callP1 Tryd.hb73 rfl fun w h => cloneB (slv u 0 n 1) ((ys.drop (1 + m)).take n) w (hC _ (hs.mono (rdo_old h))) zz12) rfl (fun b24 p24 => ?_)
   haveI := oneH (t := (ys.getD 0 0)) p24 SV.nil
   refine wpl_q (q_field Tryd.underlying61 rfl Tryd.ti34 rfl rfl _ rfl) rfl ?_
   refine wpl_t0 (t_st1 Tryd.ti34 rfl rfl (SV.one zz3) zz6 [.int .u8 ((ys.getD 0 0).toNat : Int), b24, nl] rfl) (fun _ => ?_)
   refine wpl_nil <| ex_then <| wpc_seq <| wpc_region <| wpl_q (q_ldN Tryd.underlying61 rfl Tryd.ti61 rfl LenC.h) rfl ?_
   refine wpl_t0 (t_stA Tryd.ti61 rfl rfl LenC.h OneC.h LenC.h) (fun _ => ?_)
   refine wpl_nil <| ex_then <| wpc_ret ?_
   refine ex_then_ret ?_
   refine retv1 (.inl rfl) rfl (rv_agg Tryd.underlying61 rfl Tryd.ti61 rfl (fun w h => h.atB) rfl) ?_
   exact fun w1 h => Or.inl ⟨(.nd (ys.getD 0 0) b24 ((ys.drop (1 + m)).take n) nl [], (slv u n ((ys.drop 1).drop m).length 1), 1 + m + n), ⟨tp_4 p12 hp hn3 ht, ⟨p24, SV.nil⟩, hD⟩, rfl, (show Mem w (nums [.blk b 116 [v]]) [.blk b 116 [(slv u n ((ys.drop 1).drop m).length 1)], .row b24 ((ys.drop (1 + m)).take n).length 5 1 (v8s ((ys.drop (1 + m)).take n)), .row nl 0 61 3 []] [] w1 from (h.nilRow 61 3).sel)⟩
  ·
   simp only [decide_eq_false_iff_not] at hc22
   have ht : ¬ (ys.getD 0 0).toNat < 128 := by omega
   refine wpc_skip <| ex_then <| wpc_seq <| wpc_seq <| wpc_region <| wpl_q (q_pure rfl) rfl ?_
   refine wpl_q (q_build (cs := [(slv u 0 n 1)]) rfl (built_rd svc)) rfl ?_
   refine wpl_t (t_box rfl [(slv u 0 n 1)] rfl) rfl (fun b29 => ?_)
   refine wpl_q (q_pure rfl) rfl <| wpl_nil <| ex_then <| wpc_block ?_
   refine wpc_loopc (ι := { x : Nat × List HT × Value × Value // (x.1 ≤ n) ∧ (x.2.1.length ≤ x.1) ∧ (KG (takeP f2) n ((ys.drop (1 + m)).take n) x.2.1 x.1) ∧ (SV x.2.2.1 x.2.1.length) ∧ (∀ r, Seen r v ys.length 1 (v8s ys) → Seen r x.2.2.2 (((ys.drop (1 + m)).take n).drop x.1).length 1 (v8s (((ys.drop (1 + m)).take n).drop x.1))) }) [(1, _), (4, _), (5, _), (7, _)] (fun x Lc => Lc) (fun x => Mem w (nums [.blk b 116 [v]]) (.blk b29 116 [x.1.2.2.2] :: .blk b5 61 [.int .u8 ((ys.getD 0 0).toNat : Int), nl, x.1.2.2.1] :: .blk b4 61 HT.z.c :: .blk b 116 [(slv u n ((ys.drop 1).drop m).length 1)] :: .row x.1.2.2.1 x.1.2.1.length 61 3 (hcs x.1.2.1) :: entsL x.1.2.1) []) (fun x => n - x.1.1) ⟨(0, [], nl, (slv u 0 n 1)), ⟨Nat.zero_le _, Nat.le_refl _, by have q := KG_start (tk := takeP f2) (seg := ((ys.drop (1 + m)).take n)); rw [hsl] at q; exact q, SV.nil, hC⟩⟩ zz9 ?_ ?_
   ·
    exact fun w1 h => by
      have h2 : Mem w (nums [.blk b 116 [v]]) [.blk b29 116 [(slv u 0 n 1)], .blk b5 61 [.int .u8 ((ys.getD 0 0).toNat : Int), nl, nl], .blk b4 61 HT.z.c, .blk b 116 [(slv u n ((ys.drop 1).drop m).length 1)], .row nl 0 61 3 []] [] w1 := (h.nilRow 61 3).sel
      exact h2
   ·
    rintro ⟨⟨c, ns, nv, cv⟩, ⟨hi0, hi1, hi2, hi3, hi4⟩⟩; try dsimp only
    have hi0 : c ≤ n := hi0; have hi1 : ns.length ≤ c := hi1; have hi2 : KG (takeP f2) n ((ys.drop (1 + m)).take n) ns c := hi2; have hi3 : SV nv ns.length := hi3; have hi4 : ∀ r, Seen r v ys.length 1 (v8s ys) → Seen r cv (((ys.drop (1 + m)).take n).drop c).length 1 (v8s (((ys.drop (1 + m)).take n).drop c)) := hi4
    haveI := oneH (t := (ys.getD 0 0)) SV.nil hi3
    have svk := (hi4 _ hs).sv
    have hdk : (((ys.drop (1 + m)).take n).drop c).length = ((ys.drop (1 + m)).take n).length - c := List.length_drop
    refine wpc_seq <| wpc_seq <| wpc_region <| wpl_q (q_pure rfl) rfl <| wpl_q (q_pure rfl) rfl <| wpl_q (q_field Tryd.underlying116 rfl Tryd.ti34 rfl rfl _ rfl) rfl <| wpl_q (q_ld Tryd.underlying34 rfl rfl rfl) rfl ?_
    refine wpl_q (q_lenW Tryd.underlying34 rfl zz3) rfl ?_
    refine wpl_q (q_pure rfl) rfl <| wpl_nil <| ex_then ?_
    refine wpc_cond rfl (fun hc35 => ?_) (fun hc35 => ?_)
    ·
     simp only [decide_eq_true_eq] at hc35
     have hcn : c < n := by omega
     refine wpc_skip <| ex_then <| wpc_block ?_
     refine wpc_drawM [.blk b5 61 [.int .u8 ((ys.getD 0 0).toNat : Int), nl, nv]] 7 zz7 zz8 ?_
     refine wpd_p 0 rfl zz7 trivial (q_field Tryd.underlying61 rfl Tryd.ti59 rfl rfl _ rfl) rfl (fun w h => .inr (h.sub SubC.h SubC.h)) ?_
     refine wpd_q 1 rfl zz7 trivial (q_ld Tryd.underlying59 rfl rfl rfl) rfl (fun w h => h.sub SubC.h SubC.h) ?_
     refine wpd_p 2 rfl zz7 trivial (q_pure rfl) rfl (fun w h => .inr (h.sub SubC.h SubC.h)) ?_
     refine wpd_p 3 rfl zz7 trivial (q_pure rfl) rfl (fun w h => .inr (h.sub SubC.h SubC.h)) ?_
     refine wpd_p 4 rfl zz7 trivial (q_addN (b := 1) rfl rfl zz1) rfl (fun w h => .inr (h.sub SubC.h SubC.h)) ?_
     refine wpd_tp 5 rfl zz7 trivial (t_callX [.blk b29 116 [cv]] (.blk b5 61 [.int .u8 ((ys.getD 0 0).toNat : Int), nl, nv] :: .blk b4 61 HT.z.c :: .blk b 116 [(slv u n ((ys.drop 1).drop m).length 1)] :: .row nv ns.length 61 3 (hcs ns) :: entsL ns) (.blk b29 116 [cv] :: .blk b5 61 [.int .u8 ((ys.getD 0 0).toNat : Int), nl, nv] :: .blk b4 61 HT.z.c :: .blk b 116 [(slv u n ((ys.drop 1).drop m).length 1)] :: .row nv ns.length 61 3 (hcs ns) :: entsL ns) (fun x => .blk b29 116 [x.2.1] :: .blk b5 61 [.int .u8 ((ys.getD 0 0).toNat : Int), nl, nv] :: .blk b4 61 HT.z.c :: .blk b 116 [(slv u n ((ys.drop 1).drop m).length 1)] :: .row nv ns.length 61 3 (hcs ns) :: (x.1.ents ++ entsL ns)) rfl (fun x _ => List.Perm.cons _ (List.perm_append_comm_assoc x.1.ents [.blk b5 61 [.int .u8 ((ys.getD 0 0).toNat : Int), nl, nv], .blk b4 61 HT.z.c, .blk b 116 [(slv u n ((ys.drop 1).drop m).length 1)], .row nv ns.length 61 3 (hcs ns)] (entsL ns))) Tryd.hb63 rfl (fun w h h2 => ih f2 rfl b29 cv (((ys.drop (1 + m)).take n).drop c) w h2 ((hi4 _ hs).mono (rdo_nums h zz4)) zz12) (fun hb => by rw [h5 ht, KG_none hi2 zz12 hb]; rfl)) rfl (fun _ => (fun w h => .inr (h.sub SubC.h SubC.h))) (fun b41 p41 => ?_)
     haveI := p41.2.1.one
     have hmm := takeP_le p41.1
     have hKG := KG_some (y := b41.1) hi2 zz12 p41.1 zz12
     refine wpd_tp 6 rfl zz7 trivial (t_bsG [.agg b41.1.c.toArray] b41.1.c Tryd.underlying59 Tryd.ti61 rfl zz19 rfl zz19 zz19 rfl (by intro v hv; rw [List.mem_singleton] at hv; subst hv; exact HT.c_length _) (List.append_nil _)) rfl (fun _ => (fun w h => .inr (h.sub SubC.h SubC.h))) (fun b42 p42 => ?_)
     refine wpd_tp 7 rfl zz7 trivial (t_apW Tryd.underlying59 Tryd.ti61 rfl zz19 rfl rfl (fun w h => zz14) OneC.h zz1 zz1 (hcs (ns ++ [b41.1])) (cat_snoc HT.c ns b41.1)) rfl (fun _ => skk rfl) (fun b43 p43 => ?_)
     haveI := oneH (t := (ys.getD 0 0)) SV.nil p43
     refine wpd_p 8 rfl zz7 trivial (q_field Tryd.underlying61 rfl Tryd.ti59 rfl rfl _ rfl) rfl (skk rfl) ?_
     refine wpd_t0 9 rfl zz7 trivial (t_st1 Tryd.ti59 rfl rfl (SV.one zz3) zz6 [.int .u8 ((ys.getD 0 0).toNat : Int), nl, b43] rfl) (fun _ => skk rfl) (fun _ => ?_)
     refine wpd_done zz7 ?_
     refine ex_block ?_
     refine ex_again ⟨(c + b41.2.2, ns ++ [b41.1], b43, b41.2.1), ⟨by dsimp only; omega, by rw [snoc_len]; dsimp only; omega, hKG, by rw [snoc_len]; exact p43, fun r q => by have z := p41.2.2 r (hi4 r q); rw [List.drop_drop] at z; exact z⟩⟩ ?_ ?_ ?_
     ·
      exact zz9
     ·
      exact fun w h => by
        dsimp only
        rw [snoc_len]
        exact (h.sub (M' := .blk b29 116 [b41.2.1] :: .blk b5 61 [.int .u8 ((ys.getD 0 0).toNat : Int), nl, b43] :: .blk b4 61 HT.z.c :: .blk b 116 [(slv u n ((ys.drop 1).drop m).length 1)] :: .row b43 (ns.length + 1) 61 3 (hcs (ns ++ [b41.1])) :: (b41.1.ents ++ entsL ns)) (S' := []) SubC.h .nil).perm ((((((entsL_snoc ns b41.1).cons _).cons _).cons _).cons _).cons _)
     ·
      (show n - (c + b41.2.2) < n - c); omega
    ·
     simp only [decide_eq_false_iff_not] at hc35
     have hR : takeP (f2 + 1) ys = some (.nd (ys.getD 0 0) [] (trs ns), 1 + m + n) := by rw [h5 ht, KG_end hi2 zz12]; rfl
     refine wpc_exit ?_
     refine ex_then_exit ?_
     refine ex_then_exit ?_
     refine ex_block_hit ?_
     refine ex_then <| wpc_seq <| wpc_region <| wpl_q (q_ldN Tryd.underlying61 rfl Tryd.ti61 rfl LenC.h) rfl ?_
     refine wpl_t0 (t_stA Tryd.ti61 rfl rfl LenC.h OneC.h LenC.h) (fun _ => ?_)
     refine wpl_nil <| ex_then <| wpc_ret ?_
     refine retv1 (.inl rfl) rfl (rv_agg Tryd.underlying61 rfl Tryd.ti61 rfl (fun w h => h.atB) rfl) ?_
     exact fun w1 h => Or.inl ⟨(.nd (ys.getD 0 0) nl [] nv ns, (slv u n ((ys.drop 1).drop m).length 1), 1 + m + n), ⟨hR, ⟨SV.nil, hi3⟩, hD⟩, rfl, (show Mem w (nums [.blk b 116 [v]]) (.blk b 116 [(slv u n ((ys.drop 1).drop m).length 1)] :: .row nl 0 5 1 [] :: .row nv ns.length 61 3 (hcs ns) :: entsL ns) [] w1 from (h.nilRow 5 1).sel)⟩
theorem value : ∀ (f d b : Nat) (v : Value) (ys : List UInt8) (w : World), Mem w (nums [.blk b 116 [v]]) [.blk b 116 [v]] [] w → Seen (rdO (nums [.blk b 116 [v]]) w) v ys.length 1 (v8s ys) → d + f = 13 → ys.length ≤ 70000 → Calls Tryd.prog 63 [.pointer (some ⟨b, 0, none⟩), .int .i64 ((d : Nat) : Int)].toArray w (GivesX w [.blk b 116 [v]] (fun x : HT × Value × Nat => takeP f ys = some (x.1.tr, x.2.2) ∧ x.1.sv ∧ ∀ r, Seen r v ys.length 1 (v8s ys) → Seen r x.2.1 (ys.drop x.2.2).length 1 (v8s (ys.drop x.2.2))) (fun x => .agg x.1.c.toArray) (fun x => .blk b 116 [x.2.1] :: x.1.ents) (takeP f ys = none))
  | 0, d, b, v, ys, w, hB, hs, hd, hl => value_step b v ys d w hB hs 0 hd hl (fun f2 e => zz12)
  | f + 1, d, b, v, ys, w, hB, hs, hd, hl => value_step b v ys d w hB hs (f + 1) hd hl (fun f2 e b v ys w hB hs hl => by
    obtain rfl : f = f2 := by omega
    exact value f (d + 1) b v ys w hB hs zz12 hl)
end Go.Proofs.YtgnablliekgbgaaDoor
namespace Go.Proofs.YtgnablliekgbgaaDoor
open Go Go.PL Go.RowKit
section
variable {P : Program} {n : Cx} {R : World → Prop} {L : Slots} {Q : Exit → Act → World → Prop} {w0 : World} {Ln : List Nat} {M : List Ent} {S : List Fact} {bad1 : Prop} {ops : Array Oper} {rest : List Oper}
theorem t_callXQ {k : FuncId} {args : Array Operand} {at_ : Array TypeId} {vs : List Value} {ι : Type} {p : ι → Prop} {V : ι → Value} {N : ι → List Ent} (M1 X A : List Ent) (Z : ι → List Ent) (hA : M1 ++ X = A) [hM : SelC A M] (hZ : ∀ x, p x → (N x ++ X).Perm (Z x)) (hb : HasBody P k) (hv : evs L args.toList = some vs)
    (hc : ∀ w, Mem w0 Ln M S w → Mem w (nums M1) M1 [] w → Calls P k vs.toArray w (GivesX w M1 p V N bad1)) (hQ : ∀ a w', Sl n a L → bad1 → Mem w0 Ln X S w' → Q (.panic chainX) a w') :
    TOpP P Q n (Mem w0 Ln M S) L (.call { callee := .value (.func k), args := args, argTypes := at_ }) ι p V (fun x => Mem w0 Ln (Z x) S) := by
  have h : TOp P Q n (Mem w0 Ln M S) L (.call { callee := .value (.func k), args := args, argTypes := at_ }) { x : ι // p x } (fun x => V x.1) (fun x => Mem w0 Ln (Z x.1) S) := by
    intro d ty pos af g a w K hs hm0 hk
    subst hA
    have hm := hm0.selP hM.h
    have hargs : args.map a.eval = vs.toArray := by
      have e : (args.map a.eval).toList = vs := by rw [Array.toList_map]; exact evs_eval hs hv
      rw [← e]
    have hrun : (execOp a.eval ⟨d, .call { callee := .value (.func k), args := args, argTypes := at_ }, ty, pos, af, g⟩).run P w = .ok (.enter k vs.toArray) w := by
      have hf : ev L (.func k) = some (.func (.func k) #[] #[]) := rfl
      simp only [execOp, resolve, hs.eval hf, hargs]
      simp [Deferred.ofValue, invoke, run_callFunc hb]
    unfold Oper.wp
    rw [hrun]
    refine (hc w hm0 (Mem.startL w (fun e he => hm.own e (List.mem_append_left _ he)) (List.pairwise_append.1 hm.apart).1)).mono ?_
    rintro e w' (⟨x, hp, rfl, h⟩ | ⟨hb1, rfl, h⟩)
    · exact hk ⟨x, hp⟩ w' ((((hm.perm List.perm_append_comm).framedS h).perm List.perm_append_comm).perm (hZ x hp))
    · exact hQ a w' hs hb1 (((hm.perm List.perm_append_comm).framedS h).perm (by rw [List.append_nil]))
  exact h.rep fun x w h => ⟨x.1, x.2, rfl, h⟩
theorem wpl_defer {x : Operand} {k : FuncId} {us cap : Array Value} {d : Deferred} {ty : TypeId} {pos : String} {af : Array Edge} (hx : ev L x = some (.func (.func k) us cap)) (hd : ({ target := .fn (.func k) cap, args := us } : Deferred) = d) (next : WPL P ops Q ⟨n.n, d :: n.ds⟩ R L rest) :
    WPL P ops Q n R L (⟨none, .defer { callee := .value x, args := #[], argTypes := #[] }, ty, pos, af, none⟩ :: rest) := by
  intro a w hs hr
  refine wpList_plain rfl fun K hK => ?_
  have hrun : (execOp a.eval ⟨none, .defer { callee := .value x, args := #[], argTypes := #[] }, ty, pos, af, none⟩).run P w = .ok (.defer d) w := by
    simp only [execOp, resolve, hs.eval hx]
    simp [Deferred.ofValue, ← hd]
  unfold Oper.wp
  rw [hrun]
  exact hK _ _ (next { a with defers := d :: a.defers } w ⟨hs.size, by show d :: a.defers = d :: n.ds; rw [hs.defers], hs.tmp⟩ hr)
theorem sl_start {fn : Func} {m : Nat} (hn : fn.ntmps = m) (args : List Value) (hna : args.length ≤ m) : Sl ⟨m, []⟩ { tmps := args.toArray ++ Array.replicate (fn.ntmps - args.toArray.size) undef, defers := [] } (argSlots 0 args) := by
  refine ⟨?_, rfl, fun t v hv => ?_⟩
  · simp [hn]; omega
  · have := (get_argSlots t v args 0 hv).2
    simp only [Nat.sub_zero] at this
    have hlt : t < args.length := by
      rcases Nat.lt_or_ge t args.length with h | h
      · exact h
      · rw [List.getElem?_eq_none h] at this; cases this
    rw [List.getElem?_eq_getElem hlt] at this
    simpa [Array.getElem?_append, hlt] using this
theorem enterD {f : FuncId} {fn : Func} {c : Code} {args : List Value} {w0 : World} {post : Ending → World → Prop} (hf : P.funcs[f]? = some fn) (hb : fn.body = some c) {m : Nat} (hn : fn.ntmps = m) (hna : args.length ≤ m) (h0 : R w0)
    (h : WPC P (bodyPostD P fn post) ⟨m, []⟩ R (argSlots 0 args) c) : Calls P f args.toArray w0 post := calls_of_wp_defers hf hb (h _ w0 (sl_start hn args hna) h0)
theorem res2 {fn : Func} {r s : ResultVar} {v u : Value} {a : Act} {w : World} (hs : Sl n a L) (hw : R w) (hr : fn.results = #[r, s]) (h1 : RVal P R L r v) (h2 : RVal P R L s u) : (results fn a.tmps).run P w = .ok (.tuple #[v, u]) w := by
  simp only [results, hr]
  cases r <;> cases s
  · simp only [RVal] at h1; simp only [RVal] at h2; simp [hs.tmp _ _ h1, hs.tmp _ _ h2, asAddr]
  · simp only [RVal] at h1; simp only [RVal] at h2; obtain ⟨ad1, hx1, hl1⟩ := h2; simp [hs.tmp _ _ h1, hs.tmp _ _ hx1, hl1 w hw, asAddr]
  · simp only [RVal] at h1; simp only [RVal] at h2; obtain ⟨ad0, hx0, hl0⟩ := h1; simp [hs.tmp _ _ hx0, hl0 w hw, hs.tmp _ _ h2, asAddr]
  · simp only [RVal] at h1; simp only [RVal] at h2; obtain ⟨ad0, hx0, hl0⟩ := h1; obtain ⟨ad1, hx1, hl1⟩ := h2; simp [hs.tmp _ _ hx0, hl0 w hw, hs.tmp _ _ hx1, hl1 w hw, asAddr]
theorem retD0 {m : Nat} {fn : Func} {post : Ending → World → Prop} {r s : ResultVar} {v u : Value} {e : Exit} (he : e = .ret ∨ e = .normal) (hr : fn.results = #[r, s]) (h1 : RVal P R L r v) (h2 : RVal P R L s u)
    (h : ∀ w, R w → post (.returned (.tuple #[v, u])) w) : EX (bodyPostD P fn post) e ⟨m, []⟩ R L := by
  intro a w hs hw
  have hx := res2 hs hw hr h1 h2
  have key : Leaves P fn a.tmps post a.defers .returning w := by
    rw [hs.defers]; exact ⟨_, hx, h w hw⟩
  rcases he with rfl | rfl <;> exact key
theorem wpOpsS_recN {i : Nat} {is : List Nat} {QS : Exit → Act → List Frame → World → Prop} {a : Act} {cs : List Frame} {w : World} {d : Option Tmp} {ty : TypeId} {pos : String} {af : Array Edge} (ho : ops[i]? = some ⟨d, .call { callee := .builtin .recover, args := #[], argTypes := #[] }, ty, pos, af, none⟩) (hr : recoverD cs = none)
    (h : wpOpsS P ops QS is (a.put d .nilIface) cs w) : wpOpsS P ops QS (i :: is) a cs w := by
  have hrun : (execOp a.eval ⟨d, .call { callee := .builtin .recover, args := #[], argTypes := #[] }, ty, pos, af, none⟩).run P w = .ok .recover w := by
    simp [execOp, resolve, invoke, builtin]
  simp only [wpOpsS, ho, Region.wanted, if_true, hrun, hr]
  exact h
theorem wpOpsS_recS {i : Nat} {is : List Nat} {QS : Exit → Act → List Frame → World → Prop} {a : Act} {cs cs' : List Frame} {v : Value} {w : World} {d : Option Tmp} {ty : TypeId} {pos : String} {af : Array Edge} (ho : ops[i]? = some ⟨d, .call { callee := .builtin .recover, args := #[], argTypes := #[] }, ty, pos, af, none⟩) (hr : recoverD cs = some (v, cs'))
    (h : wpOpsS P ops QS is (a.put d v) cs' w) : wpOpsS P ops QS (i :: is) a cs w := by
  have hrun : (execOp a.eval ⟨d, .call { callee := .builtin .recover, args := #[], argTypes := #[] }, ty, pos, af, none⟩).run P w = .ok .recover w := by
    simp [execOp, resolve, invoke, builtin]
  simp only [wpOpsS, ho, Region.wanted, if_true, hrun, hr]
  exact h
theorem wpOpsS_q {i : Nat} {is : List Nat} {QS : Exit → Act → List Frame → World → Prop} {a : Act} {cs : List Frame} {v : Value} {w : World} {d : Option Tmp} {op : Op} {ty : TypeId} {pos : String} {af : Array Edge} (ho : ops[i]? = some ⟨d, op, ty, pos, af, none⟩) (hop : QOp P n (fun _ => True) L op v) (hs : Sl n a L)
    (h : wpOpsS P ops QS is (a.put d v) cs w) : wpOpsS P ops QS (i :: is) a cs w := by
  have hrun := hop d ty pos af none a w hs trivial
  simp only [wpOpsS, ho, Region.wanted, if_true, hrun, Oper.upon]
  exact h
theorem wpS_cod {QS : Exit → Act → List Frame → World → Prop} {c : Code} {a : Act} {cs : List Frame} {w : World} (hs : Sl n a L) (hr : R w) (h : WPC P (fun e a' w' => QS e a' cs w') n R L c) : c.wpS P QS a cs w := wpS_of_wp (h a w hs hr)
end
abbrev dcl (b2 b3 : Nat) : Deferred := { target := .fn (.func 62) #[.pointer (some ⟨b2, 0, none⟩), .pointer (some ⟨b3, 0, none⟩)], args := #[] }
theorem dcl_run (b2 b3 : Nat) (w : World) : (invoke (dcl b2 b3).target (dcl b2 b3).args).run Tryd.prog w = .ok (.enter 62 #[.pointer (some ⟨b2, 0, none⟩), .pointer (some ⟨b3, 0, none⟩)]) w := by
  simp [invoke, run_callFunc Tryd.hb62]
theorem q_neNilT {n : Cx} {R : World → Prop} {L : Slots} {x : Operand} (hx : ev L x = some (Value.iface 112 (.agg #[]))) : QOp Tryd.prog n R L (.binOp .neq 20 x (.const .nilIface) 20) (.bool true) := by
  intro d ty pos af g a w hs _
  simp only [execOp, hs.eval hx, hs.eval (show ev L (.const .nilIface) = some .nilIface from rfl)]
  kernel_rfl
theorem q_neNilF {n : Cx} {R : World → Prop} {L : Slots} (hx : ev L (.tmp 6) = some .nilIface) : QOp Tryd.prog n R L (.binOp .neq 20 (.tmp 6) (.const .nilIface) 20) (.bool false) := by
  intro d ty pos af g a w hs _
  simp only [execOp, hs.eval hx, hs.eval (show ev L (.const .nilIface) = some .nilIface from rfl)]
  kernel_rfl
theorem q_taErr {n : Cx} {R : World → Prop} {L : Slots} {x : Operand} (hx : ev L x = some (Value.iface 112 (.agg #[]))) : QOp Tryd.prog n R L (.typeAssert x 20 112 true) (.tuple #[.agg #[], .bool true]) := by
  intro d ty pos af g a w hs _
  simp only [execOp, hs.eval hx]
  kernel_rfl
theorem cl_ret (b2 b3 : Nat) (w : World) : CallsD Tryd.prog 62 #[.pointer (some ⟨b2, 0, none⟩), .pointer (some ⟨b3, 0, none⟩)] .returning w (fun e u' w' => e = .returned (.tuple #[]) ∧ u' = .returning ∧ w' = w) := by
  refine callsD_of_wpS Tryd.func62 rfl fun c0 cs hu => ?_
  have hs0 := sl_start (fn := Tryd.f62) (m := 17) rfl [.pointer (some ⟨b2, 0, none⟩), .pointer (some ⟨b3, 0, none⟩)] (Nat.le_of_ble_eq_true rfl)
  refine wpS_seq (wpS_region ?_)
  show wpOpsS _ _ _ [0, 1] _ _ _
  refine wpOpsS_recN rfl (by simp [recoverD, hu]) ?_
  have hs1 := hs0.put (d := 5) rfl .nilIface
  refine wpOpsS_q rfl (q_pure rfl) hs1 ?_
  have hs2 := hs1.put (d := 2) rfl .nilIface
  refine wpS_cod (R := fun w' => w' = w) hs2 rfl ?_
  refine wpc_seq <| wpc_region <| wpl_q (q_pure rfl) rfl <| wpl_q (q_neNilF rfl) rfl <| wpl_nil <| ex_then ?_
  refine wpc_cond_f rfl ?_
  refine wpc_skip ?_
  exact fun a w1 hs h => ⟨hs.defers, .returning, congrArg (· :: cs) (by rw [← hu]), .tuple #[], results_none rfl _ _ _, rfl, rfl, h⟩
theorem cl_pan (b2 b3 : Nat) (t : HT) (w : World) (hB : Mem w (nums [.blk b2 61 t.c, .blk b3 24 [.int .i64 0]]) [.blk b2 61 t.c, .blk b3 24 [.int .i64 0]] [] w) : CallsD Tryd.prog 62 #[.pointer (some ⟨b2, 0, none⟩), .pointer (some ⟨b3, 0, none⟩)] (.panicking chainX) w (fun e u' w' => e = .returned (.tuple #[]) ∧ u' = .panicking [{ v := (Value.iface 112 (.agg #[])), recovered := true }] ∧ Mem w (nums [.blk b2 61 t.c, .blk b3 24 [.int .i64 0]]) [.blk b2 61 HT.z.c, .blk b3 24 [.int .i64 12]] [] w') := by
  refine callsD_of_wpS Tryd.func62 rfl fun c0 cs hu => ?_
  have hs0 := sl_start (fn := Tryd.f62) (m := 17) rfl [.pointer (some ⟨b2, 0, none⟩), .pointer (some ⟨b3, 0, none⟩)] (Nat.le_of_ble_eq_true rfl)
  refine wpS_seq (wpS_region ?_)
  show wpOpsS _ _ _ [0, 1] _ _ _
  refine wpOpsS_recS (v := (Value.iface 112 (.agg #[]))) (cs' := { c0 with mode := .panicking [{ v := (Value.iface 112 (.agg #[])), recovered := true }] } :: cs) rfl (by simp [recoverD, hu, chainX]) ?_
  have hs1 := hs0.put (d := 5) rfl (Value.iface 112 (.agg #[]))
  refine wpOpsS_q rfl (q_pure rfl) hs1 ?_
  have hs2 := hs1.put (d := 2) rfl (Value.iface 112 (.agg #[]))
  refine wpS_cod (R := Mem w (nums [.blk b2 61 t.c, .blk b3 24 [.int .i64 0]]) [.blk b2 61 t.c, .blk b3 24 [.int .i64 0]] []) hs2 hB ?_
  refine wpc_seq <| wpc_region <| wpl_q (q_pure rfl) rfl <| wpl_q (q_neNilT rfl) rfl <| wpl_nil <| ex_then ?_
  refine wpc_cond_t rfl ?_
  refine wpc_seq <| wpc_seq <| wpc_region <| wpl_q (q_pure rfl) rfl <| wpl_q (q_taErr rfl) rfl <| wpl_q (q_pure rfl) rfl <| wpl_q (q_pure rfl) rfl <| wpl_q (q_pure rfl) rfl ?_
  refine wpl_t (t_alloc Tryd.ti112 [] rfl) rfl (fun b3 => ?_)
  refine wpl_t0 (t_stA Tryd.ti112 rfl rfl rfl (fun u hu => by cases hu) rfl) (fun _ => ?_)
  refine wpl_q (q_pure rfl) rfl <| wpl_nil <| ex_then <| wpc_seq <| wpc_region <| wpl_q (q_pure rfl) rfl <| wpl_q (q_pure rfl) rfl <| wpl_nil <| ex_then ?_
  refine wpc_cond_f rfl ?_
  refine wpc_skip <| ex_then <| wpc_region ?_
  refine wpl_q (q_build (cs := HT.z.c) rfl built_oz) rfl ?_
  refine wpl_t0 (t_stA Tryd.ti61 rfl rfl LenC.h OneC.h LenC.h) (fun _ => ?_)
  refine wpl_t0 (t_st1 Tryd.ti24 rfl rfl rfl zz6 [.int .i64 12] rfl) (fun _ => ?_)
  refine wpl_nil ?_
  exact fun a w1 hs h => ⟨hs.defers, .panicking [{ v := (Value.iface 112 (.agg #[])), recovered := true }], rfl, .tuple #[], results_none rfl _ _ _, rfl, rfl, h.sub SubC.h .nil⟩
section
variable {n : Cx} {R : World → Prop} {L : Slots}
theorem retD1 {m b2 b3 : Nat} {fn : Func} {post : Ending → World → Prop} {r s : ResultVar} {v u : Value} {e : Exit} (he : e = .ret ∨ e = .normal) (hr : fn.results = #[r, s]) (h1 : RVal Tryd.prog R L r v) (h2 : RVal Tryd.prog R L s u)
    (h : ∀ w, R w → post (.returned (.tuple #[v, u])) w) : EX (bodyPostD Tryd.prog fn post) e ⟨m, [dcl b2 b3]⟩ R L := by
  intro a w hs hw
  have hx := res2 hs hw hr h1 h2
  have key : Leaves Tryd.prog fn a.tmps post a.defers .returning w := by
    rw [hs.defers]
    refine leaves_cons zz40 (dcl_run b2 b3 w) ((cl_ret b2 b3 w).mono ?_)
    rintro e u' w' ⟨rfl, rfl, rfl⟩
    exact ⟨_, hx, h _ hw⟩
  rcases he with rfl | rfl <;> exact key
theorem panD {m b2 b3 : Nat} {fn : Func} {post : Ending → World → Prop} {w0 w : World} {t : HT} {X : List Ent} {S : List Fact} {a : Act} (hs : Sl ⟨m, [dcl b2 b3]⟩ a L) (hr : fn.results = #[.cell 2 61, .cell 3 24]) (h2 : get L 2 = some (.pointer (some ⟨b2, 0, none⟩))) (h3 : get L 3 = some (.pointer (some ⟨b3, 0, none⟩)))
    (hm : Mem w0 [] X S w) [hX : SelC [.blk b2 61 t.c, .blk b3 24 [.int .i64 0]] X] (h : ∀ w1, Mem w0 [] [.blk b2 61 HT.z.c, .blk b3 24 [.int .i64 12]] [] w1 → post (.returned (.tuple #[.agg HT.z.c.toArray, .int .i64 12])) w1) : Leaves Tryd.prog fn a.tmps post a.defers (.panicking chainX) w := by
  rw [hs.defers]
  have hm1 : Mem w0 [] [.blk b2 61 t.c, .blk b3 24 [.int .i64 0]] S w := hm.sel
  have hB := Mem.startL w hm1.own hm1.apart
  refine leaves_cons zz40 (dcl_run b2 b3 w) ((cl_pan b2 b3 t w hB).mono ?_)
  rintro e u' w' ⟨rfl, rfl, h4⟩
  have h5 : Mem w0 [] [.blk b2 61 HT.z.c, .blk b3 24 [.int .i64 12]] [] w' := (Mem.framed (X := []) hm1 h4)
  refine ⟨_, res2 (R := Mem w0 [] [.blk b2 61 HT.z.c, .blk b3 24 [.int .i64 12]] []) hs h5 hr (rv_agg Tryd.underlying61 rfl Tryd.ti61 h2 (fun w h => h.atB) rfl) (rv_one Tryd.underlying24 rfl h3 (fun w h => h.cell_blk (by first | exact List.mem_cons_self .. | exact List.mem_cons_of_mem _ (List.mem_cons_self ..)) rfl)), h w' h5⟩
end
end Go.Proofs.YtgnablliekgbgaaDoor
namespace Go.Proofs.YtgnablliekgbgaaDoor
open Go Go.PL Go.RowKit
theorem decode0 (av : Value) (xs : List UInt8) (w : World) (hav : Seen w.cell? av xs.length 1 (v8s xs))  :
    Calls Tryd.prog 36 [av].toArray w (GivesP w (fun y : HT => y.tr = (decP xs).1 ∧ y.sv) (fun y => .tuple #[.agg y.c.toArray, .int .i64 (decP xs).2]) (fun y => y.ents) (fun _ => [])) := by
  have sav := hav.sv
  have lav := sav.le
  simp only [maxLen] at lav
  have sav := hav.sv
  refine enterD (m := 28) (R := Mem w [] [] []) Tryd.func36 rfl rfl (Nat.le_of_ble_eq_true rfl) (Mem.start w) ?_
  refine wpc_seq <| wpc_region ?_
  refine wpl_t (t_alloc Tryd.ti61 HT.z.c rfl) rfl (fun b2 => ?_)
  refine wpl_t (t_alloc Tryd.ti24 [.int .i64 0] rfl) rfl (fun b3 => ?_)
  refine wpl_nil <| ex_then <| wpc_seq <| wpc_seq <| wpc_region <| wpl_q (q_pure rfl) rfl ?_
  refine wpl_q (q_lenW Tryd.underlying34 rfl zz3) rfl ?_
  refine wpl_q (q_pure rfl) rfl <| wpl_nil <| ex_then ?_
  refine wpc_cond rfl (fun hc7 => ?_) (fun hc7 => ?_)
  ·
   simp only [decide_eq_true_eq] at hc7
   have hR : decP xs = (Tr.z, 4) := by rw [decP, if_pos zz12]
   refine wpc_seq <| wpc_region <| wpl_q (q_ldN Tryd.underlying61 rfl Tryd.ti61 rfl LenC.h) rfl ?_
   refine wpl_t0 (t_stA Tryd.ti61 rfl rfl LenC.h OneC.h LenC.h) (fun _ => ?_)
   refine wpl_t0 (t_st1 Tryd.ti24 rfl rfl rfl zz6 [.int .i64 4] rfl) (fun _ => ?_)
   refine wpl_nil <| ex_then <| wpc_ret ?_
   refine ex_then_ret ?_
   refine retD0 (.inl rfl) rfl (rv_agg Tryd.underlying61 rfl Tryd.ti61 rfl (fun w h => h.atB) LenC.h) (rv_one Tryd.underlying24 rfl rfl (fun w h => h.cell_blk zz4 rfl)) ?_
   exact fun w1 h => ⟨HT.z, ⟨by rw [hR]; rfl, SV.nil, SV.nil⟩, by rw [hR], h.below, madeT (tg := 0) (bv := nl) (lv := nl) (bs := []) (l := []) (show Mem w [] [.row nl 0 5 1 [], .row nl 0 61 3 []] [] w1 from ((h.nilRow 61 3).nilRow 5 1).sel)⟩
  ·
   simp only [decide_eq_false_iff_not] at hc7
   have hlx : ¬ 65536 < xs.length := by omega
   refine wpc_skip <| ex_then <| wpc_seq <| wpc_region ?_
   refine wpl_q (q_fn (us := []) (vs := [.pointer (some ⟨b2, 0, none⟩), .pointer (some ⟨b3, 0, none⟩)]) rfl rfl) rfl ?_
   refine wpl_defer rfl (d := dcl b2 b3) rfl ?_
   refine wpl_nil <| ex_then <| wpc_seq <| wpc_region <| wpl_q (q_pure rfl) rfl ?_
   refine wpl_q (q_build (cs := [av]) rfl (built_rd sav)) rfl ?_
   refine wpl_t (t_box rfl [av] rfl) rfl (fun b12 => ?_)
   refine wpl_q (q_pure rfl) rfl <| wpl_nil <| ex_then <| wpc_seq <| wpc_region <| wpl_q (q_pure rfl) rfl ?_
   refine wpl_tp (t_callXQ [.blk b12 116 [av]] [.blk b2 61 HT.z.c, .blk b3 24 [.int .i64 0]] [.blk b12 116 [av], .blk b2 61 HT.z.c, .blk b3 24 [.int .i64 0]] (fun x => .blk b12 116 [x.2.1] :: .blk b2 61 HT.z.c :: .blk b3 24 [.int .i64 0] :: x.1.ents) rfl (fun x _ => List.Perm.cons _ (List.perm_append_comm (l₁ := x.1.ents) (l₂ := [.blk b2 61 HT.z.c, .blk b3 24 [.int .i64 0]]))) Tryd.hb63 rfl (fun w1 h h2 => value 12 1 b12 av xs w1 h2 (hav.mono (rdo_nil h zz4)) rfl zz12) (fun a w1 hs hb hm => panD (t := HT.z) hs rfl rfl rfl hm (by
     have hR : decP xs = (Tr.z, 12) := by rw [decP, if_neg hlx, hb]
     exact fun w1 h => ⟨HT.z, ⟨by rw [hR]; rfl, SV.nil, SV.nil⟩, by rw [hR], h.below, madeT (tg := 0) (bv := nl) (lv := nl) (bs := []) (l := []) (show Mem w [] [.row nl 0 5 1 [], .row nl 0 61 3 []] [] w1 from ((h.nilRow 61 3).nilRow 5 1).sel)⟩))) rfl (fun b14 p14 => ?_)
   haveI := p14.2.1.one
   have hts := takeP_size _ _ _ _ p14.1
   have htl := takeP_le p14.1
   have svr := (p14.2.2 _ hav).sv
   have hdl : (xs.drop b14.2.2).length = xs.length - b14.2.2 := List.length_drop
   have hsm : Sm b14.1.tr := by unfold Sm; omega
   have hdp : b14.1.tr.dep ≤ 1000000 := by omega
   refine wpl_t0 (t_stA Tryd.ti61 rfl rfl LenC.h OneC.h LenC.h) (fun _ => ?_)
   refine wpl_nil <| ex_then <| wpc_seq <| wpc_region <| wpl_q (q_pure rfl) rfl <| wpl_q (q_pure rfl) rfl <| wpl_q (q_field Tryd.underlying116 rfl Tryd.ti34 rfl rfl _ rfl) rfl <| wpl_q (q_ld Tryd.underlying34 rfl rfl rfl) rfl ?_
   refine wpl_q (q_lenW Tryd.underlying34 rfl zz3) rfl ?_
   refine wpl_q (q_pure rfl) rfl <| wpl_q (q_pure rfl) rfl ?_
   refine wpl_bool2 21 20 rfl rfl (fun hb21 => ?_) (fun hb21 => ?_)
   ·
    have heq : b14.2.2 = xs.length := by first | (simp only [beq_iff_eq] at hb21; omega) | (simp only [decide_eq_true_eq] at hb21; omega)
    refine wpl_on rfl rfl <| wpl_q (q_ldN Tryd.underlying61 rfl Tryd.ti61 rfl LenC.h) rfl <| wpl_on rfl rfl ?_
    refine wpl_t (t_pur Tryd.hb47 rfl fun w h => check b14.1 w (Mem.hseen h) hsm zz12) rfl (fun b23 => ?_)
    refine wpl_on rfl rfl <| wpl_q (q_pure rfl) rfl <| wpl_q (q_pure rfl) rfl ?_
    refine wpl_tp (t_callXQ [] (.blk b2 61 b14.1.c :: .blk b3 24 [.int .i64 0] :: b14.1.ents) (.blk b2 61 b14.1.c :: .blk b3 24 [.int .i64 0] :: b14.1.ents) (fun _ => .blk b2 61 b14.1.c :: .blk b3 24 [.int .i64 0] :: b14.1.ents) rfl (fun _ _ => .refl _) Tryd.hb64 rfl (fun w1 _ _ => must _ w1) (fun a w1 hs hb hm => panD (t := b14.1) hs rfl rfl rfl hm (by
      have hR : decP xs = (Tr.z, 12) := (by first | (rw [decP, if_neg hlx, p14.1]; exact if_neg (fun h => hne h.1)) | (rw [decP, if_neg hlx, p14.1]; exact if_neg (fun h => (show ¬ checkF b14.1.tr = 0 by simpa using hb) h.2)))
      exact fun w1 h => ⟨HT.z, ⟨by rw [hR]; rfl, SV.nil, SV.nil⟩, by rw [hR], h.below, madeT (tg := 0) (bv := nl) (lv := nl) (bs := []) (l := []) (show Mem w [] [.row nl 0 5 1 [], .row nl 0 61 3 []] [] w1 from ((h.nilRow 61 3).nilRow 5 1).sel)⟩))) rfl (fun b26 p26 => ?_)
    have hck : checkF b14.1.tr = 0 := by simpa using p26
    have hR : decP xs = (b14.1.tr, 0) := by rw [decP, if_neg hlx, p14.1]; exact if_pos ⟨heq, hck⟩
    refine wpl_nil <| ex_then <| wpc_seq <| wpc_region <| wpl_q (q_ldN Tryd.underlying61 rfl Tryd.ti61 rfl LenC.h) rfl ?_
    refine wpl_t0 (t_stA Tryd.ti61 rfl rfl LenC.h OneC.h LenC.h) (fun _ => ?_)
    refine wpl_t0 (t_st1 Tryd.ti24 rfl rfl rfl zz6 [.int .i64 0] rfl) (fun _ => ?_)
    refine wpl_nil <| ex_then <| wpc_ret ?_
    refine retD1 (.inl rfl) rfl (rv_agg Tryd.underlying61 rfl Tryd.ti61 rfl (fun w h => h.atB) LenC.h) (rv_one Tryd.underlying24 rfl rfl (fun w h => h.cell_blk zz4 rfl)) ?_
    exact fun w1 h => ⟨b14.1, ⟨by rw [hR], p14.2.1⟩, by rw [hR], h.below, h.made SubC.h .nil⟩
   ·
    have hne : b14.2.2 ≠ xs.length := by first | (simp only [beq_eq_false_iff_ne, ne_eq] at hb21; omega) | (simp only [decide_eq_false_iff_not] at hb21; omega)
    refine wpl_off rfl rfl rfl rfl <| wpl_off rfl rfl rfl rfl <| wpl_off rfl rfl rfl rfl <| wpl_q (q_pure rfl) rfl ?_
    refine wpl_tp (t_callXQ [] (.blk b2 61 b14.1.c :: .blk b3 24 [.int .i64 0] :: b14.1.ents) (.blk b2 61 b14.1.c :: .blk b3 24 [.int .i64 0] :: b14.1.ents) (fun _ => .blk b2 61 b14.1.c :: .blk b3 24 [.int .i64 0] :: b14.1.ents) rfl (fun _ _ => .refl _) Tryd.hb64 rfl (fun w1 _ _ => must _ w1) (fun a w1 hs hb hm => panD (t := b14.1) hs rfl rfl rfl hm (by
      have hR : decP xs = (Tr.z, 12) := (by first | (rw [decP, if_neg hlx, p14.1]; exact if_neg (fun h => hne h.1)) | (rw [decP, if_neg hlx, p14.1]; exact if_neg (fun h => (show ¬ checkF b14.1.tr = 0 by simpa using hb) h.2)))
      exact fun w1 h => ⟨HT.z, ⟨by rw [hR]; rfl, SV.nil, SV.nil⟩, by rw [hR], h.below, madeT (tg := 0) (bv := nl) (lv := nl) (bs := []) (l := []) (show Mem w [] [.row nl 0 5 1 [], .row nl 0 61 3 []] [] w1 from ((h.nilRow 61 3).nilRow 5 1).sel)⟩))) rfl (fun b26 p26 => ?_)
    cases p26
theorem decode (av : Value) (xs : List UInt8) (w : World) (hav : Seen w.cell? av xs.length 1 (v8s xs)) : Calls Tryd.prog 36 [av].toArray w (GivesP w (fun y : HT => y.tr = (decF xs).1 ∧ y.sv) (fun y => .tuple #[.agg y.c.toArray, .int .i64 (decF xs).2]) (fun y => y.ents) (fun _ => [])) := by
  have h := decode0 av xs w hav
  rw [decP_eq] at h
  exact h
end Go.Proofs.YtgnablliekgbgaaDoor
namespace Go.Proofs.YtgnablliekgbgaaDoor
open Go Go.PL Go.RowKit
theorem checkF_ok {t : Tr} (h : checkF t = 0) : t.cnt ≤ 4000 ∧ t.dep ≤ 12 ∧ t.shp = true ∧ t.siz ≤ 65536 := by
  unfold checkF at h
  split at h
  · cases h
  · split at h
    · cases h
    · split at h
      · cases h
      · rename_i h1 h2 h3
        exact ⟨zz12, zz12, by simpa using h2, zz12⟩
theorem dec_enc {t : Tr} (hs : Sm t) (h : checkF t = 0) : decF (enc t) = (t, 0) := by
  obtain ⟨_, h2, h3, h4⟩ := checkF_ok h
  have q := take_enc t hs h3 12 [] h2
  rw [List.append_nil] at q
  rw [decF, if_neg (by rw [enc_len t hs]; omega), q]
  exact if_pos ⟨rfl, h⟩
theorem decF_sm (xs : List UInt8) : Sm (decF xs).1 ∧ (decF xs).1.dep ≤ 12 := by
  unfold decF
  split
  · exact ⟨by unfold Sm; decide, zz19⟩
  · split
    · rename_i t m e
      have q := takeF_size _ _ _ _ e
      have q2 := takeF_le e
      split
      · exact ⟨by show t.byt + 5 * t.cnt ≤ _; omega, q.2⟩
      · exact ⟨by unfold Sm; decide, zz19⟩
    · exact ⟨by unfold Sm; decide, zz19⟩
theorem dec_inv {xs : List UInt8} (h : (decF xs).2 = 0) : checkF (decF xs).1 = 0 ∧ enc (decF xs).1 = xs := by
  unfold decF at h ⊢
  split at h
  · cases h
  · rename_i h1
    rw [if_neg h1]
    split at h
    · rename_i t m e
      split at h
      · rename_i h2
        rw [if_pos h2]
        refine ⟨h2.2, ?_⟩
        have q := (take_inv _ _ _ _ zz12 e).1
        rw [← q, h2.1, List.take_length]
      · cases h
    · cases h
end Go.Proofs.YtgnablliekgbgaaDoor
namespace Go.Proofs.YtgnablliekgbgaaDoor
open Go Go.PL Go.RowKit
section
variable {P : Program} {n : Cx} {L : Slots} {Q : Exit → Act → World → Prop} {w0 : World} {Ln : List Nat} {M : List Ent} {S : List Fact}
theorem t_callW {f : Operand} {k : FuncId} {first cap : Array Value} {args : Array Operand} {at_ : Array TypeId} {vs : List Value} {ι : Type} {p : ι → Prop} {V : ι → Value} {N : ι → List Ent} (M1 X A : List Ent) (Z : ι → List Ent) (T : ι → List Fact) (hA : M1 ++ X = A) [hM : SelC A M]
    (hZ : ∀ x w', p x → Mem w0 Ln (N x ++ X) S w' → Mem w0 Ln (Z x) (T x) w') (hf : ev L f = some (.func (.func k) first cap)) (hb : HasBody P k) (hv : evs L args.toList = some vs)
    (hc : ∀ w, Mem w0 Ln M S w → Mem w (nums M1) M1 [] w → Calls P k (first ++ vs.toArray ++ cap) w (GivesA w M1 p V N)) :
    TOpP P Q n (Mem w0 Ln M S) L (.call { callee := .value f, args := args, argTypes := at_ }) ι p V (fun x => Mem w0 Ln (Z x) (T x)) := by
  have h : TOp P Q n (Mem w0 Ln M S) L (.call { callee := .value f, args := args, argTypes := at_ }) { x : ι // p x } (fun x => V x.1) (fun x => Mem w0 Ln (Z x.1) (T x.1)) := by
    intro d ty pos af g a w K hs hm0 hk
    subst hA
    have hm := hm0.selP hM.h
    have hargs : args.map a.eval = vs.toArray := by
      have e : (args.map a.eval).toList = vs := by rw [Array.toList_map]; exact evs_eval hs hv
      rw [← e]
    have hrun : (execOp a.eval ⟨d, .call { callee := .value f, args := args, argTypes := at_ }, ty, pos, af, g⟩).run P w = .ok (.enter k (first ++ vs.toArray ++ cap)) w := by
      simp only [execOp, resolve, hs.eval hf, hargs]
      simp [Deferred.ofValue, invoke, run_callFunc hb]
    unfold Oper.wp
    rw [hrun]
    refine (hc w hm0 (Mem.startL w (fun e he => hm.own e (List.mem_append_left _ he)) (List.pairwise_append.1 hm.apart).1)).mono ?_
    rintro e w' ⟨x, hp, rfl, h⟩
    exact hk ⟨x, hp⟩ w' (hZ x w' hp (((hm.perm List.perm_append_comm).framedS h).perm List.perm_append_comm))
  exact h.rep fun x w h => ⟨x.1, x.2, rfl, h⟩
end
def orE (a b : Int) : Int := if a ≠ 0 then a else b
theorem orE_0 {a b : Int} : orE a b = 0 ↔ a = 0 ∧ b = 0 := by unfold orE; split <;> omega
theorem cmpOr (v : Value) (a b : Int) (w : World) (hv : Seen w.cell? v 2 1 [.int .i64 a, .int .i64 b])  :
    Calls Tryd.prog 38 [v].toArray w (Pur w (.int .i64 (orE a b))) := by
  have sv := hv.sv
  refine enter (m := 18) (R := Mem w [] [] []) Tryd.func38 rfl rfl (Nat.le_of_ble_eq_true rfl) (Mem.start w) ?_
  refine wpc_seq <| wpc_region <| wpl_q (q_pure rfl) rfl <| wpl_nil <| ex_then <| wpc_seq <| wpc_region <| wpl_q (q_pure rfl) rfl <| wpl_nil <| ex_then <| wpc_seq <| wpc_seq ?_
  refine wpc_region <| wpl_q (q_pure rfl) rfl ?_
  refine wpl_q (q_lenW Tryd.underlying119 rfl zz3) rfl ?_
  refine wpl_q (q_pure rfl) rfl <| wpl_nil <| ex_then <| wpc_block ?_
  refine wpc_loopc (ι := { x : Nat // (x ≤ 2) ∧ (1 ≤ x → a = 0) ∧ (2 ≤ x → b = 0) }) [(3, _), (6, _), (7, _)] (fun x Lc => (8, .int .i64 ((x.1 : Nat) : Int)) :: Lc) (fun x => Mem w [] [] []) (fun x => 2 - x.1) ⟨0, ⟨Nat.zero_le _, zz12, zz12⟩⟩ zz9 ?_ ?_
  ·
   exact fun w h => h
  ·
   rintro ⟨i, ⟨hi0, hi1, hi2⟩⟩; try dsimp only
   have hi0 : i ≤ 2 := hi0; have hi1 : 1 ≤ i → a = 0 := hi1; have hi2 : 2 ≤ i → b = 0 := hi2
   refine wpc_seq <| wpc_region <| wpl_q (q_pure rfl) rfl <| wpl_nil <| ex_then <| wpc_seq ?_
   refine wpc_cond rfl (fun hc9 => ?_) (fun hc9 => ?_)
   ·
    simp only [decide_eq_true_eq] at hc9
    have hil : i < 2 := by omega
    have hget : [Value.int .i64 a, Value.int .i64 b][i]? = some (.int .i64 (if i = 0 then a else b)) := by rcases (show i = 0 ∨ i = 1 from zz12) with rfl | rfl <;> rfl
    refine wpc_skip <| ex_then <| wpc_seq <| wpc_block <| wpc_seq <| wpc_region ?_
    refine wpl_q (q_idxW1 Tryd.underlying119 Tryd.ti24 rfl rfl zz3 zz1) rfl ?_
    refine wpl_q (q_ldW Tryd.underlying24 rfl rfl (fun w h => h.seen_old hv) hget) rfl ?_
    refine wpl_q (q_pure rfl) rfl <| wpl_nil <| ex_then <| wpc_seq <| wpc_region <| wpl_q (q_pure rfl) rfl <| wpl_q (q_pure rfl) rfl <| wpl_q (q_pure rfl) rfl <| wpl_nil <| ex_then ?_
    refine wpc_cond rfl (fun hc14 => ?_) (fun hc14 => ?_)
    ·
     have hgn : ¬ (if i = 0 then a else b) = 0 := by simpa using hc14
     refine wpc_seq <| wpc_region <| wpl_q (q_pure rfl) rfl <| wpl_q (q_pure rfl) rfl <| wpl_nil <| ex_then <| wpc_ret ?_
     refine ex_block_ret ?_
     refine ex_then_ret ?_
     refine ex_then_ret ?_
     refine ex_block_ret ?_
     refine ex_then_ret ?_
     refine ret1 (.inl rfl) rfl rfl ?_
     exact fun w h => ⟨by
       rcases (show i = 0 ∨ i = 1 from zz12) with rfl | rfl
       · have hgn : ¬ a = 0 := hgn
         rw [orE, if_pos hgn]; rfl
       · have := hi1 (Nat.le_refl _); rw [orE, if_neg (show ¬ a ≠ 0 from zz12)]; rfl, h.below⟩
    ·
     have hgi : (if i = 0 then a else b) = 0 := by simpa using hc14
     refine wpc_skip <| ex_block <| ex_then <| wpc_region ?_
     refine wpl_q (q_addN (b := 1) rfl rfl zz1) rfl ?_
     refine wpl_q (q_pure rfl) rfl <| wpl_nil ?_
     refine ex_again ⟨i + 1, ⟨(show i + 1 ≤ 2 from zz12), (fun _ => (by rcases (show i = 0 ∨ i = 1 from zz12) with h0 | h1; exact (by rw [h0] at hgi; exact hgi); exact hi1 zz12)), (fun (h2 : 2 ≤ i + 1) => (by rw [show i = 1 from zz12] at hgi; exact hgi))⟩⟩ ?_ ?_ ?_
     ·
      exact zz9
     ·
      exact fun w h => h
     ·
      (show 2 - (i + 1) < 2 - i); omega
   ·
    simp only [decide_eq_false_iff_not] at hc9
    obtain rfl : i = 2 := by omega
    refine wpc_exit ?_
    refine ex_then_exit ?_
    refine ex_then_exit ?_
    refine ex_block_hit ?_
    refine ex_then <| wpc_seq <| wpc_region <| wpl_q (q_pure rfl) rfl <| wpl_q (q_pure rfl) rfl <| wpl_nil <| ex_then <| wpc_ret ?_
    refine ret1 (.inl rfl) rfl rfl ?_
    exact fun w h => ⟨by rw [orE, if_neg (by have := hi1 zz12; omega), hi2 (Nat.le_refl _)], h.below⟩
theorem failC (x : Int) (b : Nat) (cur : Int) (w : World)  (hB : Mem w (nums [.blk b 24 [.int .i64 cur]]) [.blk b 24 [.int .i64 cur]] [] w) :
    Calls Tryd.prog 37 [.int .i64 x, .pointer (some ⟨b, 0, none⟩)].toArray w (GivesA w [.blk b 24 [.int .i64 cur]] (fun _ : Unit => True) (fun _ => .tuple #[]) (fun _ => [.blk b 24 [.int .i64 (orE cur x)]])) := by
  refine enter (m := 7) (R := Mem w (nums [.blk b 24 [.int .i64 cur]]) [.blk b 24 [.int .i64 cur]] []) Tryd.func37 rfl rfl (Nat.le_of_ble_eq_true rfl) hB ?_
  refine wpc_region ?_
  refine wpl_q (q_ld Tryd.underlying24 rfl rfl zz23) rfl ?_
  refine wpl_q (q_pure rfl) rfl ?_
  refine wpl_tp (t_bsV [.int .i64 cur, .int .i64 x] Tryd.underlying119 Tryd.ti24 rfl rfl zz19 zz19 rfl OneC.h) rfl (fun b5 p5 => ?_)
  refine wpl_t (t_pur Tryd.hb38 rfl fun w h => cmpOr b5 cur x w h.seenV) rfl (fun b6 => ?_)
  refine wpl_t0 (t_st1 Tryd.ti24 rfl rfl rfl zz6 [.int .i64 (orE cur x)] rfl) (fun _ => ?_)
  refine wpl_nil ?_
  refine ret0 (.inr rfl) rfl ?_
  exact fun w1 h => ⟨(), trivial, rfl, h.sub SubC.h .nil⟩
end Go.Proofs.YtgnablliekgbgaaDoor
namespace Go.Proofs.YtgnablliekgbgaaDoor
open Go Go.PL Go.RowKit
theorem rdrNum (eb : Nat) (t : HT) (g : UInt8) (mx : UInt64) (cur : Int) (w : World) (hB : Mem w (nums [.blk eb 24 [.int .i64 cur]]) [.blk eb 24 [.int .i64 cur]] [] w) (ht : HSeen (rdO (nums [.blk eb 24 [.int .i64 cur]]) w) t)  :
    Calls Tryd.prog 39 [.agg #[.func (.func 37) #[] #[.pointer (some ⟨eb, 0, none⟩)]], .agg t.c.toArray, .int .u8 g.toNat, .int .u64 mx.toNat].toArray w (GivesA w [.blk eb 24 [.int .i64 cur]] (fun _ : Unit => True) (fun _ => .int .u64 ((rdNum t.tr g mx).1.toNat : Int)) (fun _ => [.blk eb 24 [.int .i64 (orE cur (((rdNum t.tr g mx).2 : Nat) : Int))]])) := by
  haveI := ht.sv.one
  refine enter (m := 23) (R := Mem w (nums [.blk eb 24 [.int .i64 cur]]) [.blk eb 24 [.int .i64 cur]] []) Tryd.func39 rfl rfl (Nat.le_of_ble_eq_true rfl) hB ?_
  refine wpc_seq <| wpc_region ?_
  refine wpl_t (t_box rfl [(.func (.func 37) #[] #[.pointer (some ⟨eb, 0, none⟩)])] rfl) rfl (fun b4 => ?_)
  refine wpl_t (t_box rfl t.c rfl) rfl (fun b5 => ?_)
  refine wpl_q (q_pure rfl) rfl <| wpl_nil <| ex_then <| wpc_seq <| wpc_region <| wpl_q (q_ldN Tryd.underlying61 rfl Tryd.ti61 rfl LenC.h) rfl <| wpl_q (q_pure rfl) rfl <| wpl_q (q_pure rfl) rfl ?_
  refine wpl_t (t_pur Tryd.hb65 rfl fun w h => octReadNum t g mx w (ht.mono (rdo_old h))) rfl (fun b15 => ?_)
  refine wpl_q (q_pure rfl) rfl <| wpl_q (q_pure rfl) rfl <| wpl_q (q_pure rfl) rfl <| wpl_q (q_pure rfl) rfl <| wpl_q (q_pure rfl) rfl <| wpl_nil <| ex_then <| wpc_seq <| wpc_region <| wpl_q (q_field Tryd.underlying84 rfl Tryd.ti82 rfl rfl _ rfl) rfl <| wpl_q (q_ld Tryd.underlying82 rfl rfl rfl) rfl <| wpl_q (q_pure rfl) rfl ?_
  refine wpl_tp (t_callW (N := fun _ : Unit => [.blk eb 24 [.int .i64 (orE cur (((rdNum t.tr g mx).2 : Nat) : Int))]]) [.blk eb 24 [.int .i64 cur]] [.blk b5 61 t.c, .blk b4 84 [(.func (.func 37) #[] #[.pointer (some ⟨eb, 0, none⟩)])]] [.blk eb 24 [.int .i64 cur], .blk b5 61 t.c, .blk b4 84 [(.func (.func 37) #[] #[.pointer (some ⟨eb, 0, none⟩)])]] (fun _ => [.blk eb 24 [.int .i64 (orE cur (((rdNum t.tr g mx).2 : Nat) : Int))], .blk b5 61 t.c, .blk b4 84 [(.func (.func 37) #[] #[.pointer (some ⟨eb, 0, none⟩)])]]) (fun _ => []) rfl (fun _ _ _ h => h) rfl Tryd.hb37 rfl fun w h h2 => failC (((rdNum t.tr g mx).2 : Nat) : Int) eb cur w h2) rfl (fun b21 p21 => ?_)
  refine wpl_nil <| ex_then <| wpc_seq <| wpc_region <| wpl_q (q_pure rfl) rfl <| wpl_q (q_pure rfl) rfl <| wpl_nil <| ex_then <| wpc_ret ?_
  refine ret1 (.inl rfl) rfl rfl ?_
  exact fun w1 h => ⟨(), trivial, rfl, h.sub SubC.h .nil⟩
theorem rdrStr (eb : Nat) (t : HT) (g : UInt8) (mx : Int) (cur : Int) (w : World) (hB : Mem w (nums [.blk eb 24 [.int .i64 cur]]) [.blk eb 24 [.int .i64 cur]] [] w) (ht : HSeen (rdO (nums [.blk eb 24 [.int .i64 cur]]) w) t)  :
    Calls Tryd.prog 41 [.agg #[.func (.func 37) #[] #[.pointer (some ⟨eb, 0, none⟩)]], .agg t.c.toArray, .int .u8 g.toNat, .int .i64 mx].toArray w (GivesA w [.blk eb 24 [.int .i64 cur]] (fun _ : Unit => True) (fun _ => str (rdStr t.tr g mx).1) (fun _ => [.blk eb 24 [.int .i64 (orE cur (((rdStr t.tr g mx).2 : Nat) : Int))]])) := by
  haveI := ht.sv.one
  refine enter (m := 23) (R := Mem w (nums [.blk eb 24 [.int .i64 cur]]) [.blk eb 24 [.int .i64 cur]] []) Tryd.func41 rfl rfl (Nat.le_of_ble_eq_true rfl) hB ?_
  refine wpc_seq <| wpc_region ?_
  refine wpl_t (t_box rfl [(.func (.func 37) #[] #[.pointer (some ⟨eb, 0, none⟩)])] rfl) rfl (fun b4 => ?_)
  refine wpl_t (t_box rfl t.c rfl) rfl (fun b5 => ?_)
  refine wpl_q (q_pure rfl) rfl <| wpl_nil <| ex_then <| wpc_seq <| wpc_region <| wpl_q (q_ldN Tryd.underlying61 rfl Tryd.ti61 rfl LenC.h) rfl <| wpl_q (q_pure rfl) rfl <| wpl_q (q_pure rfl) rfl ?_
  refine wpl_t (t_pur Tryd.hb67 rfl fun w h => octReadStr t g mx w (ht.mono (rdo_old h))) rfl (fun b15 => ?_)
  refine wpl_q (q_pure rfl) rfl <| wpl_q (q_pure rfl) rfl <| wpl_q (q_pure rfl) rfl <| wpl_q (q_pure rfl) rfl <| wpl_q (q_pure rfl) rfl <| wpl_nil <| ex_then <| wpc_seq <| wpc_region <| wpl_q (q_field Tryd.underlying84 rfl Tryd.ti82 rfl rfl _ rfl) rfl <| wpl_q (q_ld Tryd.underlying82 rfl rfl rfl) rfl <| wpl_q (q_pure rfl) rfl ?_
  refine wpl_tp (t_callW (N := fun _ : Unit => [.blk eb 24 [.int .i64 (orE cur (((rdStr t.tr g mx).2 : Nat) : Int))]]) [.blk eb 24 [.int .i64 cur]] [.blk b5 61 t.c, .blk b4 84 [(.func (.func 37) #[] #[.pointer (some ⟨eb, 0, none⟩)])]] [.blk eb 24 [.int .i64 cur], .blk b5 61 t.c, .blk b4 84 [(.func (.func 37) #[] #[.pointer (some ⟨eb, 0, none⟩)])]] (fun _ => [.blk eb 24 [.int .i64 (orE cur (((rdStr t.tr g mx).2 : Nat) : Int))], .blk b5 61 t.c, .blk b4 84 [(.func (.func 37) #[] #[.pointer (some ⟨eb, 0, none⟩)])]]) (fun _ => []) rfl (fun _ _ _ h => h) rfl Tryd.hb37 rfl fun w h h2 => failC (((rdStr t.tr g mx).2 : Nat) : Int) eb cur w h2) rfl (fun b21 p21 => ?_)
  refine wpl_nil <| ex_then <| wpc_seq <| wpc_region <| wpl_q (q_pure rfl) rfl <| wpl_q (q_pure rfl) rfl <| wpl_nil <| ex_then <| wpc_ret ?_
  refine ret1 (.inl rfl) rfl rfl ?_
  exact fun w1 h => ⟨(), trivial, rfl, h.sub SubC.h .nil⟩
end Go.Proofs.YtgnablliekgbgaaDoor
