/- What the statement reaches, in order. -/
import Derived.Test.YtgnablliekgbgaaMXPLL
import Derived.Test.YtgnablliekgbgaaMXTI
import Derived.Lib.BufferRead
import Derived.Lib.ConvBytes
import Derived.Laws.IdiomStrings
import Derived.Test.YtgnablliekgbgaaMXPLH
import Derived.Recover
import Derived.Test.YtgnablliekgbgaaMXPLZ
import Derived.WalkKit
import Derived.ProofKit
import Derived.OpenShut
import Derived.ShutString
import Derived.ChangeOld
import Derived.Below
import Derived.SizedLaws
import Derived.Lib.SmallJoins
import Derived.Carry
import Derived.Test.YtgnablliekgbgaaMX3
set_option linter.unusedSimpArgs false
set_option linter.unusedVariables false
set_option maxRecDepth 100000
namespace Go.Proofs.Ytgnablliekgbgaa
open Go Go.PL Go.RowKit
section
variable {P : Program} {R : World → Prop} {L : Slots}
theorem retv4 {m : Nat} {fn : Func} {post : Ending → World → Prop} {r s t q : Tmp} {v u x y : Value} {e : Exit} (he : e = .ret ∨ e = .normal) (hr : fn.results = #[.tmp r, .tmp s, .tmp t, .tmp q]) (h1 : RVal P R L (.tmp r) v) (h2 : RVal P R L (.tmp s) u) (h3 : RVal P R L (.tmp t) x) (h4 : RVal P R L (.tmp q) y)
    (h : ∀ w, R w → post (.returned (.tuple #[v, u, x, y])) w) : EX (bodyPost P fn post) e ⟨m, []⟩ R L := by
  intro a w hs hw
  have hx : (results fn a.tmps).run P w = .ok (.tuple #[v, u, x, y]) w := by
    simp only [results, hr]
    simp only [RVal] at h1 h2 h3 h4
    simp [hs.tmp _ _ h1, hs.tmp _ _ h2, hs.tmp _ _ h3, hs.tmp _ _ h4, asAddr]
  rcases he with rfl | rfl <;> exact ⟨hs.defers, _, hx, h w hw⟩
end
def headF (xs : List UInt8) : UInt8 × Nat × Nat × Bool :=
  if xs.length < 2 ∨ xs.getD 0 0 = 0 then (0, 0, 0, false)
  else if (xs.getD 1 0).toNat < 128 then (xs.getD 0 0, 2, (xs.getD 1 0).toNat, true)
  else if (xs.getD 1 0).toNat - 128 < 1 ∨ 3 < (xs.getD 1 0).toNat - 128 ∨ xs.length < 2 + ((xs.getD 1 0).toNat - 128) then (0, 0, 0, false)
  else if wideF (numOf ((xs.drop 2).take ((xs.getD 1 0).toNat - 128))) ≠ 1 + ((xs.getD 1 0).toNat - 128) then (0, 0, 0, false)
  else (xs.getD 0 0, 2 + ((xs.getD 1 0).toNat - 128), numOf ((xs.drop 2).take ((xs.getD 1 0).toNat - 128)), true)
theorem getD_dropU (xs : List UInt8) (n j : Nat) : (xs.drop n).getD j 0 = xs.getD (n + j) 0 := by
  rw [List.getD_eq_getElem?_getD, List.getD_eq_getElem?_getD, List.getElem?_drop]
theorem numOf_drop {xs : List UInt8} {i : Nat} (h : 2 + i < xs.length) : numOf ((xs.drop 2).take (i + 1)) = 256 * numOf ((xs.drop 2).take i) + (xs.getD (2 + i) 0).toNat := by
  rw [numOf_take zz45, getD_dropU]
theorem numOf_24 {xs : List UInt8} {i : Nat} (h : i ≤ xs.length) (h3 : i ≤ 3) : numOf (xs.take i) < 16777216 := by
  have h1 := numOf_lt (bs := xs) (i := i) h
  have h2 : 256 ^ i ≤ 256 ^ 3 := Nat.pow_le_pow_right zz18 h3
  have h4 : (256 : Nat) ^ 3 = 16777216 := by decide
  omega
theorem head (av : Value) (xs : List UInt8) (w : World) (hav : Seen w.cell? av xs.length 1 (v8s xs))  :
    Calls Try.prog 108 [av].toArray w (Pur w (.tuple #[.int .u8 ((headF xs).1.toNat : Int), .int .i64 (((headF xs).2.1 : Nat) : Int), .int .i64 (((headF xs).2.2.1 : Nat) : Int), .bool (headF xs).2.2.2])) := by
  have sav := hav.sv
  have lav := sav.le
  simp only [maxLen] at lav
  refine enter (m := 73) (R := Mem w [] [] []) Try.func108 rfl rfl (Nat.le_of_ble_eq_true rfl) (Mem.start w) ?_
  refine wpc_seq <| wpc_region <| wpl_q (q_pure rfl) rfl <| wpl_q (q_pure rfl) rfl <| wpl_q (q_pure rfl) rfl <| wpl_q (q_pure rfl) rfl <| wpl_nil <| ex_then <| wpc_seq <| wpc_seq <| wpc_region <| wpl_q (q_pure rfl) rfl ?_
  refine wpl_q (q_lenW Try.underlying43 rfl zz2) rfl ?_
  refine wpl_q (q_pure rfl) rfl <| wpl_q (q_pure rfl) rfl ?_
  refine wpl_bool2 12 11 rfl rfl (fun hb12 => ?_) (fun hb12 => ?_)
  ·
   try simp only [decide_eq_true_eq] at hb12
   have hN : xs.length < 2 ∨ xs.getD 0 0 = 0 := .inl zz11
   refine wpl_off rfl rfl rfl rfl <| wpl_off rfl rfl rfl rfl <| wpl_off rfl rfl rfl rfl <| wpl_off rfl rfl rfl rfl <| wpl_q (q_pure rfl) rfl <| wpl_nil <| ex_then ?_
   refine wpc_cond_t rfl ?_
   refine wpc_seq <| wpc_region <| wpl_q (q_pure rfl) rfl <| wpl_q (q_pure rfl) rfl <| wpl_q (q_pure rfl) rfl <| wpl_q (q_pure rfl) rfl <| wpl_nil <| ex_then <| wpc_ret ?_
   refine ex_then_ret ?_
   refine retv4 (.inl rfl) rfl (rv_tmp rfl) (rv_tmp rfl) (rv_tmp rfl) (rv_tmp rfl) ?_
   exact fun w h => ⟨by rw [headF, if_pos hN]; rfl, h.below⟩
  ·
   try simp only [decide_eq_false_iff_not] at hb12
   have hl2 : 2 ≤ xs.length := by omega
   refine wpl_on rfl rfl <| wpl_q (q_pure rfl) rfl <| wpl_on rfl rfl ?_
   refine wpl_q (q_idxW1 (j := 0) Try.underlying43 Try.ti5 rfl rfl zz2 zz0) rfl ?_
   refine wpl_on rfl rfl ?_
   refine wpl_q (q_ldW Try.underlying5 rfl rfl (fun w h => zz1) zz19) rfl ?_
   refine wpl_on rfl rfl ?_
   refine wpl_q (q8_eql (b := (0 : UInt8)) rfl rfl) rfl ?_
   refine wpl_q (q_pure rfl) rfl <| wpl_nil <| ex_then ?_
   refine wpc_cond rfl (fun hc17 => ?_) (fun hc17 => ?_)
   ·
    have hN : xs.length < 2 ∨ xs.getD 0 0 = 0 := .inr (by simpa using hc17)
    refine wpc_seq <| wpc_region <| wpl_q (q_pure rfl) rfl <| wpl_q (q_pure rfl) rfl <| wpl_q (q_pure rfl) rfl <| wpl_q (q_pure rfl) rfl <| wpl_nil <| ex_then <| wpc_ret ?_
    refine ex_then_ret ?_
    refine retv4 (.inl rfl) rfl (rv_tmp rfl) (rv_tmp rfl) (rv_tmp rfl) (rv_tmp rfl) ?_
    exact fun w h => ⟨by rw [headF, if_pos hN]; rfl, h.below⟩
   ·
    have hB : ¬ (xs.length < 2 ∨ xs.getD 0 0 = 0) := by rintro (h | h); omega; exact absurd h (by simpa using hc17)
    refine wpc_skip <| ex_then <| wpc_seq <| wpc_seq <| wpc_region <| wpl_q (q_pure rfl) rfl ?_
    refine wpl_q (q_idxW1 (j := 1) Try.underlying43 Try.ti5 rfl rfl zz2 zz0) rfl ?_
    refine wpl_q (q_ldW Try.underlying5 rfl rfl (fun w h => zz1) zz19) rfl ?_
    refine wpl_q (q_pure rfl) rfl <| wpl_nil <| ex_then ?_
    refine wpc_cond rfl (fun hc21 => ?_) (fun hc21 => ?_)
    ·
     simp only [decide_eq_true_eq] at hc21
     have h1 : (xs.getD 1 0).toNat < 128 := by omega
     refine wpc_seq ?_
     refine wpc_draw 11 zz6 (fun _ h => h.drew) ?_
     refine wpd_p 0 rfl zz6 trivial (q_pure rfl) rfl sk0 ?_
     refine wpd_p 1 rfl zz6 trivial (q_idxW1 (j := 0) Try.underlying43 Try.ti5 rfl rfl zz2 zz0) rfl sk0 ?_
     refine wpd_q 2 rfl zz6 trivial (q_ldW Try.underlying5 rfl rfl (fun w h => zz1) zz19) rfl (fun _ h => h) ?_
     refine wpd_p 3 rfl zz6 trivial (q_pure rfl) rfl sk0 ?_
     refine wpd_p 4 rfl zz6 trivial (q_idxW1 (j := 1) Try.underlying43 Try.ti5 rfl rfl zz2 zz0) rfl sk0 ?_
     refine wpd_q 5 rfl zz6 trivial (q_ldW Try.underlying5 rfl rfl (fun w h => zz1) zz19) rfl (fun _ h => h) ?_
     refine wpd_p 6 rfl zz6 trivial (q8_int Try.underlying5 Try.underlying3 rfl) rfl sk0 ?_
     refine wpd_p 7 rfl zz6 trivial (q_pure rfl) rfl sk0 ?_
     refine wpd_p 8 rfl zz6 trivial (q_pure rfl) rfl sk0 ?_
     refine wpd_p 9 rfl zz6 trivial (q_pure rfl) rfl sk0 ?_
     refine wpd_p 10 rfl zz6 trivial (q_pure rfl) rfl sk0 ?_
     refine wpd_done zz6 ?_
     refine ex_then <| wpc_ret ?_
     refine ex_then_ret ?_
     refine retv4 (.inl rfl) rfl (rv_tmp rfl) (rv_tmp rfl) (rv_tmp rfl) (rv_tmp rfl) ?_
     exact fun w h => ⟨by rw [headF, if_neg hB, if_pos h1]; rfl, h.below⟩
    ·
     simp only [decide_eq_false_iff_not] at hc21
     have h1 : ¬ (xs.getD 1 0).toNat < 128 := by omega
     have h1b := (xs.getD 1 0).toNat_lt
     refine wpc_skip <| ex_then <| wpc_seq <| wpc_region <| wpl_q (q_pure rfl) rfl ?_
     refine wpl_q (q_idxW1 (j := 1) Try.underlying43 Try.ti5 rfl rfl zz2 zz0) rfl ?_
     refine wpl_q (q_ldW Try.underlying5 rfl rfl (fun w h => zz1) zz19) rfl ?_
     refine wpl_q (q8_int Try.underlying5 Try.underlying3 rfl) rfl ?_
     refine wpl_q (q_subN (b := 128) rfl rfl zz11 zz0) rfl ?_
     refine wpl_q (q_pure rfl) rfl <| wpl_nil <| ex_then <| wpc_seq <| wpc_seq <| wpc_region <| wpl_q (q_pure rfl) rfl <| wpl_q (q_pure rfl) rfl <| wpl_q (q_pure rfl) rfl ?_
     refine wpl_bool2 36 35 rfl rfl (fun hb36 => ?_) (fun hb36 => ?_)
     ·
      try simp only [decide_eq_true_eq] at hb36
      refine wpl_off rfl rfl rfl rfl <| wpl_off rfl rfl rfl rfl <| wpl_q (q_pure rfl) rfl <| wpl_q (q_pure rfl) rfl <| wpl_off rfl rfl rfl rfl <| wpl_off rfl rfl rfl rfl <| wpl_off rfl rfl rfl rfl <| wpl_off rfl rfl rfl rfl <| wpl_off rfl rfl rfl rfl <| wpl_q (q_pure rfl) rfl <| wpl_nil <| ex_then ?_
      refine wpc_cond_t rfl ?_
      refine wpc_seq <| wpc_region <| wpl_q (q_pure rfl) rfl <| wpl_q (q_pure rfl) rfl <| wpl_q (q_pure rfl) rfl <| wpl_q (q_pure rfl) rfl <| wpl_nil <| ex_then <| wpc_ret ?_
      refine ex_then_ret ?_
      refine retv4 (.inl rfl) rfl (rv_tmp rfl) (rv_tmp rfl) (rv_tmp rfl) (rv_tmp rfl) ?_
      exact fun w h => ⟨by rw [headF, if_neg hB, if_neg h1, if_pos zz11]; rfl, h.below⟩
     ·
      try simp only [decide_eq_false_iff_not] at hb36
      refine wpl_on rfl rfl <| wpl_q (q_pure rfl) rfl <| wpl_on rfl rfl <| wpl_q (q_pure rfl) rfl <| wpl_q (q_pure rfl) rfl <| wpl_q (q_pure rfl) rfl ?_
      refine wpl_bool2 40 38 rfl rfl (fun hb40 => ?_) (fun hb40 => ?_)
      ·
       try simp only [decide_eq_true_eq] at hb40
       refine wpl_off rfl rfl rfl rfl <| wpl_off rfl rfl rfl rfl <| wpl_off rfl rfl rfl rfl <| wpl_off rfl rfl rfl rfl <| wpl_off rfl rfl rfl rfl <| wpl_q (q_pure rfl) rfl <| wpl_nil <| ex_then ?_
       refine wpc_cond_t rfl ?_
       refine wpc_seq <| wpc_region <| wpl_q (q_pure rfl) rfl <| wpl_q (q_pure rfl) rfl <| wpl_q (q_pure rfl) rfl <| wpl_q (q_pure rfl) rfl <| wpl_nil <| ex_then <| wpc_ret ?_
       refine ex_then_ret ?_
       refine retv4 (.inl rfl) rfl (rv_tmp rfl) (rv_tmp rfl) (rv_tmp rfl) (rv_tmp rfl) ?_
       exact fun w h => ⟨by rw [headF, if_neg hB, if_neg h1, if_pos zz11]; rfl, h.below⟩
      ·
       try simp only [decide_eq_false_iff_not] at hb40
       refine wpl_on rfl rfl <| wpl_q (q_pure rfl) rfl <| wpl_on rfl rfl ?_
       refine wpl_q (q_lenW Try.underlying43 rfl zz2) rfl ?_
       refine wpl_on rfl rfl <| wpl_q (q_pure rfl) rfl <| wpl_on rfl rfl ?_
       refine wpl_q (q_addN (a := 2) rfl rfl zz0) rfl ?_
       refine wpl_on rfl rfl <| wpl_q (q_pure rfl) rfl <| wpl_q (q_pure rfl) rfl <| wpl_nil <| ex_then ?_
       refine wpc_cond rfl (fun hc46 => ?_) (fun hc46 => ?_)
       ·
        try simp only [decide_eq_true_eq] at hc46
        refine wpc_seq <| wpc_region <| wpl_q (q_pure rfl) rfl <| wpl_q (q_pure rfl) rfl <| wpl_q (q_pure rfl) rfl <| wpl_q (q_pure rfl) rfl <| wpl_nil <| ex_then <| wpc_ret ?_
        refine ex_then_ret ?_
        refine retv4 (.inl rfl) rfl (rv_tmp rfl) (rv_tmp rfl) (rv_tmp rfl) (rv_tmp rfl) ?_
        exact fun w h => ⟨by rw [headF, if_neg hB, if_neg h1, if_pos zz11]; rfl, h.below⟩
       ·
        simp only [decide_eq_false_iff_not] at hc46
        have h2 : ¬ (((xs.getD 1 0).toNat - 128) < 1 ∨ 3 < ((xs.getD 1 0).toNat - 128) ∨ xs.length < 2 + ((xs.getD 1 0).toNat - 128)) := by omega
        refine wpc_skip <| ex_then <| wpc_seq <| wpc_region <| wpl_q (q_pure rfl) rfl <| wpl_nil <| ex_then <| wpc_seq <| wpc_seq <| wpc_region <| wpl_q (q_pure rfl) rfl <| wpl_nil ?_
        refine ex_then <| wpc_block ?_
        refine wpc_loopc (ι := { x : Nat × Nat // (x.1 ≤ ((xs.getD 1 0).toNat - 128)) ∧ (x.2 = numOf ((xs.drop 2).take x.1)) }) [(0, _), (6, _)] (fun x Lc => (8, .int .i64 ((x.1.1 : Nat) : Int)) :: (7, .int .i64 ((x.1.2 : Nat) : Int)) :: Lc) (fun x => Mem w [] [] []) (fun x => ((xs.getD 1 0).toNat - 128) - x.1.1) ⟨(0, 0), ⟨Nat.zero_le _, rfl⟩⟩ zz7 ?_ ?_
        ·
         exact fun w h => h
        ·
         rintro ⟨⟨i, v⟩, ⟨hi0, hi1⟩⟩; try dsimp only
         have hi0 : i ≤ ((xs.getD 1 0).toNat - 128) := hi0; have hi1 : v = numOf ((xs.drop 2).take i) := hi1
         have hv24 : v < 16777216 := by rw [hi1]; exact numOf_24 zz45 zz11
         refine wpc_seq <| wpc_seq <| wpc_region <| wpl_q (q_pure rfl) rfl <| wpl_q (q_pure rfl) rfl <| wpl_q (q_pure rfl) rfl <| wpl_nil <| ex_then ?_
         refine wpc_cond rfl (fun hc49 => ?_) (fun hc49 => ?_)
         ·
          simp only [decide_eq_true_eq] at hc49
          have hbb := (xs.getD (2 + i) 0).toNat_lt
          refine wpc_skip <| ex_then <| wpc_seq <| wpc_block <| wpc_region <| wpl_q (q_pure rfl) rfl ?_
          refine wpl_q (q_mulN (a := 256) rfl rfl zz0) rfl ?_
          refine wpl_q (q_pure rfl) rfl <| wpl_q (q_pure rfl) rfl ?_
          refine wpl_q (q_addN (a := 2) rfl rfl zz0) rfl ?_
          refine wpl_q (q_idxW1 Try.underlying43 Try.ti5 rfl rfl zz2 zz0) rfl ?_
          refine wpl_q (q_ldW Try.underlying5 rfl rfl (fun w h => zz1) zz19) rfl ?_
          refine wpl_q (q8_int Try.underlying5 Try.underlying3 rfl) rfl ?_
          refine wpl_q (q_addN rfl rfl zz0) rfl ?_
          refine wpl_q (q_pure rfl) rfl <| wpl_nil <| ex_block <| ex_then <| wpc_region <| wpl_q (q_pure rfl) rfl ?_
          refine wpl_q (q_addN (b := 1) rfl rfl zz0) rfl ?_
          refine wpl_q (q_pure rfl) rfl <| wpl_nil ?_
          refine ex_again ⟨(i + 1, 256 * v + (xs.getD (2 + i) 0).toNat), ⟨zz11, by rw [numOf_drop zz11, hi1]⟩⟩ ?_ ?_ ?_
          ·
           exact zz7
          ·
           exact fun w h => by first | exact h | exact h.sub SubC.h SubC.h | exact h.sub zz5 zz5
          ·
           (show ((xs.getD 1 0).toNat - 128) - (i + 1) < ((xs.getD 1 0).toNat - 128) - i); omega
         ·
          simp only [decide_eq_false_iff_not] at hc49
          obtain rfl : i = ((xs.getD 1 0).toNat - 128) := by omega
          have hlb := lenB_length (n := v) hv24
          have hwl := wideF_le v hv24
          refine wpc_exit ?_
          refine ex_then_exit ?_
          refine ex_then_exit ?_
          refine ex_block_hit ?_
          refine ex_then <| wpc_seq <| wpc_seq <| wpc_region <| wpl_q (q_pure rfl) rfl ?_
          refine wpl_tp (t_callP1 Try.hb77 rfl fun w h => refLength v w hv24) rfl (fun b62 p62 => ?_)
          refine wpl_q (q_lenW Try.underlying43 rfl zz2) rfl ?_
          refine wpl_q (q_pure rfl) rfl ?_
          refine wpl_q (q_addN (a := 1) rfl rfl zz0) rfl ?_
          refine wpl_q (q_pure rfl) rfl <| wpl_nil <| ex_then ?_
          refine wpc_cond rfl (fun hc66 => ?_) (fun hc66 => ?_)
          ·
           have h3 : wideF (numOf ((xs.drop 2).take ((xs.getD 1 0).toNat - 128))) ≠ 1 + ((xs.getD 1 0).toNat - 128) := by rw [← hi1, ← hlb]; intro e; simp [e] at hc66
           refine wpc_seq <| wpc_region <| wpl_q (q_pure rfl) rfl <| wpl_q (q_pure rfl) rfl <| wpl_q (q_pure rfl) rfl <| wpl_q (q_pure rfl) rfl <| wpl_nil <| ex_then <| wpc_ret ?_
           refine ex_then_ret ?_
           refine retv4 (.inl rfl) rfl (rv_tmp rfl) (rv_tmp rfl) (rv_tmp rfl) (rv_tmp rfl) ?_
           exact fun w h => ⟨by rw [headF, if_neg hB, if_neg h1, if_neg h2, if_pos h3]; rfl, h.below⟩
          ·
           have h3 : ¬ wideF (numOf ((xs.drop 2).take ((xs.getD 1 0).toNat - 128))) ≠ 1 + ((xs.getD 1 0).toNat - 128) := by rw [← hi1, ← hlb]; simp only [bne_eq_false_iff_eq, decide_eq_false_iff_not, Decidable.not_not] at hc66; omega
           refine wpc_skip <| ex_then <| wpc_seq <| wpc_region <| wpl_q (q_pure rfl) rfl ?_
           refine wpl_q (q_idxW1 (j := 0) Try.underlying43 Try.ti5 rfl rfl zz2 zz0) rfl ?_
           refine wpl_q (q_ldW Try.underlying5 rfl rfl (fun w h => zz1) zz19) rfl ?_
           refine wpl_q (q_pure rfl) rfl ?_
           refine wpl_q (q_addN (a := 2) rfl rfl zz0) rfl ?_
           refine wpl_q (q_pure rfl) rfl <| wpl_q (q_pure rfl) rfl <| wpl_q (q_pure rfl) rfl <| wpl_q (q_pure rfl) rfl <| wpl_q (q_pure rfl) rfl <| wpl_nil <| ex_then <| wpc_ret ?_
           refine retv4 (.inl rfl) rfl (rv_tmp rfl) (rv_tmp rfl) (rv_tmp rfl) (rv_tmp rfl) ?_
           exact fun w h => ⟨by rw [headF, if_neg hB, if_neg h1, if_neg h2, if_neg h3, hi1], h.below⟩
end Go.Proofs.Ytgnablliekgbgaa
namespace Go.Proofs.Ytgnablliekgbgaa
open Go Go.PL Go.RowKit
def serT (s : UInt64) : Tr := .nd 5 (numB s.toNat) []
def sersT (ss : List UInt64) : List Tr := ss.map serT
def bodyT (l : Rv) : Tr := .nd 134 [] [.nd 1 l.nm [], .nd 2 (numB l.no.toNat) [], .nd 3 (numB (of64 l.fr).toNat) [], .nd 4 (numB (of64 l.tt).toNat) [], .nd 129 [] (sersT l.ss)]
theorem sersT_len (ss : List UInt64) : (sersT ss).length = ss.length := List.length_map ..
theorem sersT_S {ss : List UInt64} {i : Nat} (h : i < ss.length) : sersT (ss.take (i + 1)) = sersT (ss.take i) ++ [serT (ss.getD i 0)] := by
  unfold sersT
  rw [List.take_add_one, List.getElem?_eq_getElem h, List.map_append, getD64 h]; rfl
def hseenL (l : List HT) : Fact := ⟨fun r => HSeenL r l, fun _ _ hr h => HSeenL_iff.2 fun x hx => (HSeenL_iff.1 h x hx).mono hr⟩
theorem hseenL_at {w0 w : World} {Ln : List Nat} {M : List Ent} {S : List Fact} (h : Mem w0 Ln M S w) {l : List HT} (hs : hseenL l ∈ S) : HSeenL w.cell? l := h.fact hs
theorem hseenL_snoc {r : Rd} {l : List HT} {x : HT} (h : HSeenL r l) (k : HSeen r x) : HSeenL r (l ++ [x]) := HSeenL_iff.2 fun y hy => by
  rcases List.mem_append.1 hy with h1 | h1
  · exact HSeenL_iff.1 h y h1
  · rw [List.mem_singleton] at h1; subst h1; exact k
theorem numK_le : ∀ (k n : Nat), (numK k n).length = k
  | 0, _ => rfl
  | k + 1, n => by rw [numK, List.length_append, numK_le k]; rfl
theorem numB_le (n : Nat) (h : n < 2 ^ 64) : (numB n).length ≤ 8 := by
  rw [numB, numK_le, kB]
  have : lenF n ≤ 64 := by
    unfold lenF
    split
    · decide
    · rename_i h0
      have := (Nat.log2_lt h0).2 h
      omega
  omega
end Go.Proofs.Ytgnablliekgbgaa
namespace Go.Proofs.Ytgnablliekgbgaa
open Go Go.PL Go.RowKit
theorem bytL_ser : ∀ (ss : List UInt64), bytL (sersT ss) ≤ 8 * ss.length
  | [] => Nat.le_refl _
  | s :: ss => by
    have h1 := bytL_ser ss
    have h2 := numB_le s.toNat s.toNat_lt
    show (numB s.toNat).length + 0 + bytL (sersT ss) ≤ 8 * (ss.length + 1)
    omega
theorem cntL_ser : ∀ (ss : List UInt64), cntL (sersT ss) = ss.length
  | [] => rfl
  | s :: ss => by
    have h1 := cntL_ser ss
    show 1 + 0 + cntL (sersT ss) = ss.length + 1
    omega
theorem sm_list {ss : List UInt64} (h : ss.length ≤ 520) : Sm (.nd 129 [] (sersT ss)) := by
  have h1 := bytL_ser ss
  have h2 := cntL_ser ss
  show 0 + bytL (sersT ss) + 5 * (1 + cntL (sersT ss)) ≤ 1000000
  omega
theorem sm_body {l : Rv} (h : l.ss.length ≤ 520) (h2 : l.nm.length ≤ 500) : Sm (bodyT l) := by
  have h3 := bytL_ser l.ss
  have h4 := cntL_ser l.ss
  have h5 := numB_le l.no.toNat l.no.toNat_lt
  have h6 := numB_le (of64 l.fr).toNat (of64 l.fr).toNat_lt
  have h7 := numB_le (of64 l.tt).toNat (of64 l.tt).toNat_lt
  show 0 + (l.nm.length + 0 + ((numB l.no.toNat).length + 0 + ((numB (of64 l.fr).toNat).length + 0 + ((numB (of64 l.tt).toNat).length + 0 + (0 + bytL (sersT l.ss) + 0))))) + 5 * (1 + (1 + 0 + (1 + 0 + (1 + 0 + (1 + 0 + (1 + cntL (sersT l.ss) + 0)))))) ≤ 1000000
  omega
theorem refValue (l : Rv) (w : World) (hl : l.seen w.cell?) (hnl : l.nm.length ≤ maxLen) (hss : l.ss.length ≤ 520) (hnm : l.nm.length ≤ 500) :
    Calls Try.prog 47 [.agg l.c.toArray].toArray w (GivesP w (fun y : HT => y.tr = bodyT l ∧ y.sv) (fun y => .agg y.c.toArray) (fun y => y.ents) (fun _ => [])) := by
  haveI := hl.svs.one
  have lss := hl.s.sv.le
  have lcs := hl.c.sv.le
  have lps := hl.p.sv.le
  have sss := hl.s.sv
  have scs := hl.c.sv
  have sps := hl.p.sv
  simp only [maxLen] at lss lcs lps
  refine enter (m := 43) (R := Mem w [] [] []) Try.func47 rfl rfl (Nat.le_of_ble_eq_true rfl) (Mem.start w) ?_
  refine wpc_seq <| wpc_region ?_
  refine wpl_t (t_box rfl l.c rfl) rfl (fun b1 => ?_)
  refine wpl_t (t_alloc Try.ti72 [.int .u8 0, nl, nl] rfl) rfl (fun b2 => ?_)
  refine wpl_nil <| ex_then <| wpc_seq <| wpc_region ?_
  refine wpl_q (q_build (cs := [.int .u8 129, nl, nl]) rfl (built_o0 129)) rfl ?_
  refine wpl_t (t_alloc Try.ti72 [.int .u8 0, nl, nl] rfl) rfl (fun b3 => ?_)
  refine wpl_t0 (t_stA Try.ti72 rfl rfl LenC.h OneC.h LenC.h) (fun _ => ?_)
  refine wpl_nil <| ex_then <| wpc_seq <| wpc_seq <| wpc_region <| wpl_q (q_pure rfl) rfl <| wpl_nil <| ex_then <| wpc_block ?_
  refine wpc_loopc (ι := { x : Nat × List HT × Value // (x.1 ≤ l.ss.length) ∧ (x.2.1.length = x.1) ∧ (trs x.2.1 = sersT (l.ss.take x.1)) ∧ (SV x.2.2 x.2.1.length) }) [(1, _), (2, _), (3, _)] (fun x Lc => (4, .int .i64 ((x.1.1 : Nat) : Int)) :: Lc) (fun x => Mem w [] [.blk b3 72 [.int .u8 129, nl, x.1.2.2], .row x.1.2.2 x.1.2.1.length 72 3 (hcs x.1.2.1), .blk b2 72 [.int .u8 0, nl, nl], .blk b1 30 l.c] [hseenL x.1.2.1]) (fun x => l.ss.length - x.1.1) ⟨(0, [], nl), ⟨Nat.zero_le _, rfl, rfl, SV.nil⟩⟩ zz7 ?_ ?_
  ·
   exact fun w1 h => by
     have h2 := (h.nilRow 72 3).sel (M' := [.blk b3 72 [.int .u8 129, nl, nl], .row nl 0 72 3 [], .blk b2 72 [.int .u8 0, nl, nl], .blk b1 30 l.c])
     exact h2.imp fun r _ t ht => by rw [List.mem_singleton] at ht; subst ht; trivial
  ·
   rintro ⟨⟨i, ns, nv⟩, ⟨hi0, hi1, hi2, hi3⟩⟩; try dsimp only
   have hi0 : i ≤ l.ss.length := hi0; have hi1 : ns.length = i := hi1; have hi2 : trs ns = sersT (l.ss.take i) := hi2; have hi3 : SV nv ns.length := hi3
   refine wpc_seq <| wpc_seq <| wpc_region <| wpl_q (q_pure rfl) rfl <| wpl_q (q_field Try.underlying30 rfl Try.ti25 rfl rfl _ rfl) rfl <| wpl_q (q_ld Try.underlying25 rfl rfl (show l.c[4]? = some (l.sv) from rfl)) rfl ?_
   refine wpl_q (q_lenW Try.underlying25 rfl zz2) rfl ?_
   refine wpl_q (q_pure rfl) rfl <| wpl_nil <| ex_then ?_
   refine wpc_cond rfl (fun hc10 => ?_) (fun hc10 => ?_)
   ·
    simp only [decide_eq_true_eq] at hc10
    have hil : i < l.ss.length := by omega
    haveI := oneH (t := 129) SV.nil hi3
    refine wpc_skip <| ex_then <| wpc_seq <| wpc_block ?_
    refine wpc_draw 9 zz6 (fun _ h => h.drew) ?_
    refine wpd_p 0 rfl zz6 trivial (q_field Try.underlying72 rfl Try.ti70 rfl rfl _ rfl) rfl sk0 ?_
    refine wpd_q 1 rfl zz6 trivial (q_ld Try.underlying70 rfl rfl rfl) rfl (fun _ h => h) ?_
    refine wpd_p 2 rfl zz6 trivial (q_field Try.underlying30 rfl Try.ti25 rfl rfl _ rfl) rfl sk0 ?_
    refine wpd_qB 3 [5, 6, 7, 8, 9] rfl zz6 trivial (q_ld Try.underlying25 rfl rfl (show l.c[4]? = some (l.sv) from rfl)) rfl (fun _ h => h) ?_
    refine wpd_p 4 rfl zz6 trivial (q_pure rfl) rfl sk0 ?_
    refine wpd_p 5 rfl zz6 trivial (q_idxW1 Try.underlying25 Try.ti22 rfl rfl zz2 zz0) rfl sk0 ?_
    refine wpd_qB 6 [7, 8, 9] rfl zz6 trivial (q_ldW Try.underlying22 rfl rfl (fun w h => h.seen_old hl.s) (by first | exact v64s_get zz3 | rfl)) rfl (fun _ h => h) ?_
    refine wpd_tp 7 rfl zz6 trivial (t_callPT Try.hb80 rfl fun w h => frz (refNum 5 (l.ss.getD i 0) w)) rfl (fun _ => (fun w h => .inr (h.sub SubC.h SubC.h))) (fun b20 p20 => ?_)
    haveI := p20.2.one
    refine wpd_tp 8 rfl zz6 trivial (t_bsG [.agg b20.c.toArray] b20.c Try.underlying70 Try.ti72 rfl zz18 rfl zz18 zz18 rfl zz30 (List.append_nil _)) rfl (fun _ => (fun w h => .inr (h.sub SubC.h SubC.h))) (fun b21 p21 => ?_)
    refine wpd_tp 9 rfl zz6 trivial (t_apW Try.underlying70 Try.ti72 rfl zz18 rfl rfl (fun w h => zz12) OneC.h zz0 zz0 (hcs (ns ++ [b20])) (cat_snoc HT.c ns b20)) rfl (fun _ => skk rfl) (fun b22 p22 => ?_)
    refine wpd_p 10 rfl zz6 trivial (q_field Try.underlying72 rfl Try.ti70 rfl rfl _ rfl) rfl (skk rfl) ?_
    refine wpd_t0 11 rfl zz6 trivial (t_st1 Try.ti70 rfl rfl (SV.one zz2) zz3 [.int .u8 129, nl, b22] rfl) (fun _ => skk rfl) (fun _ => ?_)
    refine wpd_done zz6 ?_
    refine ex_block <| ex_then <| wpc_region <| wpl_q (q_pure rfl) rfl ?_
    refine wpl_q (q_addN (b := 1) rfl rfl zz0) rfl ?_
    refine wpl_q (q_pure rfl) rfl <| wpl_nil ?_
    refine ex_again ⟨(i + 1, ns ++ [b20], b22), ⟨by show i + 1 ≤ l.ss.length; omega, by rw [snoc_len, hi1], by rw [trs_append, hi2, sersT_S hil]; show _ ++ [b20.tr] = _; rw [p20.1]; rfl, by rw [snoc_len]; exact p22⟩⟩ ?_ ?_ ?_
    ·
     exact zz7
    ·
     exact fun w h => by
       dsimp only
       rw [snoc_len]
       have h1 := h.sel (M' := [.blk b3 72 [.int .u8 129, nl, b22], .row b22 (ns.length + 1) 72 3 (hcs (ns ++ [b20])), .blk b2 72 [.int .u8 0, nl, nl], .blk b1 30 l.c])
       exact h1.imp fun r hr t ht => by
         rw [List.mem_singleton] at ht
         subst ht
         exact hseenL_snoc (hr (hseenL ns) zz44) (hr (Go.Proofs.Ytgnablliekgbgaa.hseen b20) zz44)
    ·
     (show l.ss.length - (i + 1) < l.ss.length - i); omega
   ·
    simp only [decide_eq_false_iff_not] at hc10
    obtain rfl : i = l.ss.length := by omega
    rw [List.take_length] at hi2
    haveI := oneH (t := 129) SV.nil hi3
    refine wpc_exit ?_
    refine ex_then_exit ?_
    refine ex_then_exit ?_
    refine ex_block_hit ?_
    refine ex_then <| wpc_seq ?_
    refine wpc_draw 18 zz6 (fun _ h => h.drew) ?_
    refine wpd_p 0 rfl zz6 trivial (q_field Try.underlying30 rfl Try.ti9 rfl rfl _ rfl) rfl sk0 ?_
    refine wpd_qB 1 [2, 5, 10, 15, 17, 18] rfl zz6 trivial (q_ld Try.underlying9 rfl rfl (show l.c[0]? = some (str l.nm) from rfl)) rfl (fun _ h => h) ?_
    refine wpd_p 3 rfl zz6 trivial (q_field Try.underlying30 rfl Try.ti22 rfl rfl _ rfl) rfl sk0 ?_
    refine wpd_qB 4 [5, 10, 15, 17, 18] rfl zz6 trivial (q_ld Try.underlying22 rfl rfl (show l.c[1]? = some (.int .u64 (l.no.toNat : Int)) from rfl)) rfl (fun _ h => h) ?_
    refine wpd_p 6 rfl zz6 trivial (q_field Try.underlying30 rfl Try.ti24 rfl rfl _ rfl) rfl sk0 ?_
    refine wpd_p 7 rfl zz6 trivial (q_field Try.underlying24 rfl Try.ti2 rfl rfl _ rfl) rfl sk0 ?_
    refine wpd_qB 8 [9, 10, 15, 17, 18] rfl zz6 trivial (q_ld Try.underlying2 rfl rfl (show l.c[2]? = some (.int .i64 l.fr) from rfl)) rfl (fun _ h => h) ?_
    refine wpd_p 9 rfl zz6 trivial (q64_conv Try.underlying2 Try.underlying22 rfl) rfl sk0 ?_
    refine wpd_p 11 rfl zz6 trivial (q_field Try.underlying30 rfl Try.ti24 rfl rfl _ rfl) rfl sk0 ?_
    refine wpd_p 12 rfl zz6 trivial (q_field Try.underlying24 rfl Try.ti2 rfl rfl _ rfl) rfl sk0 ?_
    refine wpd_qB 13 [14, 15, 17, 18] rfl zz6 trivial (q_ld Try.underlying2 rfl rfl (show l.c[3]? = some (.int .i64 l.tt) from rfl)) rfl (fun _ h => h) ?_
    refine wpd_p 14 rfl zz6 trivial (q64_conv Try.underlying2 Try.underlying22 rfl) rfl sk0 ?_
    refine wpd_qB 16 [17, 18] rfl zz6 trivial (q_ldP Try.underlying72 rfl Try.ti72 rfl (HT.nd 129 nl [] nv ns).c rfl rfl) rfl (fun _ h => h) ?_
    refine wpd_tp 2 rfl zz6 trivial (t_callPT Try.hb81 rfl fun w h => refStr 1 l.nm w hnl) rfl (fun _ => (fun w h => .inr (h.sub SubC.h SubC.h))) (fun b26 p26 => ?_)
    haveI := p26.2.one
    refine wpd_tp 5 rfl zz6 trivial (t_callPT Try.hb80 rfl fun w h => frz (refNum 2 l.no w)) rfl (fun _ => (fun w h => .inr (h.sub SubC.h SubC.h))) (fun b29 p29 => ?_)
    haveI := p29.2.one
    refine wpd_tp 10 rfl zz6 trivial (t_callPT Try.hb80 rfl fun w h => frz (refNum 3 (of64 l.fr) w)) rfl (fun _ => (fun w h => .inr (h.sub SubC.h SubC.h))) (fun b34 p34 => ?_)
    haveI := p34.2.one
    refine wpd_tp 15 rfl zz6 trivial (t_callPT Try.hb80 rfl fun w h => frz (refNum 4 (of64 l.tt) w)) rfl (fun _ => (fun w h => .inr (h.sub SubC.h SubC.h))) (fun b39 p39 => ?_)
    haveI := p39.2.one
    refine wpd_tp 17 rfl zz6 trivial (t_bsG [.agg b26.c.toArray, .agg b29.c.toArray, .agg b34.c.toArray, .agg b39.c.toArray, .agg (HT.nd 129 nl [] nv ns).c.toArray] (hcs [b26, b29, b34, b39, (HT.nd 129 nl [] nv ns)]) Try.underlying70 Try.ti72 rfl zz18 rfl zz18 zz18 rfl (by intro v hv; simp only [List.mem_cons, List.not_mem_nil, or_false] at hv; rcases hv with rfl | rfl | rfl | rfl | rfl <;> first | exact HT.c_length _ | rfl) rfl) rfl (fun _ => (fun w h => .inr (h.sub SubC.h SubC.h))) (fun b41 p41 => ?_)
    have htr : Tr.nd 134 [] (trs [b26, b29, b34, b39, (HT.nd 129 nl [] nv ns)]) = bodyT l := by
      show Tr.nd 134 [] [b26.tr, b29.tr, b34.tr, b39.tr, Tr.nd 129 [] (trs ns)] = _
      rw [p26.1, p29.1, p34.1, p39.1, hi2]; rfl
    have hsm : Sm (Tr.nd 134 [] (trs [b26, b29, b34, b39, (HT.nd 129 nl [] nv ns)])) := by rw [htr]; exact sm_body hss hnm
    refine wpd_tp 18 rfl zz6 trivial (t_callE (fun y : HT => .blk b2 72 [.int .u8 0, nl, nl] :: (y.ents ++ [.row b41 5 72 3 (hcs [b26, b29, b34, b39, (HT.nd 129 nl [] nv ns)]), .blk b3 72 [.int .u8 129, nl, nv], .row nv ns.length 72 3 (hcs ns), .blk b1 30 l.c])) (fun y => ((List.perm_middle (l₁ := [.row b41 5 72 3 (hcs [b26, b29, b34, b39, (HT.nd 129 nl [] nv ns)]), .blk b3 72 [.int .u8 129, nl, nv], .row nv ns.length 72 3 (hcs ns)]) (l₂ := [.blk b1 30 l.c])).append_left y.ents).trans List.perm_middle) Try.hb78 rfl fun w h => refSeq 134 b41 [b26, b29, b34, b39, (HT.nd 129 nl [] nv ns)] w (h.seen_row zz4) ⟨Mem.hseenF h zz4, Mem.hseenF h zz4, Mem.hseenF h zz4, Mem.hseenF h zz4, ⟨seen_nil _ 5 1, h.seen_row zz4, hseenL_at h zz4⟩, trivial⟩ hsm) rfl (fun _ => skk rfl) (fun b42 p42 => ?_)
    haveI := p42.2.one
    refine wpd_t0 19 rfl zz6 trivial (t_stA Try.ti72 rfl rfl LenC.h OneC.h LenC.h) (fun _ => skk rfl) (fun _ => ?_)
    refine wpd_done zz6 ?_
    refine ex_then <| wpc_ret ?_
    refine retv1 (.inl rfl) rfl (rv_agg Try.underlying72 rfl Try.ti72 rfl (fun w h => h.atB) LenC.h) ?_
    exact fun w1 h => ⟨b42, ⟨p42.1.trans htr, p42.2⟩, rfl, h.below, h.made (.drop (sub_left b42.ents _)) .nil⟩
end Go.Proofs.Ytgnablliekgbgaa
namespace Go.Proofs.Ytgnablliekgbgaa
open Go Go.PL Go.RowKit
abbrev HSv := { y : HT // y.sv }
def encS (_ : UInt64) (y : HSv) : Array Value := #[.agg y.1.c.toArray]
def AtS (T : List Nat) (x : UInt64) (y : HSv) (w : World) : Prop := y.1.tr = serT x ∧ GainOk T y.1.ents w
def InvS (pp : Nat) (sv : Value) (ss : List UInt64) (w : World) : Prop := CellsAt w.cell? ⟨pp, 0, none⟩ [sv] ∧ Seen w.cell? sv ss.length 1 (v64s ss)
theorem Mem.gainOk {w0 w : World} {Ln : List Nat} {M N : List Ent} {S : List Fact} (h : Mem w0 Ln M S w) (hs : Sub N M) : GainOk (nums M) N w := by
  have h2 := h.sub hs .nil
  exact ⟨fun e he => ⟨h2.own e he, fun k hk => mem_nums.2 ⟨e, hs.mem _ he, hk⟩⟩, h2.apart⟩
theorem GainOk.keep {T : List Nat} {G : List Ent} {w w' : World} (h : GainOk T G w) (hk : ∀ j, j ∈ T → w'.heap[j]? = w.heap[j]?) : GainOk T G w' := ⟨fun e he => ⟨Ent.kept (h.1 e he).1 fun k hn => hk k ((h.1 e he).2 k hn), (h.1 e he).2⟩, h.2⟩
theorem take_S64 {ss : List UInt64} {i : Nat} (h : i < ss.length) : ss.take i ++ [ss.getD i 0] = ss.take (i + 1) := by rw [List.take_add_one, List.getElem?_eq_getElem h, getD64 h]; rfl
theorem take_P64 {ss : List UInt64} {i : Nat} (h : i < ss.length) : (ss.take i ++ [ss.getD i 0]) <+: ss := by rw [take_S64 h]; exact List.take_prefix _ _
theorem serials1 (yl : Nat) (pp : Nat) (sv : Value) (ss : List UInt64) (J : List Nat → List UInt64 → World → Prop) (K : World → Prop) (w : World)  (hst : StabJ J) (hinv : ∀ T pre w1, J T pre w1 → InvS pp sv ss w1) (hsk : StabK K) (hy : YieldH Try.prog yl encS AtS ss J K) (hJ0 : J [] [] w) :
    Calls Try.prog 101 [.func (.yield yl) #[] #[], .pointer (some ⟨pp, 0, none⟩)].toArray w (IterPost J K ss) := by
  have ssv := (hinv _ _ _ hJ0).2.sv
  have lss := ssv.le
  simp only [maxLen] at lss
  refine enter (m := 17) (R := Mem w [] [] []) Try.func101 rfl rfl (Nat.le_of_ble_eq_true rfl) (Mem.start w) ?_
  refine wpc_seq <| wpc_region ?_
  refine wpl_q (q_load1 Try.underlying25 rfl rfl (fun w h => (h.at_old (hinv _ _ _ hJ0).1 0 sv rfl : w.cell? (Addr.add ⟨pp, 0, none⟩ 0) = some sv))) rfl ?_
  refine wpl_q (q_lenW Try.underlying25 rfl zz2) rfl ?_
  refine wpl_q (q_pure rfl) rfl <| wpl_nil <| ex_then <| wpc_block ?_
  refine wpc_loopc (ι := { x : Nat × World × List Nat // (x.1 ≤ ss.length) ∧ (J x.2.2 (ss.take x.1) x.2.1) }) [(0, _), (5, _), (6, _)] (fun x Lc => (7, .int .i64 ((x.1.1 : Nat) : Int)) :: Lc) (fun x => Mem x.1.2.1 x.1.2.2 [] []) (fun x => ss.length - x.1.1) ⟨(0, w, []), ⟨Nat.zero_le _, hJ0⟩⟩ zz7 ?_ ?_
  ·
   exact fun w h => h
  ·
   rintro ⟨⟨i, wb, T⟩, ⟨hi0, hi1⟩⟩; try dsimp only
   have hi0 : i ≤ ss.length := hi0; have hi1 : J T (ss.take i) wb := hi1
   have hsee : ∀ {M : List Ent} {S : List Fact} {w : World}, Mem wb T M S w → InvS pp sv ss w := fun h => hinv _ _ _ (hst _ _ _ _ _ hi1 (h.sub .nil .nil) (nums_lt h))
   refine wpc_seq <| wpc_region <| wpl_q (q_pure rfl) rfl <| wpl_nil <| ex_then <| wpc_seq ?_
   refine wpc_cond rfl (fun hc8 => ?_) (fun hc8 => ?_)
   ·
    simp only [decide_eq_true_eq] at hc8
    have hil : i < ss.length := by omega
    refine wpc_skip <| ex_then <| wpc_seq <| wpc_block <| wpc_seq <| wpc_region ?_
    refine wpl_q (q_idxW1 Try.underlying25 Try.ti22 rfl rfl zz2 zz0) rfl ?_
    refine wpl_q (q_ldW Try.underlying22 rfl rfl (fun w h => (hsee h).2) (by first | exact v64s_get zz3 | rfl)) rfl ?_
    refine wpl_q (q_pure rfl) rfl <| wpl_nil <| ex_then <| wpc_seq ?_
    refine wpc_region_y ?_
    refine wil_q (q_pure rfl) rfl ?_
    refine wil_q (q_pure rfl) rfl ?_
    refine wil_tp (t_callP (T := fun _ => []) (N := fun y : HT => y.ents) Try.hb41 rfl fun w h => octNum 5 (ss.getD i 0) w) rfl (fun b13 p13 => ?_)
    refine wil_yieldH (ss.getD i 0) (⟨b13, p13.2⟩) rfl rfl hst hy hi1 (take_P64 hil) rfl (fun w h => ⟨p13.1, Mem.gainOk h (sub_left _ _)⟩) rfl ?_ ?_
    ·
     intro u14 hu14
     refine wil_q (q_pure rfl) rfl ?_
     refine wil_nil ?_
     refine ex_then ?_
     refine wpc_cond_f rfl ?_
     refine wpc_skip <| ex_block <| ex_then <| wpc_region ?_
     refine wpl_q (q_addN (b := 1) rfl rfl zz0) rfl ?_
     refine wpl_q (q_pure rfl) rfl <| wpl_nil ?_
     refine ex_again ⟨(i + 1, u14, []), ⟨by show i + 1 ≤ ss.length; omega, by show J [] (ss.take (i + 1)) u14; rw [← take_S64 hil]; exact hu14⟩⟩ ?_ ?_ ?_
     ·
      exact zz7
     ·
      exact fun w h => h
     ·
      (show ss.length - (i + 1) < ss.length - i); omega
    ·
     intro u14 hu14
     refine wil_q (q_pure rfl) rfl ?_
     refine wil_nil ?_
     refine ex_then ?_
     refine wpc_cond_t rfl ?_
     refine wpc_ret ?_
     refine ex_block_ret ?_
     refine ex_then_ret ?_
     refine ex_then_ret ?_
     refine ex_block_ret ?_
     refine ret0 (.inl rfl) rfl ?_
     exact fun w h => iter_stop hsk hu14 h
   ·
    simp only [decide_eq_false_iff_not] at hc8
    obtain rfl : i = ss.length := by omega
    rw [List.take_length] at hi1
    refine wpc_exit ?_
    refine ex_then_exit ?_
    refine ex_then_exit ?_
    refine ex_block_hit ?_
    refine ret0 (.inr rfl) rfl ?_
    exact fun w h => iter_done hst hi1 h
theorem serials_it (sv : Value) (ss : List UInt64) (pp : Nat) (w : World) : IterHand Try.prog 101 #[.pointer (some ⟨pp, 0, none⟩)] encS AtS (InvS pp sv ss) ss [] w :=
  fun yl J K hst hinv hsk hy hJ0 => serials1 yl pp sv ss J K w hst hinv hsk hy hJ0
theorem serials (sv : Value) (n : Nat) (w : World) (hsv : SV sv n)  :
    Calls Try.prog 76 [sv].toArray w (GivesP w (fun _ : Nat => True) (fun pp : Nat => .func (.func 101) #[] #[.pointer (some ⟨pp, 0, none⟩)]) (fun pp => [.blk pp 25 [sv]]) (fun _ => [])) := by
  obtain ⟨a, cap, rfl, hz⟩ := hsv
  refine enter (m := 4) (R := Mem w [] [] []) Try.func76 rfl rfl (Nat.le_of_ble_eq_true rfl) (Mem.start w) ?_
  refine wpc_seq <| wpc_region ?_
  refine wpl_t (t_box rfl [.slice a n cap] rfl) rfl (fun b1 => ?_)
  refine wpl_q (q_pure rfl) rfl <| wpl_nil <| ex_then <| wpc_seq <| wpc_region ?_
  refine wpl_q (q_fn (us := []) (vs := [.pointer (some ⟨b1, 0, none⟩)]) rfl rfl) rfl ?_
  refine wpl_q (q_pure rfl) rfl <| wpl_nil <| ex_then <| wpc_ret ?_
  refine ret1 (.inl rfl) rfl rfl ?_
  exact fun w h => ⟨b1, trivial, rfl, h.below, h.made SubC.h .nil⟩
end Go.Proofs.Ytgnablliekgbgaa
namespace Go.Proofs.Ytgnablliekgbgaa
open Go Go.PL Go.RowKit
def rowsL (v : Value) (ns : List HT) : List Ent := .row v ns.length 72 3 (hcs ns) :: entsL ns
theorem rowsL_rows {v : Value} {ns : List HT} : ∀ e ∈ rowsL v ns, isRow e := by
  intro e he
  rcases List.mem_cons.1 he with rfl | he
  · trivial
  · obtain ⟨x, hx, hex⟩ : ∃ x ∈ ns, e ∈ x.ents := by
      have : ∀ m : List HT, e ∈ entsL m → ∃ x ∈ m, e ∈ x.ents := by
        intro m
        induction m with
        | nil => intro h; cases h
        | cons y m ih =>
          intro h
          rw [entsL, List.mem_append] at h
          rcases h with h | h
          · exact ⟨y, List.mem_cons_self .., h⟩
          · obtain ⟨x, hx, hh⟩ := ih h
            exact ⟨x, List.mem_cons_of_mem _ hx, hh⟩
      exact this ns he
    exact ents_rows x e hex
theorem rowsL_sub {e : Ent} {v : Value} {ns : List HT} : Sub (rowsL v ns) (e :: .row v ns.length 72 3 (hcs ns) :: entsL ns) := by unfold rowsL; exact .drop (Sub.refl _)
theorem hcs_len (ns : List HT) : (hcs ns).length = ns.length * 3 := cat_len HT.c_length ns
theorem put_last (ns : List HT) (z y : HT) : (hcs (ns ++ [z])).take (ns.length * 3) ++ y.c ++ (hcs (ns ++ [z])).drop (ns.length * 3 + y.c.length) = hcs (ns ++ [y]) := by
  have h := cat_put HT.c_length (l := ns ++ [z]) (i := ns.length) y (by rw [snoc_len]; omega)
  rw [show (ns ++ [z]).set ns.length y = ns ++ [y] by rw [List.set_append]; simp] at h
  exact h
theorem put_in (ns : List HT) (z y : HT) : ns.length * 3 + y.c.length ≤ (hcs (ns ++ [z])).length := by rw [hcs_len, snoc_len, HT.c_length]; omega
theorem put_pos (ns : List HT) (z : HT) : 0 < (hcs (ns ++ [z])).length := by rw [hcs_len, snoc_len]; omega
theorem appendSeq (pp : Nat) (sv : Value) (ss : List UInt64) (w : World)  (hss : ss.length ≤ 520) (hI : InvS pp sv ss w) :
    Calls Try.prog 100 [.slice none 0 0, .func (.func 101) #[] #[.pointer (some ⟨pp, 0, none⟩)]].toArray w (GivesP w (fun s : Value × List HT => trs s.2 = sersT ss ∧ SV s.1 s.2.length) (fun s => s.1) (fun s => rowsL s.1 s.2) (fun _ => [])) := by
  refine enterN (m := 15) (R := Mem w [] [] []) Try.func100 rfl rfl (Nat.le_of_ble_eq_true rfl) (Mem.start w) ?_
  refine wpc_seq <| wpc_region ?_
  refine wpl_t (t_box rfl [.slice none 0 0] rfl) rfl (fun b2 => ?_)
  refine wpl_q (q_pure rfl) rfl <| wpl_nil <| ex_then <| wpc_seq <| wpc_seq <| wpc_region <| wpl_q (q_pure rfl) rfl <| wpl_nil <| ex_then <| wpc_block ?_
  refine wpc_mono (R' := Mem w [] ([] ++ (.blk b2 70 [nl] :: .row nl ([] : List HT).length 72 3 (hcs ([] : List HT)) :: entsL ([] : List HT))) []) (fun w1 h => (h.nilRow 72 3).sel (M' := [.blk b2 70 [.slice none 0 0], .row (.slice none 0 0) 0 72 3 []])) ?_
  refine wpc_rangeH (encs := encS) (At := AtS) (Inv := (InvS pp sv ss)) (xs := ss) (ρ := Unit) (β := Nat) [] (fun s : Value × List HT => .blk b2 70 [s.1] :: .row s.1 s.2.length 72 3 (hcs s.2) :: entsL s.2) (fun pre s => trs s.2 = sersT pre ∧ SV s.1 s.2.length) (.slice none 0 0, []) (fun _ => False) (fun _ => .ret) (fun _ => []) (fun _ => []) (fun x i b => [.blk b 72 i.1.c]) (fun x i b => [(2, .pointer (some ⟨b2, 0, none⟩)), (5, .pointer (some ⟨b, 0, none⟩))]) rfl Try.hb101 ⟨rfl, SV.nil⟩ (fun w h k hk => by cases hk) (fun w h => serials_it sv ss pp w) (fun _ _ _ _ h => ⟨h.at_old hI.1, h.seen_old hI.2⟩) (fun _ _ _ _ _ h hk => ⟨h.1, GainOk.keep h.2 hk⟩) (fun _ _ => rfl) zz18 ?_ ?_ ?_ ?_
  ·
   intro l x i w1 K hK
   haveI := i.2.one
   refine wic_region ?_
   refine wil_t (t_alloc Try.ti72 [.int .u8 0, nl, nl] rfl) rfl (fun b5 => ?_)
   refine wil_t0 (t_stA Try.ti72 rfl rfl LenC.h OneC.h LenC.h) (fun _ => ?_)
   refine wil_nil ?_
   exact fun a w hs h => hK b5 a w (hs.weaken (subs_get zz7)) h
  ·
   intro l pre x i s b w1 T hgs hpre hm hat hT
   obtain ⟨v, ns⟩ := s
   obtain ⟨hg1, hg2⟩ := hgs
   have hg1 : trs ns = sersT pre := hg1
   have hg2 : SV v ns.length := hg2
   obtain ⟨i, hi2⟩ := i
   obtain ⟨hi1, hat⟩ := hat
   have hi1 : i.tr = serT x := hi1
   have hat : GainOk T i.ents w1 := hat
   haveI := hi2.one
   have lns := hg2.le
   simp only [maxLen] at lns
   have hnl : ns.length ≤ 520 := by
     have h1 : (trs ns).length = pre.length := by rw [hg1, sersT_len]
     rw [trs_length] at h1
     have h2 := hpre.length_le
     rw [List.length_append, List.length_singleton] at h2
     omega
   have l1 : (ns ++ [HT.z]).length = ns.length + 1 := snoc_len _ _
   show WPCI _ _ _ _ (Mem w1 (nums (.blk b 72 i.c :: .blk b2 70 [v] :: .row v ns.length 72 3 (hcs ns) :: entsL ns)) (.blk b 72 i.c :: .blk b2 70 [v] :: .row v ns.length 72 3 (hcs ns) :: entsL ns) []) _ _
   refine wic_block ?_
   refine wic_draw 4 zz6 (fun _ h => h.drew) ?_
   refine wid_q 0 rfl zz6 trivial (q_ld Try.underlying70 rfl rfl rfl) rfl (fun _ h => h) ?_
   refine wid_q 1 rfl zz6 trivial (q_ldN Try.underlying72 rfl Try.ti72 rfl LenC.h) rfl (fun _ h => h) ?_
   refine wid_p 2 rfl zz6 trivial (q_lenW Try.underlying70 rfl zz2) rfl sk0 ?_
   refine wid_tp 3 rfl zz6 trivial (t_bsG [.agg HT.z.c.toArray] HT.z.c Try.underlying70 Try.ti72 rfl zz18 rfl zz18 zz18 rfl (by intro v hv; rw [List.mem_singleton] at hv; subst hv; rfl) (List.append_nil _)) rfl (fun _ => (fun w h => .inr (h.sub SubC.h SubC.h))) (fun b11 p11 => ?_)
   refine wid_tp 4 rfl zz6 trivial (t_apW Try.underlying70 Try.ti72 rfl zz18 rfl rfl (fun w h => zz12) OneC.h zz0 zz0 (hcs (ns ++ [HT.z])) (cat_snoc HT.c ns HT.z)) rfl (fun _ => skk rfl) (fun b12 p12 => ?_)
   refine wid_p 5 rfl zz6 trivial (q_idxW Try.underlying70 Try.ti72 rfl rfl zz2 zz0) rfl (skk rfl) ?_
   refine wid_two 6 7 zz6 ?_ ?_
   ·
    refine wia_t0 6 rfl trivial (t_stWN Try.ti72 rfl rfl rfl (by exact HT.c_length i) (by exact OneC.h (cs := i.c)) (put_in _ _ _) (put_pos _ _) (hcs (ns ++ [i])) (by exact put_last _ _ _)) (fun _ => skk rfl) (fun _ => ?_)
    refine wid_t0 7 rfl zz6 trivial (t_st1 Try.ti70 rfl rfl (SV.one zz2) zz3 [b12] rfl) (fun _ => skk rfl) (fun _ => ?_)
    refine wid_done zz6 ?_
    refine ex_block ?_
    refine ex_roundN ?_
    exact fun w h => ⟨(b12, ns ++ [i]), (.blk b2 70 [b12] :: .row b12 (ns ++ [i]).length 72 3 (hcs (ns ++ [i])) :: entsL ns), i.ents, ⟨by show trs (ns ++ [i]) = _; rw [trs_append, hg1]; show _ ++ [i.tr] = _; rw [hi1]; simp [sersT], by show SV b12 (ns ++ [i]).length; rw [snoc_len]; exact p12⟩, by rw [snoc_len]; exact h.sub SubC.h .nil, hat, .cons _ (.cons _ (List.perm_append_comm.trans (entsL_snoc ns i)))⟩
   ·
    refine wia_t0 7 rfl trivial (t_st1 Try.ti70 rfl rfl (SV.one zz2) zz3 [b12] rfl) (fun _ => skk rfl) (fun _ => ?_)
    refine wid_t0 6 rfl zz6 trivial (t_stWN Try.ti72 rfl rfl rfl (by exact HT.c_length i) (by exact OneC.h (cs := i.c)) (put_in _ _ _) (put_pos _ _) (hcs (ns ++ [i])) (by exact put_last _ _ _)) (fun _ => skk rfl) (fun _ => ?_)
    refine wid_done zz6 ?_
    refine ex_block ?_
    refine ex_roundN ?_
    exact fun w h => ⟨(b12, ns ++ [i]), (.blk b2 70 [b12] :: .row b12 (ns ++ [i]).length 72 3 (hcs (ns ++ [i])) :: entsL ns), i.ents, ⟨by show trs (ns ++ [i]) = _; rw [trs_append, hg1]; show _ ++ [i.tr] = _; rw [hi1]; simp [sersT], by show SV b12 (ns ++ [i]).length; rw [snoc_len]; exact p12⟩, by rw [snoc_len]; exact h.sub SubC.h .nil, hat, .cons _ (.cons _ (List.perm_append_comm.trans (entsL_snoc ns i)))⟩
  ·
   intro D s hgs
   obtain ⟨v, ns⟩ := s
   obtain ⟨hg1, hg2⟩ := hgs
   have hg1 : trs ns = sersT ss := hg1
   have hg2 : SV v ns.length := hg2
   refine ex_weaken (R1 := Mem w [] (.obj D (.deferred (some [])) :: .blk b2 70 [v] :: .row v ns.length 72 3 (hcs ns) :: entsL ns) []) (L1 := [(2, .pointer (some ⟨b2, 0, none⟩))]) zz7 (fun w h => h) ?_
   refine ex_block <| ex_then <| wpc_seq <| wpc_region <| wpl_q (q_ld Try.underlying70 rfl rfl rfl) rfl <| wpl_q (q_pure rfl) rfl <| wpl_nil <| ex_then <| wpc_ret ?_
   refine ex_markN (.inl rfl) .here ?_
   refine ret1 (.inl rfl) rfl rfl ?_
   exact fun w1 h => ⟨(v, ns), ⟨hg1, hg2⟩, rfl, h.below, (h.sub (M' := rowsL v ns) (.drop rowsL_sub) .nil).made (Sub.refl _) .nil⟩
  ·
   intro D r hr; exact hr.elim
end Go.Proofs.Ytgnablliekgbgaa
namespace Go.Proofs.Ytgnablliekgbgaa
open Go Go.PL Go.RowKit
def seqF (v : Value) (ns : List HT) : Fact := ⟨fun r => Seen r v ns.length 3 (hcs ns) ∧ HSeenL r ns, fun _ _ hr h => ⟨h.1.mono hr, HSeenL_iff.2 fun x hx => (HSeenL_iff.1 h.2 x hx).mono hr⟩⟩
theorem seqF_at {w0 w : World} {Ln : List Nat} {M : List Ent} {S : List Fact} (h : Mem w0 Ln M S w) {v : Value} {ns : List HT} (hs : seqF v ns ∈ S) : Seen w.cell? v ns.length 3 (hcs ns) ∧ HSeenL w.cell? ns := h.fact hs
theorem new_freezeL {B : World} {w : World} {v : Value} {ns : List HT} (h : Mem B [] (rowsL v ns) [] w) : New B.heap.size [] [seqF v ns] w := by
  have h1 : Mem B [] [] ((rowsL v ns).map rowFact ++ []) w := Mem.freezeRows (rowsL v ns) rowsL_rows (by rw [List.append_nil]; exact h)
  refine (h1.imp (T := [seqF v ns]) fun r hs f hf => ?_).made .nil (Sub.refl _)
  rw [List.mem_singleton] at hf
  subst hf
  refine ⟨hs _ (List.mem_append_left _ (List.mem_cons_self ..)), HSeenL_iff.2 fun x hx => hseen_rows x fun e he => hs _ (List.mem_append_left _ (List.mem_map_of_mem (List.mem_cons_of_mem _ (mem_entsL hx he))))⟩
theorem frzL {P : Program} {k : FuncId} {vs : Array Value} {w : World} {p : Value × List HT → Prop} (h : Calls P k vs w (GivesP w p (fun s => s.1) (fun s => rowsL s.1 s.2) (fun _ => []))) : Calls P k vs w (GivesP w p (fun s => s.1) (fun _ => []) (fun s => [seqF s.1 s.2])) := by
  refine h.mono ?_
  rintro e w' ⟨y, hp, rfl, hb, hn⟩
  have hm := (Mem.start w).call hb hn
  rw [List.append_nil, List.append_nil] at hm
  exact ⟨y, hp, rfl, hb, new_freezeL hm⟩
theorem collect (pp : Nat) (sv : Value) (ss : List UInt64) (w : World)  (hss : ss.length ≤ 520) (hI : InvS pp sv ss w) :
    Calls Try.prog 75 [.func (.func 101) #[] #[.pointer (some ⟨pp, 0, none⟩)]].toArray w (GivesP w (fun s : Value × List HT => trs s.2 = sersT ss ∧ SV s.1 s.2.length) (fun s => s.1) (fun _ => []) (fun s => [seqF s.1 s.2])) := by
  refine enter (m := 5) (R := Mem w [] [] []) Try.func75 rfl rfl (Nat.le_of_ble_eq_true rfl) (Mem.start w) ?_
  refine wpc_seq <| wpc_region <| wpl_q (q_pure rfl) rfl <| wpl_nil <| ex_then <| wpc_seq <| wpc_region <| wpl_q (q_pure rfl) rfl ?_
  refine wpl_tp (t_callPT Try.hb100 rfl fun w h => frzL (appendSeq pp sv ss w hss ⟨h.at_old hI.1, h.seen_old hI.2⟩)) rfl (fun b4 p4 => ?_)
  refine wpl_q (q_pure rfl) rfl <| wpl_nil <| ex_then <| wpc_ret ?_
  refine ret1 (.inl rfl) rfl rfl ?_
  exact fun w1 h => ⟨b4, p4, rfl, h.below, h.made .nil SubC.h⟩
theorem rvBody (l : Rv) (w : World) (hl : l.seen w.cell?) (hnl : l.nm.length ≤ maxLen) (hss : l.ss.length ≤ 520) (hnm : l.nm.length ≤ 500) :
    Calls Try.prog 44 [.agg l.c.toArray].toArray w (GivesP w (fun y : HT => y.tr = bodyT l ∧ y.sv) (fun y => .agg y.c.toArray) (fun _ => []) (fun y => [Go.Proofs.Ytgnablliekgbgaa.hseen y])) := by
  haveI := hl.svs.one
  have lss := hl.s.sv.le
  have lcs := hl.c.sv.le
  have lps := hl.p.sv.le
  have sss := hl.s.sv
  have scs := hl.c.sv
  have sps := hl.p.sv
  simp only [maxLen] at lss lcs lps
  refine enter (m := 26) (R := Mem w [] [] []) Try.func44 rfl rfl (Nat.le_of_ble_eq_true rfl) (Mem.start w) ?_
  refine wpc_seq <| wpc_region ?_
  refine wpl_t (t_box rfl l.c rfl) rfl (fun b1 => ?_)
  refine wpl_t (t_alloc Try.ti72 [.int .u8 0, nl, nl] rfl) rfl (fun b2 => ?_)
  refine wpl_nil <| ex_then <| wpc_seq ?_
  refine wpc_draw 23 zz6 (fun _ h => h.drew) ?_
  refine wpd_p 0 rfl zz6 trivial (q_field Try.underlying30 rfl Try.ti9 rfl rfl _ rfl) rfl sk0 ?_
  refine wpd_q 1 rfl zz6 trivial (q_ld Try.underlying9 rfl rfl (show l.c[0]? = some (str l.nm) from rfl)) rfl (fun _ h => h) ?_
  refine wpd_p 3 rfl zz6 trivial (q_field Try.underlying30 rfl Try.ti22 rfl rfl _ rfl) rfl sk0 ?_
  refine wpd_q 4 rfl zz6 trivial (q_ld Try.underlying22 rfl rfl (show l.c[1]? = some (.int .u64 (l.no.toNat : Int)) from rfl)) rfl (fun _ h => h) ?_
  refine wpd_p 6 rfl zz6 trivial (q_field Try.underlying30 rfl Try.ti24 rfl rfl _ rfl) rfl sk0 ?_
  refine wpd_p 7 rfl zz6 trivial (q_field Try.underlying24 rfl Try.ti2 rfl rfl _ rfl) rfl sk0 ?_
  refine wpd_q 8 rfl zz6 trivial (q_ld Try.underlying2 rfl rfl (show l.c[2]? = some (.int .i64 l.fr) from rfl)) rfl (fun _ h => h) ?_
  refine wpd_p 9 rfl zz6 trivial (q64_conv Try.underlying2 Try.underlying22 rfl) rfl sk0 ?_
  refine wpd_p 11 rfl zz6 trivial (q_field Try.underlying30 rfl Try.ti24 rfl rfl _ rfl) rfl sk0 ?_
  refine wpd_p 12 rfl zz6 trivial (q_field Try.underlying24 rfl Try.ti2 rfl rfl _ rfl) rfl sk0 ?_
  refine wpd_q 13 rfl zz6 trivial (q_ld Try.underlying2 rfl rfl (show l.c[3]? = some (.int .i64 l.tt) from rfl)) rfl (fun _ h => h) ?_
  refine wpd_p 14 rfl zz6 trivial (q64_conv Try.underlying2 Try.underlying22 rfl) rfl sk0 ?_
  refine wpd_p 16 rfl zz6 trivial (q_field Try.underlying30 rfl Try.ti25 rfl rfl _ rfl) rfl sk0 ?_
  refine wpd_q 17 rfl zz6 trivial (q_ld Try.underlying25 rfl rfl (show l.c[4]? = some (l.sv) from rfl)) rfl (fun _ h => h) ?_
  refine wpd_tp 2 rfl zz6 trivial (t_callPT Try.hb74 rfl fun w h => octStr 1 l.nm w hnl) rfl (fun _ => (fun w h => .inr (h.sub SubC.h SubC.h))) (fun b5 p5 => ?_)
  haveI := p5.2.one
  refine wpd_tp 5 rfl zz6 trivial (t_callPT Try.hb41 rfl fun w h => frz (octNum 2 l.no w)) rfl (fun _ => (fun w h => .inr (h.sub SubC.h SubC.h))) (fun b8 p8 => ?_)
  haveI := p8.2.one
  refine wpd_tp 10 rfl zz6 trivial (t_callPT Try.hb41 rfl fun w h => frz (octNum 3 (of64 l.fr) w)) rfl (fun _ => (fun w h => .inr (h.sub SubC.h SubC.h))) (fun b13 p13 => ?_)
  haveI := p13.2.one
  refine wpd_tp 15 rfl zz6 trivial (t_callPT Try.hb41 rfl fun w h => frz (octNum 4 (of64 l.tt) w)) rfl (fun _ => (fun w h => .inr (h.sub SubC.h SubC.h))) (fun b18 p18 => ?_)
  haveI := p18.2.one
  refine wpd_tp 18 rfl zz6 trivial (t_callP1 Try.hb76 rfl fun w h => serials l.sv l.ss.length w hl.s.sv) rfl (fun _ => (fun w h => .inr (h.sub SubC.h SubC.h))) (fun b21 p21 => ?_)
  refine wpd_tp 19 rfl zz6 trivial (t_callPT Try.hb75 rfl fun w h => collect b21 l.sv l.ss w hss ⟨h.cells_blk (t := 25) zz4, h.seen_old hl.s⟩) rfl (fun _ => (fun w h => .inr (h.sub SubC.h SubC.h))) (fun b22 p22 => ?_)
  obtain ⟨nv, ns⟩ := b22
  obtain ⟨p22a, p22b⟩ := p22
  dsimp only at p22a p22b ⊢
  refine wpd_tp 20 rfl zz6 trivial (t_callPT Try.hb40 rfl fun w h => frz (octSeq 129 nv ns w (seqF_at h zz4).1 (seqF_at h zz4).2 (by rw [p22a]; exact sm_list hss))) rfl (fun _ => (fun w h => .inr (h.sub SubC.h SubC.h))) (fun b23 p23 => ?_)
  haveI := p23.2.one
  refine wpd_tp 21 rfl zz6 trivial (t_bsG [.agg b5.c.toArray, .agg b8.c.toArray, .agg b13.c.toArray, .agg b18.c.toArray, .agg b23.c.toArray] (hcs [b5, b8, b13, b18, b23]) Try.underlying70 Try.ti72 rfl zz18 rfl zz18 zz18 rfl (by intro v hv; simp only [List.mem_cons, List.not_mem_nil, or_false] at hv; rcases hv with rfl | rfl | rfl | rfl | rfl <;> first | exact HT.c_length _ | rfl) rfl) rfl (fun _ => (fun w h => .inr (h.sub SubC.h SubC.h))) (fun b24 p24 => ?_)
  have htr : Tr.nd 134 [] (trs [b5, b8, b13, b18, b23]) = bodyT l := by
    show Tr.nd 134 [] [b5.tr, b8.tr, b13.tr, b18.tr, b23.tr] = _
    rw [p5.1, p8.1, p13.1, p18.1, p23.1, p22a]; rfl
  have hsm : Sm (Tr.nd 134 [] (trs [b5, b8, b13, b18, b23])) := by rw [htr]; exact sm_body hss hnm
  refine wpd_tp 22 rfl zz6 trivial (t_callPT Try.hb40 rfl fun w h => frz (octSeq 134 b24 [b5, b8, b13, b18, b23] w (h.seen_row zz4) ⟨Mem.hseenF h zz4, Mem.hseenF h zz4, Mem.hseenF h zz4, Mem.hseenF h zz4, Mem.hseenF h zz4, trivial⟩ hsm)) rfl (fun _ => (fun w h => .inr (h.sub SubC.h SubC.h))) (fun b25 p25 => ?_)
  haveI := p25.2.one
  refine wpd_t0 23 rfl zz6 trivial (t_stA Try.ti72 rfl rfl LenC.h OneC.h LenC.h) (fun _ => skk rfl) (fun _ => ?_)
  refine wpd_done zz6 ?_
  refine ex_then <| wpc_ret ?_
  refine retv1 (.inl rfl) rfl (rv_agg Try.underlying72 rfl Try.ti72 rfl (fun w h => h.atB) LenC.h) ?_
  exact fun w1 h => ⟨b25, ⟨p25.1.trans htr, p25.2⟩, rfl, h.below, h.made .nil SubC.h⟩
end Go.Proofs.Ytgnablliekgbgaa
namespace Go.Proofs.Ytgnablliekgbgaa
open Go Go.PL Go.RowKit
theorem shpL_ser : ∀ (ss : List UInt64), shpL (sersT ss) = true
  | [] => rfl
  | s :: ss => by
    show ((!badT 5 (numB s.toNat).length 0 && true) && shpL (sersT ss)) = true
    rw [shpL_ser ss]; simp [badT]
theorem depL_ser : ∀ (ss : List UInt64), depL (sersT ss) ≤ 1
  | [] => Nat.zero_le _
  | s :: ss => by
    have := depL_ser ss
    show max 1 (depL (sersT ss)) ≤ 1
    omega
theorem body_shp (l : Rv) : (bodyT l).shp = true := by
  have h := shpL_ser l.ss
  show ((!badT 134 0 5 && ((!badT 1 l.nm.length 0 && true) && ((!badT 2 (numB l.no.toNat).length 0 && true) && ((!badT 3 (numB (of64 l.fr).toNat).length 0 && true) && ((!badT 4 (numB (of64 l.tt).toNat).length 0 && true) && ((!badT 129 0 (sersT l.ss).length && shpL (sersT l.ss)) && true))))))) = true
  rw [h]; simp [badT]
theorem body_dep (l : Rv) : (bodyT l).dep ≤ 3 := by
  have h := depL_ser l.ss
  show max 1 (max 1 (max 1 (max 1 (max (depL (sersT l.ss) + 1) 0)))) + 1 ≤ 3
  omega
theorem body_cnt (l : Rv) : (bodyT l).cnt = 6 + l.ss.length := by
  show 1 + (1 + 0 + (1 + 0 + (1 + 0 + (1 + 0 + (1 + cntL (sersT l.ss) + 0))))) = _
  rw [cntL_ser]; omega
theorem body_byt {l : Rv} (h2 : l.nm.length ≤ 500) : (bodyT l).byt ≤ 524 + 8 * l.ss.length := by
  have h3 := bytL_ser l.ss
  have h4 := numB_le l.no.toNat l.no.toNat_lt
  have h5 := numB_le (of64 l.fr).toNat (of64 l.fr).toNat_lt
  have h6 := numB_le (of64 l.tt).toNat (of64 l.tt).toNat_lt
  show 0 + (l.nm.length + 0 + ((numB l.no.toNat).length + 0 + ((numB (of64 l.fr).toNat).length + 0 + ((numB (of64 l.tt).toNat).length + 0 + (0 + bytL (sersT l.ss) + 0))))) ≤ _
  omega
theorem chk_tree {t : Tr} (h1 : t.cnt ≤ 4000) (h2 : t.dep ≤ 12) (h3 : t.shp = true) (h4 : t.byt + 5 * t.cnt ≤ 65536) : checkF t = 0 := by
  have h5 := siz_le t (show t.byt + 5 * t.cnt ≤ 1000000 from zz11)
  unfold checkF
  rw [if_neg zz11, if_neg (by simp [h3]), if_neg zz11]
theorem encF_k0 {t : Tr} (h : checkF t = 0) : encF t = (enc t, 0) := if_pos h
theorem chk_body {l : Rv} (h : chkR l = 0) (h2 : l.nm.length ≤ 500) : checkF (bodyT l) = 0 := by
  have h3 := (chk_inv h).1
  have h4 := body_byt h2
  have h5 := body_cnt l
  have h6 := body_dep l
  exact chk_tree zz11 zz11 (body_shp l) zz11
def bdyB (l : Rv) : List UInt8 := if chkR l = 0 then enc (bodyT l) else []
theorem bdy_ok {l : Rv} (h : chkR l = 0) : bdyB l = enc (bodyT l) := if_pos h
theorem bdy_no {l : Rv} (h : chkR l ≠ 0) : bdyB l = [] := if_neg h
theorem octEnc_ok {t : HT} {T : Tr} (w : World) (ht : HSeen w.cell? t) (hsm : Sm T) (hd : T.dep ≤ 12) (hc : checkF T = 0) (e : t.tr = T) : Calls Try.prog 43 [.agg t.c.toArray].toArray w (GivesP w (fun v : Value => SV v (enc T).length) (fun v => .tuple #[v, .int .i64 0]) (fun v => [.row v (enc T).length 5 1 (v8s (enc T))]) (fun _ => [])) := by
  subst e
  have q := octEncode t w ht hsm zz11
  rw [encF_k0 hc] at q
  exact q
theorem refPut_ok {t : HT} {T : Tr} (w : World) (ht : HSeen w.cell? t) (hsm : Sm T) (e : t.tr = T) : Calls Try.prog 45 [.agg t.c.toArray].toArray w (GivesP w (fun v : Value => SV v (enc T).length) (fun v => v) (fun v => [.row v (enc T).length 5 1 (v8s (enc T))]) (fun _ => [])) := by
  subst e
  exact refPut t w ht hsm
theorem rvBodyB (l : Rv) (w : World) (hl : l.seen w.cell?) (hnl : l.nm.length ≤ maxLen) (hss : l.ss.length ≤ 520) (hnm : l.nm.length ≤ 500) :
    Calls Try.prog 19 [.agg l.c.toArray].toArray w (GivesP w (fun v : Value => SV v (bdyB l).length) (fun v => .tuple #[v, .int .i64 (chkR l)]) (fun v => [.row v (bdyB l).length 5 1 (v8s (bdyB l))]) (fun _ => [])) := by
  haveI := hl.svs.one
  have lss := hl.s.sv.le
  have lcs := hl.c.sv.le
  have lps := hl.p.sv.le
  have sss := hl.s.sv
  have scs := hl.c.sv
  have sps := hl.p.sv
  simp only [maxLen] at lss lcs lps
  refine enter (m := 15) (R := Mem w [] [] []) Try.func19 rfl rfl (Nat.le_of_ble_eq_true rfl) (Mem.start w) ?_
  refine wpc_seq <| wpc_region ?_
  refine wpl_t (t_box rfl l.c rfl) rfl (fun b1 => ?_)
  refine wpl_q (q_pure rfl) rfl <| wpl_q (q_pure rfl) rfl <| wpl_nil <| ex_then <| wpc_seq <| wpc_seq <| wpc_region <| wpl_q (q_ldN Try.underlying30 rfl Try.ti30 rfl LenC.h) rfl ?_
  refine wpl_t (t_pur Try.hb12 rfl fun w h => rvCheck l w (hl.old h rfl) hnl) rfl (fun b6 => ?_)
  refine wpl_q (q_pure rfl) rfl <| wpl_nil <| ex_then <| wpc_seq <| wpc_region <| wpl_q (q_pure rfl) rfl <| wpl_q (q_pure rfl) rfl <| wpl_nil <| ex_then ?_
  refine wpc_cond rfl (fun hc8 => ?_) (fun hc8 => ?_)
  ·
   have hN : ¬ chkR l = 0 := by simpa using hc8
   refine wpc_seq <| wpc_region <| wpl_q (q_pure rfl) rfl <| wpl_q (q_pure rfl) rfl <| wpl_q (q_pure rfl) rfl <| wpl_nil <| ex_then <| wpc_ret ?_
   refine ex_then_ret ?_
   refine ret2 (.inl rfl) rfl rfl rfl ?_
   exact fun w1 h => ⟨nl, by rw [bdy_no hN]; exact SV.nil, rfl, h.below, by rw [bdy_no hN]; exact (show Mem w [] [.row nl 0 5 1 []] [] w1 from (h.nilRow 5 1).sel).made (Sub.refl _) .nil⟩
  ·
   have hZ : chkR l = 0 := by simpa using hc8
   refine wpc_skip <| ex_then <| wpc_seq <| wpc_region <| wpl_q (q_ldN Try.underlying30 rfl Try.ti30 rfl LenC.h) rfl ?_
   refine wpl_tp (t_callPT Try.hb44 rfl fun w h => rvBody l w (hl.old h rfl) hnl hss hnm) rfl (fun b11 p11 => ?_)
   haveI := p11.2.one
   refine wpl_tp (t_callP1 Try.hb43 rfl fun w h => octEnc_ok w (Mem.hseenF h zz4) (sm_body hss hnm) (by have := body_dep l; omega) (chk_body hZ hnm) p11.1) rfl (fun b12 p12 => ?_)
   refine wpl_q (q_pure rfl) rfl <| wpl_q (q_pure rfl) rfl <| wpl_q (q_pure rfl) rfl <| wpl_q (q_pure rfl) rfl <| wpl_nil <| ex_then <| wpc_ret ?_
   refine ret2 (.inl rfl) rfl rfl rfl ?_
   exact fun w1 h => ⟨b12, by rw [bdy_ok hZ]; exact p12, zz33, h.below, by rw [bdy_ok hZ]; exact h.made SubC.h .nil⟩
theorem refBodyB (l : Rv) (w : World) (hl : l.seen w.cell?) (hnl : l.nm.length ≤ maxLen) (hss : l.ss.length ≤ 520) (hnm : l.nm.length ≤ 500) :
    Calls Try.prog 20 [.agg l.c.toArray].toArray w (GivesP w (fun v : Value => SV v (bdyB l).length) (fun v => .tuple #[v, .int .i64 (chkR l)]) (fun v => [.row v (bdyB l).length 5 1 (v8s (bdyB l))]) (fun _ => [])) := by
  haveI := hl.svs.one
  have lss := hl.s.sv.le
  have lcs := hl.c.sv.le
  have lps := hl.p.sv.le
  have sss := hl.s.sv
  have scs := hl.c.sv
  have sps := hl.p.sv
  simp only [maxLen] at lss lcs lps
  refine enter (m := 13) (R := Mem w [] [] []) Try.func20 rfl rfl (Nat.le_of_ble_eq_true rfl) (Mem.start w) ?_
  refine wpc_seq <| wpc_region ?_
  refine wpl_t (t_box rfl l.c rfl) rfl (fun b1 => ?_)
  refine wpl_q (q_pure rfl) rfl <| wpl_q (q_pure rfl) rfl <| wpl_nil <| ex_then <| wpc_seq <| wpc_region <| wpl_q (q_ldN Try.underlying30 rfl Try.ti30 rfl LenC.h) rfl ?_
  refine wpl_t (t_pur Try.hb13 rfl fun w h => refRvCheck l w (hl.old h rfl) hnl) rfl (fun b6 => ?_)
  refine wpl_q (q_pure rfl) rfl <| wpl_nil <| ex_then <| wpc_seq <| wpc_seq <| wpc_region <| wpl_q (q_pure rfl) rfl <| wpl_q (q_pure rfl) rfl <| wpl_nil <| ex_then ?_
  refine wpc_cond rfl (fun hc8 => ?_) (fun hc8 => ?_)
  ·
   have hN : ¬ chkR l = 0 := by simpa using hc8
   refine wpc_seq <| wpc_region <| wpl_q (q_pure rfl) rfl <| wpl_q (q_pure rfl) rfl <| wpl_q (q_pure rfl) rfl <| wpl_nil <| ex_then <| wpc_ret ?_
   refine ex_then_ret ?_
   refine ret2 (.inl rfl) rfl rfl rfl ?_
   exact fun w1 h => ⟨nl, by rw [bdy_no hN]; exact SV.nil, rfl, h.below, by rw [bdy_no hN]; exact (show Mem w [] [.row nl 0 5 1 []] [] w1 from (h.nilRow 5 1).sel).made (Sub.refl _) .nil⟩
  ·
   have hZ : chkR l = 0 := by simpa using hc8
   refine wpc_skip <| ex_then <| wpc_seq <| wpc_region <| wpl_q (q_ldN Try.underlying30 rfl Try.ti30 rfl LenC.h) rfl ?_
   refine wpl_tp (t_callPT Try.hb47 rfl fun w h => frz (refValue l w (hl.old h rfl) hnl hss hnm)) rfl (fun b11 p11 => ?_)
   haveI := p11.2.one
   refine wpl_tp (t_callP1 Try.hb45 rfl fun w h => refPut_ok w (Mem.hseenF h zz4) (sm_body hss hnm) p11.1) rfl (fun b12 p12 => ?_)
   refine wpl_q (q_pure rfl) rfl <| wpl_q (q_pure rfl) rfl <| wpl_nil <| ex_then <| wpc_ret ?_
   refine ret2 (.inl rfl) rfl rfl rfl ?_
   exact fun w1 h => ⟨b12, by rw [bdy_ok hZ]; exact p12, zz33, h.below, by rw [bdy_ok hZ]; exact h.made SubC.h .nil⟩
end Go.Proofs.Ytgnablliekgbgaa
namespace Go.Proofs.Ytgnablliekgbgaa
open Go Go.PL Go.RowKit
theorem get16 {l : List (List UInt8)} (h : ∀ x ∈ l, x.length = 16) {i : Nat} (hi : i < l.length) : ((v8s l.flatten).drop (i * 16)).take 16 = v8s (l.getD i []) := by rw [v8s_drop, v8s_take, flat_part l h i hi]
theorem flat_take {l : List (List UInt8)} (h : ∀ x ∈ l, x.length = 16) {i : Nat} (hi : i < l.length) : (l.take (i + 1)).flatten = (l.take i).flatten ++ l.getD i [] := by
  rw [List.take_add_one, List.getD_eq_getElem?_getD, List.getElem?_eq_getElem hi, List.flatten_append]
  simp
theorem take_one (xs : List UInt8) (i : Nat) (h : i < xs.length) : xs.take i ++ [xs.getD i 0] = xs.take (i + 1) := by
  rw [List.take_add_one, List.getD_eq_getElem?_getD, List.getElem?_eq_getElem h]; simp
theorem take_succ_flat (l : List (List UInt8)) (i : Nat) (hi : i < l.length) : (l.take (i + 1)).flatten = (l.take i).flatten ++ l.getD i [] := by
  rw [List.take_add_one, List.getD_eq_getElem?_getD, List.getElem?_eq_getElem hi, List.flatten_append]
  simp
def upto (l : List (List UInt8)) (i k : Nat) : List UInt8 := (l.take i).flatten ++ (l.getD i []).take k
theorem upto_step (l : List (List UInt8)) (i k : Nat) (h : ∀ x ∈ l, x.length = 16) (hi : i < l.length) (hk : k < 16) : upto l i k ++ [(l.getD i []).getD k 0] = upto l i (k + 1) := by
  unfold upto; rw [List.append_assoc, take_one _ _ (by rw [getD_mem_len h hi]; exact hk)]
theorem upto_next (l : List (List UInt8)) (i : Nat) (h : ∀ x ∈ l, x.length = 16) (hi : i < l.length) : upto l i 16 = upto l (i + 1) 0 := by
  unfold upto
  have e : (l.getD i []).take 16 = l.getD i [] := List.take_of_length_le (by rw [getD_mem_len h hi]; omega)
  rw [List.take_zero, List.append_nil, take_succ_flat l i hi, e]
theorem made_jn {w0 w : World} {tg : UInt8} {b : Value} {bs : List UInt8} {n : Nat} (hn : bs.length = n) (h : Mem w0 [] [.row b n 5 1 (v8s bs), .row nl 0 72 3 []] [] w) : New w0.heap.size (HT.nd tg b bs nl []).ents [] w := by
  subst hn
  exact madeT h
theorem joined (tg : UInt8) (cv : Value) (l : List (List UInt8)) (w : World) (hcv : Seen w.cell? cv l.length 16 (v8s l.flatten)) (hll : ∀ x ∈ l, x.length = 16) (hlim : l.length ≤ 1000) :
    Calls Try.prog 42 [.int .u8 tg.toNat, cv].toArray w (GivesP w (fun y : HT => y.tr = Tr.nd tg l.flatten [] ∧ y.sv) (fun y => .agg y.c.toArray) (fun y => y.ents) (fun _ => [])) := by
  have scv := hcv.sv
  have lcv := scv.le
  simp only [maxLen] at lcv
  refine enter (m := 23) (R := Mem w [] [] []) Try.func42 rfl rfl (Nat.le_of_ble_eq_true rfl) (Mem.start w) ?_
  refine wpc_seq <| wpc_region ?_
  refine wpl_t (t_alloc Try.ti72 [.int .u8 0, nl, nl] rfl) rfl (fun b4 => ?_)
  refine wpl_nil <| ex_then <| wpc_seq <| wpc_region <| wpl_q (q_pure rfl) rfl ?_
  refine wpl_q (q_build (cs := [.int .u8 (tg.toNat : Int), nl, nl]) rfl (built_o0 tg)) rfl ?_
  refine wpl_t (t_alloc Try.ti72 [.int .u8 0, nl, nl] rfl) rfl (fun b5 => ?_)
  refine wpl_t0 (t_stA Try.ti72 rfl rfl LenC.h OneC.h LenC.h) (fun _ => ?_)
  refine wpl_nil <| ex_then <| wpc_seq <| wpc_seq <| wpc_region <| wpl_q (q_pure rfl) rfl ?_
  refine wpl_q (q_lenW Try.underlying26 rfl zz2) rfl ?_
  refine wpl_q (q_pure rfl) rfl <| wpl_nil <| ex_then <| wpc_block ?_
  refine wpc_loopc (ι := { x : Nat × Value // (x.1 ≤ l.length) ∧ (SV x.2 (x.1 * 16)) }) [(4, _), (5, _), (10, _), (11, _)] (fun x Lc => (12, .int .i64 ((x.1.1 : Nat) : Int)) :: Lc) (fun x => Mem w [] [.blk b5 72 [.int .u8 (tg.toNat : Int), x.1.2, nl], .blk b4 72 [.int .u8 0, nl, nl], .row x.1.2 (x.1.1 * 16) 5 1 (v8s (l.take x.1.1).flatten)] []) (fun x => l.length - x.1.1) ⟨(0, nl), ⟨Nat.zero_le _, SV.nil⟩⟩ zz7 ?_ ?_
  ·
   exact fun w1 h => by
     dsimp only
     rw [List.take_zero]
     exact (show Mem w [] [.blk b5 72 [.int .u8 (tg.toNat : Int), nl, nl], .blk b4 72 [.int .u8 0, nl, nl], .row nl 0 5 1 []] [] w1 from (h.nilRow 5 1).sel)
  ·
   rintro ⟨⟨i, v⟩, ⟨hi0, hi1⟩⟩; try dsimp only
   have hi0 : i ≤ l.length := hi0; have hi1 : SV v (i * 16) := hi1
   haveI := oneH (t := tg) hi1 SV.nil
   refine wpc_seq <| wpc_region <| wpl_q (q_pure rfl) rfl <| wpl_nil <| ex_then <| wpc_seq ?_
   refine wpc_cond rfl (fun hc13 => ?_) (fun hc13 => ?_)
   ·
    simp only [decide_eq_true_eq] at hc13
    have hil : i < l.length := by omega
    have hgl : (l.getD i []).length = 16 := getD_mem_len hll hil
    refine wpc_skip <| ex_then <| wpc_seq <| wpc_block <| wpc_seq <| wpc_region ?_
    refine wpl_q (q_idxW Try.underlying26 Try.ti62 rfl rfl zz2 zz0) rfl ?_
    refine wpl_q (q_ldWN Try.underlying62 rfl Try.ti62 rfl (fun w h => zz12) (v8s (l.getD i [])) (get16 hll hil) (by rw [v8s_length]; exact hgl)) rfl ?_
    refine wpl_t (t_alloc Try.ti62 (v8s (List.replicate 16 0)) rfl) rfl (fun b7 => ?_)
    refine wpl_t0 (t_stA Try.ti62 rfl rfl (by rw [v8s_length]; exact hgl) (v8s_one _) (by rw [v8s_length, List.length_replicate])) (fun _ => ?_)
    refine wpl_nil <| ex_then ?_
    refine wpc_draw 3 zz6 (fun _ h => h.drew) ?_
    refine wpd_p 0 rfl zz6 trivial (q_field Try.underlying72 rfl Try.ti43 rfl rfl _ rfl) rfl sk0 ?_
    refine wpd_q 1 rfl zz6 trivial (q_ld Try.underlying43 rfl rfl rfl) rfl (fun _ h => h) ?_
    refine wpd_p 2 rfl zz6 trivial (q_arAll Try.underlying62 Try.ti5 rfl rfl) rfl sk0 ?_
    refine wpd_tp 3 rfl zz6 trivial (t_apW Try.underlying43 Try.ti5 rfl zz18 rfl rfl (fun w h => h.seenA zz18 (by rw [v8s_length, hgl])) (v8s_one _) zz0 zz0 (v8s (l.take (i + 1)).flatten) (by rw [flat_take hll hil]; exact (v8s_append _ _).symm)) rfl (fun _ => skk rfl) (fun b19 p19 => ?_)
    haveI := oneH (t := tg) p19 SV.nil
    refine wpd_p 4 rfl zz6 trivial (q_field Try.underlying72 rfl Try.ti43 rfl rfl _ rfl) rfl (skk rfl) ?_
    refine wpd_t0 5 rfl zz6 trivial (t_st1 Try.ti43 rfl rfl (SV.one zz2) zz3 [.int .u8 (tg.toNat : Int), b19, nl] rfl) (fun _ => skk rfl) (fun _ => ?_)
    refine wpd_done zz6 ?_
    refine ex_block <| ex_then <| wpc_region ?_
    refine wpl_q (q_addN (b := 1) rfl rfl zz0) rfl ?_
    refine wpl_q (q_pure rfl) rfl <| wpl_nil ?_
    refine ex_again ⟨(i + 1, b19), ⟨by dsimp only; omega, by rw [Nat.add_mul]; exact p19⟩⟩ ?_ ?_ ?_
    ·
     exact zz7
    ·
     exact fun w h => by
       dsimp only
       rw [Nat.add_mul]
       exact h.sel
    ·
     (show l.length - (i + 1) < l.length - i); omega
   ·
    simp only [decide_eq_false_iff_not] at hc13
    obtain rfl : i = l.length := by omega
    rw [List.take_length]
    refine wpc_exit ?_
    refine ex_then_exit ?_
    refine ex_then_exit ?_
    refine ex_block_hit ?_
    refine ex_then <| wpc_seq <| wpc_region <| wpl_q (q_ldN Try.underlying72 rfl Try.ti72 rfl LenC.h) rfl ?_
    refine wpl_t0 (t_stA Try.ti72 rfl rfl LenC.h OneC.h LenC.h) (fun _ => ?_)
    refine wpl_nil <| ex_then <| wpc_ret ?_
    refine retv1 (.inl rfl) rfl (rv_agg Try.underlying72 rfl Try.ti72 rfl (fun w h => h.atB) LenC.h) ?_
    exact fun w1 h => ⟨.nd tg v l.flatten nl [], ⟨rfl, by show SV v l.flatten.length; rw [flat_len l hll]; exact hi1, SV.nil⟩, rfl, h.below, made_jn (flat_len l hll) (h.nilRow 72 3).sel⟩
theorem refBytes10 (cv : Value) (l : List (List UInt8)) (w : World) (hcv : Seen w.cell? cv l.length 16 (v8s l.flatten)) (hll : ∀ x ∈ l, x.length = 16) (hlim : l.length ≤ 1000) :
    Calls Try.prog 103 [cv].toArray w (GivesP w (fun v : Value => SV v l.flatten.length) (fun v => v) (fun v => [.row v l.flatten.length 5 1 (v8s l.flatten)]) (fun _ => [])) := by
  have scv := hcv.sv
  have lcv := scv.le
  simp only [maxLen] at lcv
  refine enter (m := 26) (R := Mem w [] [] []) Try.func103 rfl rfl (Nat.le_of_ble_eq_true rfl) (Mem.start w) ?_
  refine wpc_seq <| wpc_region <| wpl_q (q_pure rfl) rfl <| wpl_nil <| ex_then <| wpc_seq <| wpc_region <| wpl_q (q_pure rfl) rfl <| wpl_nil <| ex_then <| wpc_seq <| wpc_seq ?_
  refine wpc_region <| wpl_q (q_pure rfl) rfl <| wpl_nil <| ex_then <| wpc_block ?_
  refine wpc_loopc (ι := { x : Nat × Value // (x.1 ≤ l.length) ∧ (SV x.2 (x.1 * 16 + 0)) }) [(0, _)] (fun x Lc => (4, .int .i64 ((x.1.1 : Nat) : Int)) :: (3, x.1.2) :: Lc) (fun x => Mem w [] [.row x.1.2 (x.1.1 * 16 + 0) 5 1 (v8s (upto l x.1.1 0))] []) (fun x => l.length - x.1.1) ⟨(0, nl), ⟨Nat.zero_le _, SV.nil⟩⟩ zz7 ?_ ?_
  ·
   exact fun w h => h.nilRow 5 1
  ·
   rintro ⟨⟨i, v2⟩, ⟨hi0, hi1⟩⟩; try dsimp only
   have hi0 : i ≤ l.length := hi0; have hi1 : SV v2 (i * 16 + 0) := hi1
   refine wpc_seq <| wpc_seq <| wpc_region <| wpl_q (q_pure rfl) rfl <| wpl_q (q_pure rfl) rfl ?_
   refine wpl_q (q_lenW Try.underlying26 rfl zz2) rfl ?_
   refine wpl_q (q_pure rfl) rfl <| wpl_nil <| ex_then ?_
   refine wpc_cond rfl (fun hc9 => ?_) (fun hc9 => ?_)
   ·
    simp only [decide_eq_true_eq] at hc9
    have hil : i < l.length := by omega
    have hiv := hi1
    refine wpc_skip <| ex_then <| wpc_seq <| wpc_block <| wpc_seq <| wpc_region <| wpl_q (q_pure rfl) rfl <| wpl_nil <| ex_then <| wpc_block ?_
    refine wpc_loopc (ι := { x : Nat × Value // (x.1 ≤ 16) ∧ (SV x.2 (i * 16 + x.1)) }) [(0, _), (4, _)] (fun x Lc => (5, .int .i64 ((x.1.1 : Nat) : Int)) :: (3, x.1.2) :: Lc) (fun x => Mem w [] [.row x.1.2 (i * 16 + x.1.1) 5 1 (v8s (upto l i x.1.1))] []) (fun x => 16 - x.1.1) ⟨(0, v2), ⟨Nat.zero_le _, hiv⟩⟩ zz7 ?_ ?_
    ·
     exact fun w h => h
    ·
     rintro ⟨⟨k, v3⟩, ⟨hi0, hi1⟩⟩; try dsimp only
     have hi0 : k ≤ 16 := hi0; have hi1 : SV v3 (i * 16 + k) := hi1
     refine wpc_seq <| wpc_seq <| wpc_region <| wpl_q (q_pure rfl) rfl <| wpl_q (q_pure rfl) rfl <| wpl_nil <| ex_then ?_
     refine wpc_cond rfl (fun hc13 => ?_) (fun hc13 => ?_)
     ·
      simp only [decide_eq_true_eq] at hc13
      have hk16 : k < 16 := by omega
      refine wpc_skip <| ex_then <| wpc_seq <| wpc_block <| wpc_region <| wpl_q (q_pure rfl) rfl <| wpl_q (q_pure rfl) rfl <| wpl_q (q_pure rfl) rfl <| wpl_q (q_pure rfl) rfl ?_
      refine wpl_q (q_idxW Try.underlying26 Try.ti62 rfl rfl zz2 zz0) rfl ?_
      refine wpl_q (q_idxP1 Try.underlying62 Try.ti5 rfl rfl zz11) rfl ?_
      refine wpl_q (q_ldWF Try.underlying5 rfl rfl (fun w h => zz12) (get2 hll hil hk16)) rfl ?_
      refine wpl_tp (t_bsV (v8s [_]) Try.underlying43 Try.ti5 rfl rfl zz18 zz18 rfl (v8s_one _)) rfl (fun b23 p23 => ?_)
      refine wpl_tp (t_apW Try.underlying43 Try.ti5 rfl zz18 rfl rfl (fun w h => zz12) OneC.h zz0 zz0 (v8s (upto l i (k + 1))) (by rw [← upto_step l i k hll hil hk16]; exact (v8s_append _ _).symm)) rfl (fun b24 p24 => ?_)
      refine wpl_q (q_pure rfl) rfl <| wpl_nil <| ex_block <| ex_then <| wpc_region <| wpl_q (q_pure rfl) rfl ?_
      refine wpl_q (q_addN (b := 1) rfl rfl zz0) rfl ?_
      refine wpl_q (q_pure rfl) rfl <| wpl_nil ?_
      refine ex_again ⟨(k + 1, b24), ⟨by dsimp only; omega, p24⟩⟩ ?_ ?_ ?_
      ·
       exact zz7
      ·
       exact fun w h => by
         dsimp only
         exact h.sel
      ·
       (show 16 - (k + 1) < 16 - k); omega
     ·
      simp only [decide_eq_false_iff_not] at hc13
      obtain rfl : k = 16 := by omega
      refine wpc_exit ?_
      refine ex_then_exit ?_
      refine ex_then_exit ?_
      refine ex_block_hit ?_
      refine ex_block <| ex_then <| wpc_region <| wpl_q (q_pure rfl) rfl ?_
      refine wpl_q (q_addN (b := 1) rfl rfl zz0) rfl ?_
      refine wpl_q (q_pure rfl) rfl <| wpl_nil ?_
      refine ex_again ⟨(i + 1, v3), ⟨by dsimp only; omega, by show SV v3 ((i + 1) * 16 + 0); rw [show (i + 1) * 16 + 0 = i * 16 + 16 from zz11]; exact hi1⟩⟩ ?_ ?_ ?_
      ·
       exact zz7
      ·
       exact fun w h => by
         dsimp only
         rw [← upto_next l i hll hil, show (i + 1) * 16 + 0 = i * 16 + 16 from zz11]
         exact h
      ·
       (show l.length - (i + 1) < l.length - i); omega
   ·
    simp only [decide_eq_false_iff_not] at hc9
    obtain rfl : i = l.length := by omega
    have hup : upto l l.length 0 = l.flatten := by unfold upto; rw [List.take_zero, List.append_nil, List.take_of_length_le (Nat.le_refl _)]
    refine wpc_exit ?_
    refine ex_then_exit ?_
    refine ex_then_exit ?_
    refine ex_block_hit ?_
    refine ex_then <| wpc_seq <| wpc_region <| wpl_q (q_pure rfl) rfl <| wpl_q (q_pure rfl) rfl <| wpl_nil <| ex_then <| wpc_ret ?_
    refine ret1 (.inl rfl) rfl rfl ?_
    exact fun w1 h => ⟨v2, by rw [flat_len l hll]; exact hi1, rfl, h.below, by rw [hup] at h; rw [flat_len l hll]; exact h.made SubC.h .nil⟩
end Go.Proofs.Ytgnablliekgbgaa
namespace Go.Proofs.Ytgnablliekgbgaa
open Go Go.PL Go.RowKit
def sigT3 (ix : Int) (chs ps : List (List UInt8)) : Tr := .nd 131 [] [.nd 1 (numB (of64 ix).toNat) [], .nd 2 chs.flatten [], .nd 3 ps.flatten []]
def sigT (l : Rv) : Tr := sigT3 l.ix l.chs l.ps
def wholeT (l : Rv) : Tr := .nd 135 [] [bodyT l, sigT l]
theorem sig_byt {ix : Int} {chs ps : List (List UInt8)} (hc : ∀ x ∈ chs, x.length = 16) (hp : ∀ x ∈ ps, x.length = 16) (h1 : chs.length ≤ 60) (h2 : ps.length ≤ 60) : (sigT3 ix chs ps).byt ≤ 1928 := by
  have h3 := numB_le (of64 ix).toNat (of64 ix).toNat_lt
  have h4 := flat_len chs hc
  have h5 := flat_len ps hp
  show 0 + ((numB (of64 ix).toNat).length + 0 + (chs.flatten.length + 0 + (ps.flatten.length + 0 + 0))) ≤ _
  omega
theorem sm_sig {ix : Int} {chs ps : List (List UInt8)} (hc : ∀ x ∈ chs, x.length = 16) (hp : ∀ x ∈ ps, x.length = 16) (h1 : chs.length ≤ 60) (h2 : ps.length ≤ 60) : Sm (sigT3 ix chs ps) := by
  have h3 := sig_byt (ix := ix) hc hp h1 h2
  show (sigT3 ix chs ps).byt + 5 * 4 ≤ 1000000
  omega
theorem sig_shp (ix : Int) (chs ps : List (List UInt8)) : (sigT3 ix chs ps).shp = true := by
  show ((!badT 131 0 3 && ((!badT 1 (numB (of64 ix).toNat).length 0 && true) && ((!badT 2 chs.flatten.length 0 && true) && ((!badT 3 ps.flatten.length 0 && true) && true))))) = true
  simp [badT]
structure RLim (l : Rv) : Prop where
  nm : l.nm.length ≤ 500
  ss : l.ss.length ≤ 520
  c : l.chs.length ≤ 60
  p : l.ps.length ≤ 60
theorem whole_cnt (l : Rv) : (wholeT l).cnt = 11 + l.ss.length := by
  show 1 + ((bodyT l).cnt + (4 + 0)) = _
  rw [body_cnt]; omega
theorem whole_byt {l : Rv} (h : RLim l) (hc : ∀ x ∈ l.chs, x.length = 16) (hp : ∀ x ∈ l.ps, x.length = 16) : (wholeT l).byt ≤ 2452 + 8 * l.ss.length := by
  have h1 := body_byt h.nm
  have h2 := sig_byt (ix := l.ix) hc hp h.c h.p
  show 0 + ((bodyT l).byt + ((sigT3 l.ix l.chs l.ps).byt + 0)) ≤ _
  omega
theorem sm_whole {l : Rv} (h : RLim l) (hc : ∀ x ∈ l.chs, x.length = 16) (hp : ∀ x ∈ l.ps, x.length = 16) : Sm (wholeT l) := by
  have h1 := whole_byt h hc hp
  have h2 := whole_cnt l
  have h3 := h.ss
  show (wholeT l).byt + 5 * (wholeT l).cnt ≤ 1000000
  omega
theorem whole_dep (l : Rv) : (wholeT l).dep ≤ 4 := by
  have h := body_dep l
  show max (bodyT l).dep (max (max 1 (max 1 (max 1 0)) + 1) 0) + 1 ≤ 4
  omega
theorem whole_shp (l : Rv) : (wholeT l).shp = true := by
  have h := body_shp l
  have h2 := sig_shp l.ix l.chs l.ps
  show (!badT 135 0 2 && ((bodyT l).shp && ((sigT3 l.ix l.chs l.ps).shp && true))) = true
  rw [h, h2]; simp [badT]
theorem chk_whole {l : Rv} (h : chkR l = 0) (k : RLim l) (hc : ∀ x ∈ l.chs, x.length = 16) (hp : ∀ x ∈ l.ps, x.length = 16) : checkF (wholeT l) = 0 := by
  have h3 := (chk_inv h).1
  have h4 := whole_byt k hc hp
  have h5 := whole_cnt l
  have h6 := whole_dep l
  exact chk_tree zz11 zz11 (whole_shp l) zz11
def encB (l : Rv) : List UInt8 := if chkR l = 0 then enc (wholeT l) else []
theorem enc_ok {l : Rv} (h : chkR l = 0) : encB l = enc (wholeT l) := if_pos h
theorem enc_no {l : Rv} (h : chkR l ≠ 0) : encB l = [] := if_neg h
theorem rvEncode (l : Rv) (w : World) (hl : l.seen w.cell?) (hnl : l.nm.length ≤ maxLen) (hk : RLim l) :
    Calls Try.prog 17 [.agg l.c.toArray].toArray w (GivesP w (fun v : Value => SV v (encB l).length) (fun v => .tuple #[v, .int .i64 (chkR l)]) (fun v => [.row v (encB l).length 5 1 (v8s (encB l))]) (fun _ => [])) := by
  haveI := hl.svs.one
  have lss := hl.s.sv.le
  have lcs := hl.c.sv.le
  have lps := hl.p.sv.le
  have sss := hl.s.sv
  have scs := hl.c.sv
  have sps := hl.p.sv
  simp only [maxLen] at lss lcs lps
  refine enter (m := 34) (R := Mem w [] [] []) Try.func17 rfl rfl (Nat.le_of_ble_eq_true rfl) (Mem.start w) ?_
  refine wpc_seq <| wpc_region ?_
  refine wpl_t (t_box rfl l.c rfl) rfl (fun b1 => ?_)
  refine wpl_q (q_pure rfl) rfl <| wpl_q (q_pure rfl) rfl <| wpl_nil <| ex_then <| wpc_seq <| wpc_seq <| wpc_region <| wpl_q (q_ldN Try.underlying30 rfl Try.ti30 rfl LenC.h) rfl ?_
  refine wpl_t (t_pur Try.hb12 rfl fun w h => rvCheck l w (hl.old h rfl) hnl) rfl (fun b7 => ?_)
  refine wpl_q (q_pure rfl) rfl <| wpl_nil <| ex_then <| wpc_seq <| wpc_region <| wpl_q (q_pure rfl) rfl <| wpl_q (q_pure rfl) rfl <| wpl_nil <| ex_then ?_
  refine wpc_cond rfl (fun hc9 => ?_) (fun hc9 => ?_)
  ·
   have hN : ¬ chkR l = 0 := by simpa using hc9
   refine wpc_seq <| wpc_region <| wpl_q (q_pure rfl) rfl <| wpl_q (q_pure rfl) rfl <| wpl_q (q_pure rfl) rfl <| wpl_nil <| ex_then <| wpc_ret ?_
   refine ex_then_ret ?_
   refine ret2 (.inl rfl) rfl rfl rfl ?_
   exact fun w1 h => ⟨nl, by rw [enc_no hN]; exact SV.nil, rfl, h.below, by rw [enc_no hN]; exact (show Mem w [] [.row nl 0 5 1 []] [] w1 from (h.nilRow 5 1).sel).made (Sub.refl _) .nil⟩
  ·
   have hZ : chkR l = 0 := by simpa using hc9
   refine wpc_skip <| ex_then <| wpc_seq ?_
   refine wpc_draw 16 zz6 (fun _ h => h.drew) ?_
   refine wpd_p 0 rfl zz6 trivial (q_field Try.underlying30 rfl Try.ti28 rfl rfl _ rfl) rfl sk0 ?_
   refine wpd_p 1 rfl zz6 trivial (q_field Try.underlying28 rfl Try.ti3 rfl rfl _ rfl) rfl sk0 ?_
   refine wpd_q 2 rfl zz6 trivial (q_ld Try.underlying3 rfl rfl (show l.c[5]? = some (.int .i64 l.ix) from rfl)) rfl (fun _ h => h) ?_
   refine wpd_p 3 rfl zz6 trivial (q64_conv Try.underlying3 Try.underlying22 rfl) rfl sk0 ?_
   refine wpd_p 5 rfl zz6 trivial (q_field Try.underlying30 rfl Try.ti28 rfl rfl _ rfl) rfl sk0 ?_
   refine wpd_p 6 rfl zz6 trivial (q_field Try.underlying28 rfl Try.ti26 rfl rfl _ rfl) rfl sk0 ?_
   refine wpd_q 7 rfl zz6 trivial (q_ld Try.underlying26 rfl rfl (show l.c[6]? = some (l.cv) from rfl)) rfl (fun _ h => h) ?_
   refine wpd_p 9 rfl zz6 trivial (q_field Try.underlying30 rfl Try.ti28 rfl rfl _ rfl) rfl sk0 ?_
   refine wpd_p 10 rfl zz6 trivial (q_field Try.underlying28 rfl Try.ti26 rfl rfl _ rfl) rfl sk0 ?_
   refine wpd_q 11 rfl zz6 trivial (q_ld Try.underlying26 rfl rfl (show l.c[7]? = some (l.pv) from rfl)) rfl (fun _ h => h) ?_
   refine wpd_two 4 15 zz6 ?_ ?_
   ·
    refine wpa_tp 4 rfl trivial (t_callPT Try.hb41 rfl fun w h => frz (octNum 1 (of64 l.ix) w)) rfl (fun _ => (fun w h => .inr (h.sub SubC.h SubC.h))) (fun b15 p15 => ?_)
    haveI := p15.2.one
    refine wpd_two 8 15 zz6 ?_ ?_
    ·
     refine wpa_tp 8 rfl trivial (t_callPT Try.hb42 rfl fun w h => frz (joined 2 l.cv l.chs w (h.seen_old hl.c) hl.lc (by have := hk.c; omega))) rfl (fun _ => (fun w h => .inr (h.sub SubC.h SubC.h))) (fun b19 p19 => ?_)
     haveI := p19.2.one
     refine wpd_two 12 15 zz6 ?_ ?_
     ·
      refine wpa_tp 12 rfl trivial (t_callPT Try.hb42 rfl fun w h => frz (joined 3 l.pv l.ps w (h.seen_old hl.p) hl.lp (by have := hk.p; omega))) rfl (fun _ => (fun w h => .inr (h.sub SubC.h SubC.h))) (fun b23 p23 => ?_)
      haveI := p23.2.one
      refine wpd_two 13 15 zz6 ?_ ?_
      ·
       refine wpa_tp 13 rfl trivial (t_bsG [.agg b15.c.toArray, .agg b19.c.toArray, .agg b23.c.toArray] (hcs [b15, b19, b23]) Try.underlying70 Try.ti72 rfl zz18 rfl zz18 zz18 rfl zz22 rfl) rfl (fun _ => (fun w h => .inr (h.sub SubC.h SubC.h))) (fun b24 p24 => ?_)
       have htr : Tr.nd 131 [] (trs [b15, b19, b23]) = sigT l := by
         show Tr.nd 131 [] [b15.tr, b19.tr, b23.tr] = _
         rw [p15.1, p19.1, p23.1]; rfl
       have hsm : Sm (Tr.nd 131 [] (trs [b15, b19, b23])) := by rw [htr]; exact sm_sig hl.lc hl.lp hk.c hk.p
       refine wpd_two 14 15 zz6 ?_ ?_
       ·
        refine wpa_tp 14 rfl trivial (t_callPT Try.hb40 rfl fun w h => frz (octSeq 131 b24 [b15, b19, b23] w (h.seen_row zz4) ⟨Mem.hseenF h zz4, Mem.hseenF h zz4, Mem.hseenF h zz4, trivial⟩ hsm)) rfl (fun _ => (fun w h => .inr (h.sub SubC.h SubC.h))) (fun b25 p25 => ?_)
        haveI := p25.2.one
        refine wpd_t 15 rfl zz6 trivial (t_alloc Try.ti72 [.int .u8 0, nl, nl] rfl) rfl (fun _ => (fun w h => .inr (h.sub SubC.h SubC.h))) (fun b5 => ?_)
        refine wpd_t0 16 rfl zz6 trivial (t_stA Try.ti72 rfl rfl LenC.h OneC.h LenC.h) (fun _ => skk rfl) (fun _ => ?_)
        refine wpd_done zz6 ?_
        refine ex_then <| wpc_seq ?_
        refine wpc_draw 10 zz6 (fun _ h => h.drew) ?_
        refine wpd_q 0 rfl zz6 trivial (q_ldN Try.underlying30 rfl Try.ti30 rfl LenC.h) rfl (fun _ h => h) ?_
        refine wpd_q 2 rfl zz6 trivial (q_ldN Try.underlying72 rfl Try.ti72 rfl LenC.h) rfl (fun _ h => h) ?_
        refine wpd_tp 1 rfl zz6 trivial (t_callPT Try.hb44 rfl fun w h => rvBody l w (hl.old h rfl) hnl hk.ss hk.nm) rfl (fun _ => (fun w h => .inr (h.sub SubC.h SubC.h))) (fun b27 p27 => ?_)
        haveI := p27.2.one
        refine wpd_tp 3 rfl zz6 trivial (t_bsG [.agg b27.c.toArray, .agg b25.c.toArray] (hcs [b27, b25]) Try.underlying70 Try.ti72 rfl zz18 rfl zz18 zz18 rfl zz20 rfl) rfl (fun _ => (fun w h => .inr (h.sub SubC.h SubC.h))) (fun b29 p29 => ?_)
        have htw : Tr.nd 135 [] (trs [b27, b25]) = wholeT l := by
          show Tr.nd 135 [] [b27.tr, b25.tr] = _
          rw [p27.1, p25.1, htr]; rfl
        have hsw : Sm (Tr.nd 135 [] (trs [b27, b25])) := by rw [htw]; exact sm_whole hk hl.lc hl.lp
        refine wpd_tp 4 rfl zz6 trivial (t_callPT Try.hb40 rfl fun w h => frz (octSeq 135 b29 [b27, b25] w (h.seen_row zz4) ⟨Mem.hseenF h zz4, Mem.hseenF h zz4, trivial⟩ hsw)) rfl (fun _ => (fun w h => .inr (h.sub SubC.h SubC.h))) (fun b30 p30 => ?_)
        haveI := p30.2.one
        refine wpd_tp 5 rfl zz6 trivial (t_callP1 Try.hb43 rfl fun w h => octEnc_ok w (Mem.hseenF h zz4) (sm_whole hk hl.lc hl.lp) (by have := whole_dep l; omega) (chk_whole hZ hk hl.lc hl.lp) (p30.1.trans htw)) rfl (fun _ => (fun w h => .inr (h.sub SubC.h SubC.h))) (fun b31 p31 => ?_)
        refine wpd_p 6 rfl zz6 trivial (q_pure rfl) rfl (fun w h => .inr (h.sub SubC.h SubC.h)) ?_
        refine wpd_p 7 rfl zz6 trivial (q_pure rfl) rfl (fun w h => .inr (h.sub SubC.h SubC.h)) ?_
        refine wpd_p 8 rfl zz6 trivial (q_pure rfl) rfl (fun w h => .inr (h.sub SubC.h SubC.h)) ?_
        refine wpd_p 9 rfl zz6 trivial (q_pure rfl) rfl (fun w h => .inr (h.sub SubC.h SubC.h)) ?_
        refine wpd_done zz6 ?_
        refine ex_then <| wpc_ret ?_
        refine ret2 (.inl rfl) rfl rfl rfl ?_
        exact fun w1 h => ⟨b31, by rw [enc_ok hZ]; exact p31, zz33, h.below, zz41⟩
       ·
        refine wpa_t 15 rfl trivial (t_alloc Try.ti72 [.int .u8 0, nl, nl] rfl) rfl (fun _ => (fun w h => .inr (h.sub SubC.h SubC.h))) (fun b5 => ?_)
        refine wpd_tp 14 rfl zz6 trivial (t_callPT Try.hb40 rfl fun w h => frz (octSeq 131 b24 [b15, b19, b23] w (h.seen_row zz4) ⟨Mem.hseenF h zz4, Mem.hseenF h zz4, Mem.hseenF h zz4, trivial⟩ hsm)) rfl (fun _ => (fun w h => .inr (h.sub SubC.h SubC.h))) (fun b25 p25 => ?_)
        haveI := p25.2.one
        refine wpd_t0 16 rfl zz6 trivial (t_stA Try.ti72 rfl rfl LenC.h OneC.h LenC.h) (fun _ => skk rfl) (fun _ => ?_)
        refine wpd_done zz6 ?_
        refine ex_then <| wpc_seq ?_
        refine wpc_draw 10 zz6 (fun _ h => h.drew) ?_
        refine wpd_q 0 rfl zz6 trivial (q_ldN Try.underlying30 rfl Try.ti30 rfl LenC.h) rfl (fun _ h => h) ?_
        refine wpd_q 2 rfl zz6 trivial (q_ldN Try.underlying72 rfl Try.ti72 rfl LenC.h) rfl (fun _ h => h) ?_
        refine wpd_tp 1 rfl zz6 trivial (t_callPT Try.hb44 rfl fun w h => rvBody l w (hl.old h rfl) hnl hk.ss hk.nm) rfl (fun _ => (fun w h => .inr (h.sub SubC.h SubC.h))) (fun b27 p27 => ?_)
        haveI := p27.2.one
        refine wpd_tp 3 rfl zz6 trivial (t_bsG [.agg b27.c.toArray, .agg b25.c.toArray] (hcs [b27, b25]) Try.underlying70 Try.ti72 rfl zz18 rfl zz18 zz18 rfl zz20 rfl) rfl (fun _ => (fun w h => .inr (h.sub SubC.h SubC.h))) (fun b29 p29 => ?_)
        have htw : Tr.nd 135 [] (trs [b27, b25]) = wholeT l := by
          show Tr.nd 135 [] [b27.tr, b25.tr] = _
          rw [p27.1, p25.1, htr]; rfl
        have hsw : Sm (Tr.nd 135 [] (trs [b27, b25])) := by rw [htw]; exact sm_whole hk hl.lc hl.lp
        refine wpd_tp 4 rfl zz6 trivial (t_callPT Try.hb40 rfl fun w h => frz (octSeq 135 b29 [b27, b25] w (h.seen_row zz4) ⟨Mem.hseenF h zz4, Mem.hseenF h zz4, trivial⟩ hsw)) rfl (fun _ => (fun w h => .inr (h.sub SubC.h SubC.h))) (fun b30 p30 => ?_)
        haveI := p30.2.one
        refine wpd_tp 5 rfl zz6 trivial (t_callP1 Try.hb43 rfl fun w h => octEnc_ok w (Mem.hseenF h zz4) (sm_whole hk hl.lc hl.lp) (by have := whole_dep l; omega) (chk_whole hZ hk hl.lc hl.lp) (p30.1.trans htw)) rfl (fun _ => (fun w h => .inr (h.sub SubC.h SubC.h))) (fun b31 p31 => ?_)
        refine wpd_p 6 rfl zz6 trivial (q_pure rfl) rfl (fun w h => .inr (h.sub SubC.h SubC.h)) ?_
        refine wpd_p 7 rfl zz6 trivial (q_pure rfl) rfl (fun w h => .inr (h.sub SubC.h SubC.h)) ?_
        refine wpd_p 8 rfl zz6 trivial (q_pure rfl) rfl (fun w h => .inr (h.sub SubC.h SubC.h)) ?_
        refine wpd_p 9 rfl zz6 trivial (q_pure rfl) rfl (fun w h => .inr (h.sub SubC.h SubC.h)) ?_
        refine wpd_done zz6 ?_
        refine ex_then <| wpc_ret ?_
        refine ret2 (.inl rfl) rfl rfl rfl ?_
        exact fun w1 h => ⟨b31, by rw [enc_ok hZ]; exact p31, zz33, h.below, zz41⟩
      ·
       refine wpa_t 15 rfl trivial (t_alloc Try.ti72 [.int .u8 0, nl, nl] rfl) rfl (fun _ => (fun w h => .inr (h.sub SubC.h SubC.h))) (fun b5 => ?_)
       refine wpd_tp 13 rfl zz6 trivial (t_bsG [.agg b15.c.toArray, .agg b19.c.toArray, .agg b23.c.toArray] (hcs [b15, b19, b23]) Try.underlying70 Try.ti72 rfl zz18 rfl zz18 zz18 rfl zz22 rfl) rfl (fun _ => (fun w h => .inr (h.sub SubC.h SubC.h))) (fun b24 p24 => ?_)
       have htr : Tr.nd 131 [] (trs [b15, b19, b23]) = sigT l := by
         show Tr.nd 131 [] [b15.tr, b19.tr, b23.tr] = _
         rw [p15.1, p19.1, p23.1]; rfl
       have hsm : Sm (Tr.nd 131 [] (trs [b15, b19, b23])) := by rw [htr]; exact sm_sig hl.lc hl.lp hk.c hk.p
       refine wpd_tp 14 rfl zz6 trivial (t_callPT Try.hb40 rfl fun w h => frz (octSeq 131 b24 [b15, b19, b23] w (h.seen_row zz4) ⟨Mem.hseenF h zz4, Mem.hseenF h zz4, Mem.hseenF h zz4, trivial⟩ hsm)) rfl (fun _ => (fun w h => .inr (h.sub SubC.h SubC.h))) (fun b25 p25 => ?_)
       haveI := p25.2.one
       refine wpd_t0 16 rfl zz6 trivial (t_stA Try.ti72 rfl rfl LenC.h OneC.h LenC.h) (fun _ => skk rfl) (fun _ => ?_)
       refine wpd_done zz6 ?_
       refine ex_then <| wpc_seq ?_
       refine wpc_draw 10 zz6 (fun _ h => h.drew) ?_
       refine wpd_q 0 rfl zz6 trivial (q_ldN Try.underlying30 rfl Try.ti30 rfl LenC.h) rfl (fun _ h => h) ?_
       refine wpd_q 2 rfl zz6 trivial (q_ldN Try.underlying72 rfl Try.ti72 rfl LenC.h) rfl (fun _ h => h) ?_
       refine wpd_tp 1 rfl zz6 trivial (t_callPT Try.hb44 rfl fun w h => rvBody l w (hl.old h rfl) hnl hk.ss hk.nm) rfl (fun _ => (fun w h => .inr (h.sub SubC.h SubC.h))) (fun b27 p27 => ?_)
       haveI := p27.2.one
       refine wpd_tp 3 rfl zz6 trivial (t_bsG [.agg b27.c.toArray, .agg b25.c.toArray] (hcs [b27, b25]) Try.underlying70 Try.ti72 rfl zz18 rfl zz18 zz18 rfl zz20 rfl) rfl (fun _ => (fun w h => .inr (h.sub SubC.h SubC.h))) (fun b29 p29 => ?_)
       have htw : Tr.nd 135 [] (trs [b27, b25]) = wholeT l := by
         show Tr.nd 135 [] [b27.tr, b25.tr] = _
         rw [p27.1, p25.1, htr]; rfl
       have hsw : Sm (Tr.nd 135 [] (trs [b27, b25])) := by rw [htw]; exact sm_whole hk hl.lc hl.lp
       refine wpd_tp 4 rfl zz6 trivial (t_callPT Try.hb40 rfl fun w h => frz (octSeq 135 b29 [b27, b25] w (h.seen_row zz4) ⟨Mem.hseenF h zz4, Mem.hseenF h zz4, trivial⟩ hsw)) rfl (fun _ => (fun w h => .inr (h.sub SubC.h SubC.h))) (fun b30 p30 => ?_)
       haveI := p30.2.one
       refine wpd_tp 5 rfl zz6 trivial (t_callP1 Try.hb43 rfl fun w h => octEnc_ok w (Mem.hseenF h zz4) (sm_whole hk hl.lc hl.lp) (by have := whole_dep l; omega) (chk_whole hZ hk hl.lc hl.lp) (p30.1.trans htw)) rfl (fun _ => (fun w h => .inr (h.sub SubC.h SubC.h))) (fun b31 p31 => ?_)
       refine wpd_p 6 rfl zz6 trivial (q_pure rfl) rfl (fun w h => .inr (h.sub SubC.h SubC.h)) ?_
       refine wpd_p 7 rfl zz6 trivial (q_pure rfl) rfl (fun w h => .inr (h.sub SubC.h SubC.h)) ?_
       refine wpd_p 8 rfl zz6 trivial (q_pure rfl) rfl (fun w h => .inr (h.sub SubC.h SubC.h)) ?_
       refine wpd_p 9 rfl zz6 trivial (q_pure rfl) rfl (fun w h => .inr (h.sub SubC.h SubC.h)) ?_
       refine wpd_done zz6 ?_
       refine ex_then <| wpc_ret ?_
       refine ret2 (.inl rfl) rfl rfl rfl ?_
       exact fun w1 h => ⟨b31, by rw [enc_ok hZ]; exact p31, zz33, h.below, zz41⟩
     ·
      refine wpa_t 15 rfl trivial (t_alloc Try.ti72 [.int .u8 0, nl, nl] rfl) rfl (fun _ => (fun w h => .inr (h.sub SubC.h SubC.h))) (fun b5 => ?_)
      refine wpd_tp 12 rfl zz6 trivial (t_callPT Try.hb42 rfl fun w h => frz (joined 3 l.pv l.ps w (h.seen_old hl.p) hl.lp (by have := hk.p; omega))) rfl (fun _ => (fun w h => .inr (h.sub SubC.h SubC.h))) (fun b23 p23 => ?_)
      haveI := p23.2.one
      refine wpd_tp 13 rfl zz6 trivial (t_bsG [.agg b15.c.toArray, .agg b19.c.toArray, .agg b23.c.toArray] (hcs [b15, b19, b23]) Try.underlying70 Try.ti72 rfl zz18 rfl zz18 zz18 rfl zz22 rfl) rfl (fun _ => (fun w h => .inr (h.sub SubC.h SubC.h))) (fun b24 p24 => ?_)
      have htr : Tr.nd 131 [] (trs [b15, b19, b23]) = sigT l := by
        show Tr.nd 131 [] [b15.tr, b19.tr, b23.tr] = _
        rw [p15.1, p19.1, p23.1]; rfl
      have hsm : Sm (Tr.nd 131 [] (trs [b15, b19, b23])) := by rw [htr]; exact sm_sig hl.lc hl.lp hk.c hk.p
      refine wpd_tp 14 rfl zz6 trivial (t_callPT Try.hb40 rfl fun w h => frz (octSeq 131 b24 [b15, b19, b23] w (h.seen_row zz4) ⟨Mem.hseenF h zz4, Mem.hseenF h zz4, Mem.hseenF h zz4, trivial⟩ hsm)) rfl (fun _ => (fun w h => .inr (h.sub SubC.h SubC.h))) (fun b25 p25 => ?_)
      haveI := p25.2.one
      refine wpd_t0 16 rfl zz6 trivial (t_stA Try.ti72 rfl rfl LenC.h OneC.h LenC.h) (fun _ => skk rfl) (fun _ => ?_)
      refine wpd_done zz6 ?_
      refine ex_then <| wpc_seq ?_
      refine wpc_draw 10 zz6 (fun _ h => h.drew) ?_
      refine wpd_q 0 rfl zz6 trivial (q_ldN Try.underlying30 rfl Try.ti30 rfl LenC.h) rfl (fun _ h => h) ?_
      refine wpd_q 2 rfl zz6 trivial (q_ldN Try.underlying72 rfl Try.ti72 rfl LenC.h) rfl (fun _ h => h) ?_
      refine wpd_tp 1 rfl zz6 trivial (t_callPT Try.hb44 rfl fun w h => rvBody l w (hl.old h rfl) hnl hk.ss hk.nm) rfl (fun _ => (fun w h => .inr (h.sub SubC.h SubC.h))) (fun b27 p27 => ?_)
      haveI := p27.2.one
      refine wpd_tp 3 rfl zz6 trivial (t_bsG [.agg b27.c.toArray, .agg b25.c.toArray] (hcs [b27, b25]) Try.underlying70 Try.ti72 rfl zz18 rfl zz18 zz18 rfl zz20 rfl) rfl (fun _ => (fun w h => .inr (h.sub SubC.h SubC.h))) (fun b29 p29 => ?_)
      have htw : Tr.nd 135 [] (trs [b27, b25]) = wholeT l := by
        show Tr.nd 135 [] [b27.tr, b25.tr] = _
        rw [p27.1, p25.1, htr]; rfl
      have hsw : Sm (Tr.nd 135 [] (trs [b27, b25])) := by rw [htw]; exact sm_whole hk hl.lc hl.lp
      refine wpd_tp 4 rfl zz6 trivial (t_callPT Try.hb40 rfl fun w h => frz (octSeq 135 b29 [b27, b25] w (h.seen_row zz4) ⟨Mem.hseenF h zz4, Mem.hseenF h zz4, trivial⟩ hsw)) rfl (fun _ => (fun w h => .inr (h.sub SubC.h SubC.h))) (fun b30 p30 => ?_)
      haveI := p30.2.one
      refine wpd_tp 5 rfl zz6 trivial (t_callP1 Try.hb43 rfl fun w h => octEnc_ok w (Mem.hseenF h zz4) (sm_whole hk hl.lc hl.lp) (by have := whole_dep l; omega) (chk_whole hZ hk hl.lc hl.lp) (p30.1.trans htw)) rfl (fun _ => (fun w h => .inr (h.sub SubC.h SubC.h))) (fun b31 p31 => ?_)
      refine wpd_p 6 rfl zz6 trivial (q_pure rfl) rfl (fun w h => .inr (h.sub SubC.h SubC.h)) ?_
      refine wpd_p 7 rfl zz6 trivial (q_pure rfl) rfl (fun w h => .inr (h.sub SubC.h SubC.h)) ?_
      refine wpd_p 8 rfl zz6 trivial (q_pure rfl) rfl (fun w h => .inr (h.sub SubC.h SubC.h)) ?_
      refine wpd_p 9 rfl zz6 trivial (q_pure rfl) rfl (fun w h => .inr (h.sub SubC.h SubC.h)) ?_
      refine wpd_done zz6 ?_
      refine ex_then <| wpc_ret ?_
      refine ret2 (.inl rfl) rfl rfl rfl ?_
      exact fun w1 h => ⟨b31, by rw [enc_ok hZ]; exact p31, zz33, h.below, zz41⟩
    ·
     refine wpa_t 15 rfl trivial (t_alloc Try.ti72 [.int .u8 0, nl, nl] rfl) rfl (fun _ => (fun w h => .inr (h.sub SubC.h SubC.h))) (fun b5 => ?_)
     refine wpd_tp 8 rfl zz6 trivial (t_callPT Try.hb42 rfl fun w h => frz (joined 2 l.cv l.chs w (h.seen_old hl.c) hl.lc (by have := hk.c; omega))) rfl (fun _ => (fun w h => .inr (h.sub SubC.h SubC.h))) (fun b19 p19 => ?_)
     haveI := p19.2.one
     refine wpd_tp 12 rfl zz6 trivial (t_callPT Try.hb42 rfl fun w h => frz (joined 3 l.pv l.ps w (h.seen_old hl.p) hl.lp (by have := hk.p; omega))) rfl (fun _ => (fun w h => .inr (h.sub SubC.h SubC.h))) (fun b23 p23 => ?_)
     haveI := p23.2.one
     refine wpd_tp 13 rfl zz6 trivial (t_bsG [.agg b15.c.toArray, .agg b19.c.toArray, .agg b23.c.toArray] (hcs [b15, b19, b23]) Try.underlying70 Try.ti72 rfl zz18 rfl zz18 zz18 rfl zz22 rfl) rfl (fun _ => (fun w h => .inr (h.sub SubC.h SubC.h))) (fun b24 p24 => ?_)
     have htr : Tr.nd 131 [] (trs [b15, b19, b23]) = sigT l := by
       show Tr.nd 131 [] [b15.tr, b19.tr, b23.tr] = _
       rw [p15.1, p19.1, p23.1]; rfl
     have hsm : Sm (Tr.nd 131 [] (trs [b15, b19, b23])) := by rw [htr]; exact sm_sig hl.lc hl.lp hk.c hk.p
     refine wpd_tp 14 rfl zz6 trivial (t_callPT Try.hb40 rfl fun w h => frz (octSeq 131 b24 [b15, b19, b23] w (h.seen_row zz4) ⟨Mem.hseenF h zz4, Mem.hseenF h zz4, Mem.hseenF h zz4, trivial⟩ hsm)) rfl (fun _ => (fun w h => .inr (h.sub SubC.h SubC.h))) (fun b25 p25 => ?_)
     haveI := p25.2.one
     refine wpd_t0 16 rfl zz6 trivial (t_stA Try.ti72 rfl rfl LenC.h OneC.h LenC.h) (fun _ => skk rfl) (fun _ => ?_)
     refine wpd_done zz6 ?_
     refine ex_then <| wpc_seq ?_
     refine wpc_draw 10 zz6 (fun _ h => h.drew) ?_
     refine wpd_q 0 rfl zz6 trivial (q_ldN Try.underlying30 rfl Try.ti30 rfl LenC.h) rfl (fun _ h => h) ?_
     refine wpd_q 2 rfl zz6 trivial (q_ldN Try.underlying72 rfl Try.ti72 rfl LenC.h) rfl (fun _ h => h) ?_
     refine wpd_tp 1 rfl zz6 trivial (t_callPT Try.hb44 rfl fun w h => rvBody l w (hl.old h rfl) hnl hk.ss hk.nm) rfl (fun _ => (fun w h => .inr (h.sub SubC.h SubC.h))) (fun b27 p27 => ?_)
     haveI := p27.2.one
     refine wpd_tp 3 rfl zz6 trivial (t_bsG [.agg b27.c.toArray, .agg b25.c.toArray] (hcs [b27, b25]) Try.underlying70 Try.ti72 rfl zz18 rfl zz18 zz18 rfl zz20 rfl) rfl (fun _ => (fun w h => .inr (h.sub SubC.h SubC.h))) (fun b29 p29 => ?_)
     have htw : Tr.nd 135 [] (trs [b27, b25]) = wholeT l := by
       show Tr.nd 135 [] [b27.tr, b25.tr] = _
       rw [p27.1, p25.1, htr]; rfl
     have hsw : Sm (Tr.nd 135 [] (trs [b27, b25])) := by rw [htw]; exact sm_whole hk hl.lc hl.lp
     refine wpd_tp 4 rfl zz6 trivial (t_callPT Try.hb40 rfl fun w h => frz (octSeq 135 b29 [b27, b25] w (h.seen_row zz4) ⟨Mem.hseenF h zz4, Mem.hseenF h zz4, trivial⟩ hsw)) rfl (fun _ => (fun w h => .inr (h.sub SubC.h SubC.h))) (fun b30 p30 => ?_)
     haveI := p30.2.one
     refine wpd_tp 5 rfl zz6 trivial (t_callP1 Try.hb43 rfl fun w h => octEnc_ok w (Mem.hseenF h zz4) (sm_whole hk hl.lc hl.lp) (by have := whole_dep l; omega) (chk_whole hZ hk hl.lc hl.lp) (p30.1.trans htw)) rfl (fun _ => (fun w h => .inr (h.sub SubC.h SubC.h))) (fun b31 p31 => ?_)
     refine wpd_p 6 rfl zz6 trivial (q_pure rfl) rfl (fun w h => .inr (h.sub SubC.h SubC.h)) ?_
     refine wpd_p 7 rfl zz6 trivial (q_pure rfl) rfl (fun w h => .inr (h.sub SubC.h SubC.h)) ?_
     refine wpd_p 8 rfl zz6 trivial (q_pure rfl) rfl (fun w h => .inr (h.sub SubC.h SubC.h)) ?_
     refine wpd_p 9 rfl zz6 trivial (q_pure rfl) rfl (fun w h => .inr (h.sub SubC.h SubC.h)) ?_
     refine wpd_done zz6 ?_
     refine ex_then <| wpc_ret ?_
     refine ret2 (.inl rfl) rfl rfl rfl ?_
     exact fun w1 h => ⟨b31, by rw [enc_ok hZ]; exact p31, zz33, h.below, zz41⟩
   ·
    refine wpa_t 15 rfl trivial (t_alloc Try.ti72 [.int .u8 0, nl, nl] rfl) rfl (fun _ => (fun w h => .inr (h.sub SubC.h SubC.h))) (fun b5 => ?_)
    refine wpd_tp 4 rfl zz6 trivial (t_callPT Try.hb41 rfl fun w h => frz (octNum 1 (of64 l.ix) w)) rfl (fun _ => (fun w h => .inr (h.sub SubC.h SubC.h))) (fun b15 p15 => ?_)
    haveI := p15.2.one
    refine wpd_tp 8 rfl zz6 trivial (t_callPT Try.hb42 rfl fun w h => frz (joined 2 l.cv l.chs w (h.seen_old hl.c) hl.lc (by have := hk.c; omega))) rfl (fun _ => (fun w h => .inr (h.sub SubC.h SubC.h))) (fun b19 p19 => ?_)
    haveI := p19.2.one
    refine wpd_tp 12 rfl zz6 trivial (t_callPT Try.hb42 rfl fun w h => frz (joined 3 l.pv l.ps w (h.seen_old hl.p) hl.lp (by have := hk.p; omega))) rfl (fun _ => (fun w h => .inr (h.sub SubC.h SubC.h))) (fun b23 p23 => ?_)
    haveI := p23.2.one
    refine wpd_tp 13 rfl zz6 trivial (t_bsG [.agg b15.c.toArray, .agg b19.c.toArray, .agg b23.c.toArray] (hcs [b15, b19, b23]) Try.underlying70 Try.ti72 rfl zz18 rfl zz18 zz18 rfl zz22 rfl) rfl (fun _ => (fun w h => .inr (h.sub SubC.h SubC.h))) (fun b24 p24 => ?_)
    have htr : Tr.nd 131 [] (trs [b15, b19, b23]) = sigT l := by
      show Tr.nd 131 [] [b15.tr, b19.tr, b23.tr] = _
      rw [p15.1, p19.1, p23.1]; rfl
    have hsm : Sm (Tr.nd 131 [] (trs [b15, b19, b23])) := by rw [htr]; exact sm_sig hl.lc hl.lp hk.c hk.p
    refine wpd_tp 14 rfl zz6 trivial (t_callPT Try.hb40 rfl fun w h => frz (octSeq 131 b24 [b15, b19, b23] w (h.seen_row zz4) ⟨Mem.hseenF h zz4, Mem.hseenF h zz4, Mem.hseenF h zz4, trivial⟩ hsm)) rfl (fun _ => (fun w h => .inr (h.sub SubC.h SubC.h))) (fun b25 p25 => ?_)
    haveI := p25.2.one
    refine wpd_t0 16 rfl zz6 trivial (t_stA Try.ti72 rfl rfl LenC.h OneC.h LenC.h) (fun _ => skk rfl) (fun _ => ?_)
    refine wpd_done zz6 ?_
    refine ex_then <| wpc_seq ?_
    refine wpc_draw 10 zz6 (fun _ h => h.drew) ?_
    refine wpd_q 0 rfl zz6 trivial (q_ldN Try.underlying30 rfl Try.ti30 rfl LenC.h) rfl (fun _ h => h) ?_
    refine wpd_q 2 rfl zz6 trivial (q_ldN Try.underlying72 rfl Try.ti72 rfl LenC.h) rfl (fun _ h => h) ?_
    refine wpd_tp 1 rfl zz6 trivial (t_callPT Try.hb44 rfl fun w h => rvBody l w (hl.old h rfl) hnl hk.ss hk.nm) rfl (fun _ => (fun w h => .inr (h.sub SubC.h SubC.h))) (fun b27 p27 => ?_)
    haveI := p27.2.one
    refine wpd_tp 3 rfl zz6 trivial (t_bsG [.agg b27.c.toArray, .agg b25.c.toArray] (hcs [b27, b25]) Try.underlying70 Try.ti72 rfl zz18 rfl zz18 zz18 rfl zz20 rfl) rfl (fun _ => (fun w h => .inr (h.sub SubC.h SubC.h))) (fun b29 p29 => ?_)
    have htw : Tr.nd 135 [] (trs [b27, b25]) = wholeT l := by
      show Tr.nd 135 [] [b27.tr, b25.tr] = _
      rw [p27.1, p25.1, htr]; rfl
    have hsw : Sm (Tr.nd 135 [] (trs [b27, b25])) := by rw [htw]; exact sm_whole hk hl.lc hl.lp
    refine wpd_tp 4 rfl zz6 trivial (t_callPT Try.hb40 rfl fun w h => frz (octSeq 135 b29 [b27, b25] w (h.seen_row zz4) ⟨Mem.hseenF h zz4, Mem.hseenF h zz4, trivial⟩ hsw)) rfl (fun _ => (fun w h => .inr (h.sub SubC.h SubC.h))) (fun b30 p30 => ?_)
    haveI := p30.2.one
    refine wpd_tp 5 rfl zz6 trivial (t_callP1 Try.hb43 rfl fun w h => octEnc_ok w (Mem.hseenF h zz4) (sm_whole hk hl.lc hl.lp) (by have := whole_dep l; omega) (chk_whole hZ hk hl.lc hl.lp) (p30.1.trans htw)) rfl (fun _ => (fun w h => .inr (h.sub SubC.h SubC.h))) (fun b31 p31 => ?_)
    refine wpd_p 6 rfl zz6 trivial (q_pure rfl) rfl (fun w h => .inr (h.sub SubC.h SubC.h)) ?_
    refine wpd_p 7 rfl zz6 trivial (q_pure rfl) rfl (fun w h => .inr (h.sub SubC.h SubC.h)) ?_
    refine wpd_p 8 rfl zz6 trivial (q_pure rfl) rfl (fun w h => .inr (h.sub SubC.h SubC.h)) ?_
    refine wpd_p 9 rfl zz6 trivial (q_pure rfl) rfl (fun w h => .inr (h.sub SubC.h SubC.h)) ?_
    refine wpd_done zz6 ?_
    refine ex_then <| wpc_ret ?_
    refine ret2 (.inl rfl) rfl rfl rfl ?_
    exact fun w1 h => ⟨b31, by rw [enc_ok hZ]; exact p31, zz33, h.below, zz41⟩
end Go.Proofs.Ytgnablliekgbgaa
namespace Go.Proofs.Ytgnablliekgbgaa
open Go Go.PL Go.RowKit
theorem sigValue (idx : Int) (cv pv : Value) (chs ps : List (List UInt8)) (w : World) (hcv : Seen w.cell? cv chs.length 16 (v8s chs.flatten)) (hlchs : ∀ x ∈ chs, x.length = 16) (hpv : Seen w.cell? pv ps.length 16 (v8s ps.flatten)) (hlps : ∀ x ∈ ps, x.length = 16) (h1 : chs.length ≤ 60) (h2 : ps.length ≤ 60) :
    Calls Try.prog 79 [.agg #[.int .i64 idx, cv, pv]].toArray w (GivesP w (fun y : HT => y.tr = sigT3 idx chs ps ∧ y.sv) (fun y => .agg y.c.toArray) (fun _ => []) (fun y => [Go.Proofs.Ytgnablliekgbgaa.hseen y])) := by
  have scv := hcv.sv
  have spv := hpv.sv
  have lcv := scv.le
  have lpv := spv.le
  simp only [maxLen] at lcv lpv
  haveI : OneC [.int .i64 idx, cv, pv] := OneC.cons rfl (OneC.cons (SV.one scv) (OneC.cons (SV.one spv) oneC_nil))
  refine enter (m := 17) (R := Mem w [] [] []) Try.func79 rfl rfl (Nat.le_of_ble_eq_true rfl) (Mem.start w) ?_
  refine wpc_seq <| wpc_region ?_
  refine wpl_t (t_box rfl [.int .i64 idx, cv, pv] rfl) rfl (fun b1 => ?_)
  refine wpl_t (t_alloc Try.ti72 [.int .u8 0, nl, nl] rfl) rfl (fun b2 => ?_)
  refine wpl_nil <| ex_then <| wpc_seq ?_
  refine wpc_draw 14 zz6 (fun _ h => h.drew) ?_
  refine wpd_p 0 rfl zz6 trivial (q_field Try.underlying28 rfl Try.ti3 rfl rfl _ rfl) rfl sk0 ?_
  refine wpd_q 1 rfl zz6 trivial (q_ld Try.underlying3 rfl rfl zz23) rfl (fun _ h => h) ?_
  refine wpd_p 2 rfl zz6 trivial (q64_conv Try.underlying3 Try.underlying22 rfl) rfl sk0 ?_
  refine wpd_p 4 rfl zz6 trivial (q_field Try.underlying28 rfl Try.ti26 rfl rfl _ rfl) rfl sk0 ?_
  refine wpd_q 5 rfl zz6 trivial (q_ld Try.underlying26 rfl rfl rfl) rfl (fun _ h => h) ?_
  refine wpd_p 8 rfl zz6 trivial (q_field Try.underlying28 rfl Try.ti26 rfl rfl _ rfl) rfl sk0 ?_
  refine wpd_q 9 rfl zz6 trivial (q_ld Try.underlying26 rfl rfl rfl) rfl (fun _ h => h) ?_
  refine wpd_tp 3 rfl zz6 trivial (t_callPT Try.hb80 rfl fun w h => frz (refNum 1 (of64 idx) w)) rfl (fun _ => (fun w h => .inr (h.sub SubC.h SubC.h))) (fun b6 p6 => ?_)
  haveI := p6.2.one
  refine wpd_tp 6 rfl zz6 trivial (t_callP1 Try.hb103 rfl fun w h => refBytes10 cv chs w (h.seen_old hcv) hlchs zz11) rfl (fun _ => (fun w h => .inr (h.sub SubC.h SubC.h))) (fun b9 p9 => ?_)
  haveI := oneH (t := 2) p9 SV.nil
  refine wpd_p 7 rfl zz6 trivial (q_build (cs := [.int .u8 2, b9, nl]) rfl (built_o1 2 p9)) rfl (fun w h => .inr (h.sub SubC.h SubC.h)) ?_
  refine wpd_tp 10 rfl zz6 trivial (t_callP1 Try.hb103 rfl fun w h => refBytes10 pv ps w (h.seen_old hpv) hlps zz11) rfl (fun _ => (fun w h => .inr (h.sub SubC.h SubC.h))) (fun b13 p13 => ?_)
  haveI := oneH (t := 3) p13 SV.nil
  refine wpd_p 11 rfl zz6 trivial (q_build (cs := [.int .u8 3, b13, nl]) rfl (built_o1 3 p13)) rfl (fun w h => .inr (h.sub SubC.h SubC.h)) ?_
  refine wpd_tp 12 rfl zz6 trivial (t_bsG [.agg b6.c.toArray, .agg (HT.nd 2 b9 chs.flatten nl []).c.toArray, .agg (HT.nd 3 b13 ps.flatten nl []).c.toArray] (hcs [b6, (HT.nd 2 b9 chs.flatten nl []), (HT.nd 3 b13 ps.flatten nl [])]) Try.underlying70 Try.ti72 rfl zz18 rfl zz18 zz18 rfl zz22 rfl) rfl (fun _ => (fun w h => .inr (h.sub SubC.h SubC.h))) (fun b15 p15 => ?_)
  have htr : Tr.nd 131 [] (trs [b6, (HT.nd 2 b9 chs.flatten nl []), (HT.nd 3 b13 ps.flatten nl [])]) = sigT3 idx chs ps := by
    show Tr.nd 131 [] [b6.tr, Tr.nd 2 chs.flatten [], Tr.nd 3 ps.flatten []] = _
    rw [p6.1]; rfl
  have hsm : Sm (Tr.nd 131 [] (trs [b6, (HT.nd 2 b9 chs.flatten nl []), (HT.nd 3 b13 ps.flatten nl [])])) := by rw [htr]; exact sm_sig hlchs hlps h1 h2
  refine wpd_tp 13 rfl zz6 trivial (t_callPT Try.hb78 rfl fun w h => frz (refSeq 131 b15 [b6, (HT.nd 2 b9 chs.flatten nl []), (HT.nd 3 b13 ps.flatten nl [])] w (h.seen_row zz4) ⟨Mem.hseenF h zz4, ⟨h.seen_row zz4, seen_nil _ 72 3, trivial⟩, ⟨h.seen_row zz4, seen_nil _ 72 3, trivial⟩, trivial⟩ hsm)) rfl (fun _ => (fun w h => .inr (h.sub SubC.h SubC.h))) (fun b16 p16 => ?_)
  haveI := p16.2.one
  refine wpd_t0 14 rfl zz6 trivial (t_stA Try.ti72 rfl rfl LenC.h OneC.h LenC.h) (fun _ => skk rfl) (fun _ => ?_)
  refine wpd_done zz6 ?_
  refine ex_then <| wpc_ret ?_
  refine retv1 (.inl rfl) rfl (rv_agg Try.underlying72 rfl Try.ti72 rfl (fun w h => h.atB) LenC.h) ?_
  exact fun w1 h => ⟨b16, ⟨p16.1.trans htr, p16.2⟩, rfl, h.below, h.made .nil SubC.h⟩
theorem refWhole (l : Rv) (w : World) (hl : l.seen w.cell?) (hnl : l.nm.length ≤ maxLen) (hk : RLim l) :
    Calls Try.prog 46 [.agg l.c.toArray].toArray w (GivesP w (fun y : HT => y.tr = wholeT l ∧ y.sv) (fun y => .agg y.c.toArray) (fun _ => []) (fun y => [Go.Proofs.Ytgnablliekgbgaa.hseen y])) := by
  haveI := hl.svs.one
  have lss := hl.s.sv.le
  have lcs := hl.c.sv.le
  have lps := hl.p.sv.le
  have sss := hl.s.sv
  have scs := hl.c.sv
  have sps := hl.p.sv
  simp only [maxLen] at lss lcs lps
  refine enter (m := 10) (R := Mem w [] [] []) Try.func46 rfl rfl (Nat.le_of_ble_eq_true rfl) (Mem.start w) ?_
  refine wpc_seq <| wpc_region ?_
  refine wpl_t (t_box rfl l.c rfl) rfl (fun b1 => ?_)
  refine wpl_t (t_alloc Try.ti72 [.int .u8 0, nl, nl] rfl) rfl (fun b2 => ?_)
  refine wpl_nil <| ex_then <| wpc_seq ?_
  refine wpc_draw 7 zz6 (fun _ h => h.drew) ?_
  refine wpd_q 0 rfl zz6 trivial (q_ldN Try.underlying30 rfl Try.ti30 rfl LenC.h) rfl (fun _ h => h) ?_
  refine wpd_p 2 rfl zz6 trivial (q_field Try.underlying30 rfl Try.ti28 rfl rfl _ rfl) rfl sk0 ?_
  refine wpd_q 3 rfl zz6 trivial (q_ldP Try.underlying28 rfl Try.ti28 rfl l.sig rfl rfl) rfl (fun _ h => h) ?_
  refine wpd_tp 1 rfl zz6 trivial (t_callPT Try.hb47 rfl fun w h => frz (refValue l w (hl.old h rfl) hnl hk.ss hk.nm)) rfl (fun _ => (fun w h => .inr (h.sub SubC.h SubC.h))) (fun b4 p4 => ?_)
  haveI := p4.2.one
  refine wpd_tp 4 rfl zz6 trivial (t_callPT Try.hb79 rfl fun w h => sigValue l.ix l.cv l.pv l.chs l.ps w (h.seen_old hl.c) hl.lc (h.seen_old hl.p) hl.lp hk.c hk.p) rfl (fun _ => (fun w h => .inr (h.sub SubC.h SubC.h))) (fun b7 p7 => ?_)
  haveI := p7.2.one
  refine wpd_tp 5 rfl zz6 trivial (t_bsG [.agg b4.c.toArray, .agg b7.c.toArray] (hcs [b4, b7]) Try.underlying70 Try.ti72 rfl zz18 rfl zz18 zz18 rfl zz20 rfl) rfl (fun _ => (fun w h => .inr (h.sub SubC.h SubC.h))) (fun b8 p8 => ?_)
  have htw : Tr.nd 135 [] (trs [b4, b7]) = wholeT l := by
    show Tr.nd 135 [] [b4.tr, b7.tr] = _
    rw [p4.1, p7.1]; rfl
  have hsw : Sm (Tr.nd 135 [] (trs [b4, b7])) := by rw [htw]; exact sm_whole hk hl.lc hl.lp
  refine wpd_tp 6 rfl zz6 trivial (t_callPT Try.hb78 rfl fun w h => frz (refSeq 135 b8 [b4, b7] w (h.seen_row zz4) ⟨Mem.hseenF h zz4, Mem.hseenF h zz4, trivial⟩ hsw)) rfl (fun _ => (fun w h => .inr (h.sub SubC.h SubC.h))) (fun b9 p9 => ?_)
  haveI := p9.2.one
  refine wpd_t0 7 rfl zz6 trivial (t_stA Try.ti72 rfl rfl LenC.h OneC.h LenC.h) (fun _ => skk rfl) (fun _ => ?_)
  refine wpd_done zz6 ?_
  refine ex_then <| wpc_ret ?_
  refine retv1 (.inl rfl) rfl (rv_agg Try.underlying72 rfl Try.ti72 rfl (fun w h => h.atB) LenC.h) ?_
  exact fun w1 h => ⟨b9, ⟨p9.1.trans htw, p9.2⟩, rfl, h.below, h.made .nil SubC.h⟩
theorem refRvEncode (l : Rv) (w : World) (hl : l.seen w.cell?) (hnl : l.nm.length ≤ maxLen) (hk : RLim l) :
    Calls Try.prog 18 [.agg l.c.toArray].toArray w (GivesP w (fun v : Value => SV v (encB l).length) (fun v => .tuple #[v, .int .i64 (chkR l)]) (fun v => [.row v (encB l).length 5 1 (v8s (encB l))]) (fun _ => [])) := by
  haveI := hl.svs.one
  have lss := hl.s.sv.le
  have lcs := hl.c.sv.le
  have lps := hl.p.sv.le
  have sss := hl.s.sv
  have scs := hl.c.sv
  have sps := hl.p.sv
  simp only [maxLen] at lss lcs lps
  refine enter (m := 13) (R := Mem w [] [] []) Try.func18 rfl rfl (Nat.le_of_ble_eq_true rfl) (Mem.start w) ?_
  refine wpc_seq <| wpc_region ?_
  refine wpl_t (t_box rfl l.c rfl) rfl (fun b1 => ?_)
  refine wpl_q (q_pure rfl) rfl <| wpl_q (q_pure rfl) rfl <| wpl_nil <| ex_then <| wpc_seq <| wpc_region <| wpl_q (q_ldN Try.underlying30 rfl Try.ti30 rfl LenC.h) rfl ?_
  refine wpl_t (t_pur Try.hb13 rfl fun w h => refRvCheck l w (hl.old h rfl) hnl) rfl (fun b6 => ?_)
  refine wpl_q (q_pure rfl) rfl <| wpl_nil <| ex_then <| wpc_seq <| wpc_seq <| wpc_region <| wpl_q (q_pure rfl) rfl <| wpl_q (q_pure rfl) rfl <| wpl_nil <| ex_then ?_
  refine wpc_cond rfl (fun hc8 => ?_) (fun hc8 => ?_)
  ·
   have hN : ¬ chkR l = 0 := by simpa using hc8
   refine wpc_seq <| wpc_region <| wpl_q (q_pure rfl) rfl <| wpl_q (q_pure rfl) rfl <| wpl_q (q_pure rfl) rfl <| wpl_nil <| ex_then <| wpc_ret ?_
   refine ex_then_ret ?_
   refine ret2 (.inl rfl) rfl rfl rfl ?_
   exact fun w1 h => ⟨nl, by rw [enc_no hN]; exact SV.nil, rfl, h.below, by rw [enc_no hN]; exact (show Mem w [] [.row nl 0 5 1 []] [] w1 from (h.nilRow 5 1).sel).made (Sub.refl _) .nil⟩
  ·
   have hZ : chkR l = 0 := by simpa using hc8
   refine wpc_skip <| ex_then <| wpc_seq <| wpc_region <| wpl_q (q_ldN Try.underlying30 rfl Try.ti30 rfl LenC.h) rfl ?_
   refine wpl_tp (t_callPT Try.hb46 rfl fun w h => refWhole l w (hl.old h rfl) hnl hk) rfl (fun b11 p11 => ?_)
   haveI := p11.2.one
   refine wpl_tp (t_callP1 Try.hb45 rfl fun w h => refPut_ok w (Mem.hseenF h zz4) (sm_whole hk hl.lc hl.lp) p11.1) rfl (fun b12 p12 => ?_)
   refine wpl_q (q_pure rfl) rfl <| wpl_q (q_pure rfl) rfl <| wpl_nil <| ex_then <| wpc_ret ?_
   refine ret2 (.inl rfl) rfl rfl rfl ?_
   exact fun w1 h => ⟨b12, by rw [enc_ok hZ]; exact p12, zz33, h.below, zz41⟩
end Go.Proofs.Ytgnablliekgbgaa
namespace Go.Proofs.Ytgnablliekgbgaa
open Go Go.PL Go.RowKit
theorem headF_le (xs : List UInt8) : (headF xs).2.1 ≤ 5 ∧ (headF xs).2.1 ≤ xs.length ∧ (headF xs).2.2.1 < 16777216 ∧ ((headF xs).2.2.2 = true → 2 ≤ (headF xs).2.1) := by
  unfold headF
  have hb := (xs.getD 1 0).toNat_lt
  by_cases h1 : xs.length < 2 ∨ xs.getD 0 0 = 0
  · rw [if_pos h1]; exact ⟨zz18, Nat.zero_le _, zz18, fun h => by cases h⟩
  · rw [if_neg h1]
    by_cases h2 : (xs.getD 1 0).toNat < 128
    · rw [if_pos h2]; exact ⟨by show 2 ≤ 5; omega, by show 2 ≤ _; omega, by show (xs.getD 1 0).toNat < _; omega, fun _ => Nat.le_refl _⟩
    · rw [if_neg h2]
      by_cases h3 : (xs.getD 1 0).toNat - 128 < 1 ∨ 3 < (xs.getD 1 0).toNat - 128 ∨ xs.length < 2 + ((xs.getD 1 0).toNat - 128)
      · rw [if_pos h3]; exact ⟨zz18, Nat.zero_le _, zz18, fun h => by cases h⟩
      · rw [if_neg h3]
        split
        · exact ⟨zz18, Nat.zero_le _, zz18, fun h => by cases h⟩
        · have q := numOf_24 (xs := xs.drop 2) (i := (xs.getD 1 0).toNat - 128) zz45 zz11
          exact ⟨by show 2 + ((xs.getD 1 0).toNat - 128) ≤ 5; omega, by show 2 + ((xs.getD 1 0).toNat - 128) ≤ _; omega, by dsimp only; exact q, fun _ => by show 2 ≤ 2 + ((xs.getD 1 0).toNat - 128); omega⟩
def kidsW (tk : List UInt8 → Option (Tr × Nat)) : Nat → List UInt8 → Option (List Tr)
  | 0, ys => if ys.isEmpty then some [] else none
  | k + 1, ys => if ys.isEmpty then some [] else (tk ys).bind fun r => (kidsW tk k (ys.drop r.2)).map (r.1 :: ·)
def takeF : Nat → List UInt8 → Option (Tr × Nat)
  | 0, _ => none
  | f + 1, xs => if (headF xs).2.2.2 = false ∨ xs.length < (headF xs).2.1 + (headF xs).2.2.1 then none
    else if (headF xs).1.toNat < 128 then some (.nd (headF xs).1 ((xs.drop (headF xs).2.1).take (headF xs).2.2.1) [], (headF xs).2.1 + (headF xs).2.2.1)
    else (kidsW (takeF f) (headF xs).2.2.1 ((xs.drop (headF xs).2.1).take (headF xs).2.2.1)).map fun l => (.nd (headF xs).1 [] l, (headF xs).2.1 + (headF xs).2.2.1)
def takeR (f : Nat) (xs : List UInt8) : Tr × Nat × Bool := match takeF f xs with | some (t, m) => (t, m, true) | none => (Tr.z, 0, false)
theorem takeF_le {f : Nat} {xs : List UInt8} {t : Tr} {m : Nat} (h : takeF f xs = some (t, m)) : 2 ≤ m ∧ m ≤ xs.length := by
  cases f with
  | zero => cases h
  | succ f =>
    have hh := headF_le xs
    unfold takeF at h
    split at h
    · cases h
    · rename_i h1
      rw [not_or, Bool.not_eq_false] at h1
      have h2 := hh.2.2.2 h1.1
      split at h
      · cases h; omega
      · obtain ⟨l, _, e⟩ := Option.map_eq_some_iff.1 h
        cases e; omega
theorem kidsW_nil (tk : List UInt8 → Option (Tr × Nat)) : ∀ k, kidsW tk k [] = some []
  | 0 => rfl
  | _ + 1 => rfl
def KI (f n : Nat) (seg : List UInt8) (ns : List HT) (c : Nat) : Prop := ∃ k, seg.length - c ≤ k ∧ kidsW (takeF f) n seg = (kidsW (takeF f) k (seg.drop c)).map (trs ns ++ ·)
theorem KI_start {f : Nat} {seg : List UInt8} : KI f seg.length seg [] 0 := ⟨seg.length, zz11, by
  rw [List.drop_zero]
  cases kidsW (takeF f) seg.length seg <;> rfl⟩
theorem KI_cons {f n : Nat} {seg : List UInt8} {ns : List HT} {c : Nat} (h : KI f n seg ns c) (hc : c < seg.length) : ∃ k, seg.length - c ≤ k + 1 ∧ kidsW (takeF f) n seg = ((takeF f (seg.drop c)).bind fun r => (kidsW (takeF f) k ((seg.drop c).drop r.2)).map (r.1 :: ·)).map (trs ns ++ ·) := by
  obtain ⟨k, h1, h2⟩ := h
  obtain ⟨j, rfl⟩ : ∃ j, k = j + 1 := ⟨k - 1, zz11⟩
  refine ⟨j, h1, ?_⟩
  rw [h2, kidsW, if_neg]
  intro he
  rw [List.isEmpty_iff] at he
  have := congrArg List.length he
  rw [List.length_drop] at this
  simp at this; omega
theorem KI_none {f n : Nat} {seg : List UInt8} {ns : List HT} {c : Nat} (h : KI f n seg ns c) (hc : c < seg.length) (ht : takeF f (seg.drop c) = none) : kidsW (takeF f) n seg = none := by
  obtain ⟨k, _, h2⟩ := KI_cons h hc
  rw [h2, ht]; rfl
theorem KI_some {f n : Nat} {seg : List UInt8} {ns : List HT} {c m : Nat} {y : HT} (h : KI f n seg ns c) (hc : c < seg.length) (ht : takeF f (seg.drop c) = some (y.tr, m)) : KI f n seg (ns ++ [y]) (c + m) := by
  obtain ⟨k, h1, h2⟩ := KI_cons h hc
  have hm := takeF_le ht
  refine ⟨k, zz11, ?_⟩
  rw [h2, ht, trs_append]
  show ((kidsW (takeF f) k ((seg.drop c).drop m)).map (y.tr :: ·)).map _ = _
  rw [List.drop_drop]
  cases kidsW (takeF f) k (seg.drop (c + m)) with
  | none => rfl
  | some l =>
    show some (trs ns ++ (y.tr :: l)) = some ((trs ns ++ trs [y]) ++ l)
    rw [List.append_assoc]; rfl
theorem KI_end {f n : Nat} {seg : List UInt8} {ns : List HT} {c : Nat} (h : KI f n seg ns c) (hc : seg.length ≤ c) : kidsW (takeF f) n seg = some (trs ns) := by
  obtain ⟨k, _, h2⟩ := h
  rw [h2, List.drop_of_length_le hc, kidsW_nil]
  show some (trs ns ++ []) = some _
  rw [List.append_nil]
end Go.Proofs.Ytgnablliekgbgaa
namespace Go.Proofs.Ytgnablliekgbgaa
open Go Go.PL Go.RowKit
theorem takeR_none {f : Nat} {xs : List UInt8} (h : (takeR f xs).2.2 = false) : takeF f xs = none := by
  unfold takeR at h
  split at h
  · cases h
  · assumption
theorem takeR_some {f : Nat} {xs : List UInt8} (h : (takeR f xs).2.2 = true) : takeF f xs = some ((takeR f xs).1, (takeR f xs).2.1) := by
  unfold takeR at h ⊢
  split at h
  · rename_i e; rw [e]
  · cases h
theorem take_step (av : Value) (xs : List UInt8) (d : Nat) (w : World) (hav : Seen w.cell? av xs.length 1 (v8s xs)) (f : Nat) (hd : d + f = 13) (hxl : xs.length ≤ 70000) (ih : ∀ f2, f = f2 + 1 → ∀ (av : Value) (xs : List UInt8) (w : World), Seen w.cell? av xs.length 1 (v8s xs) → xs.length ≤ 70000 → Calls Try.prog 89 [av, .int .i64 ((d + 1 : Nat) : Int)].toArray w (GivesP w (fun y : HT => y.tr = (takeR f2 xs).1 ∧ y.sv) (fun y => .tuple #[.agg y.c.toArray, .int .i64 (((takeR f2 xs).2.1 : Nat) : Int), .bool (takeR f2 xs).2.2]) (fun y => y.ents) (fun _ => []))) :
    Calls Try.prog 89 [av, .int .i64 ((d : Nat) : Int)].toArray w (GivesP w (fun y : HT => y.tr = (takeR f xs).1 ∧ y.sv) (fun y => .tuple #[.agg y.c.toArray, .int .i64 (((takeR f xs).2.1 : Nat) : Int), .bool (takeR f xs).2.2]) (fun y => y.ents) (fun _ => [])) := by
  have sav := hav.sv
  have lav := sav.le
  simp only [maxLen] at lav
  have hh := headF_le xs
  refine enter (m := 82) (R := Mem w [] [] []) Try.func89 rfl rfl (Nat.le_of_ble_eq_true rfl) (Mem.start w) ?_
  refine wpc_seq <| wpc_region ?_
  refine wpl_t (t_alloc Try.ti72 HT.z.c rfl) rfl (fun b4 => ?_)
  refine wpl_q (q_pure rfl) rfl <| wpl_q (q_pure rfl) rfl <| wpl_nil <| ex_then <| wpc_seq <| wpc_region <| wpl_q (q_pure rfl) rfl ?_
  refine wpl_t (t_pur Try.hb108 rfl fun w h => head av xs w (h.seen_old hav)) rfl (fun b18 => ?_)
  refine wpl_q (q_pure rfl) rfl <| wpl_q (q_pure rfl) rfl <| wpl_q (q_pure rfl) rfl <| wpl_q (q_pure rfl) rfl <| wpl_q (q_pure rfl) rfl <| wpl_q (q_pure rfl) rfl <| wpl_q (q_pure rfl) rfl <| wpl_q (q_pure rfl) rfl <| wpl_q (q_pure rfl) rfl <| wpl_nil <| ex_then <| wpc_seq ?_
  refine wpc_seq <| wpc_region <| wpl_q (q_pure rfl) rfl <| wpl_q (q_pure rfl) rfl <| wpl_q (q_pure rfl) rfl ?_
  refine wpl_bool2 25 24 rfl rfl (fun hb25 => ?_) (fun hb25 => ?_)
  ·
   have hF : takeF f xs = none := by
     cases f with
     | zero => rfl
     | succ f => rw [takeF, if_pos (.inl (by simpa using hb25))]
   have hR : takeR f xs = (Tr.z, 0, false) := by rw [takeR, hF]
   refine wpl_off rfl rfl rfl rfl <| wpl_off rfl rfl rfl rfl <| wpl_off rfl rfl rfl rfl <| wpl_off rfl rfl rfl rfl <| wpl_off rfl rfl rfl rfl <| wpl_off rfl rfl rfl rfl <| wpl_q (q_pure rfl) rfl <| wpl_q (q_pure rfl) rfl <| wpl_off rfl rfl rfl rfl <| wpl_off rfl rfl rfl rfl <| wpl_q (q_pure rfl) rfl <| wpl_nil ?_
   refine ex_then ?_
   refine wpc_cond_t rfl ?_
   refine wpc_seq <| wpc_region ?_
   refine wpl_q (q_build (cs := [.int .u8 0, nl, nl]) rfl built_oz) rfl ?_
   refine wpl_t0 (t_stA Try.ti72 rfl rfl LenC.h OneC.h LenC.h) (fun _ => ?_)
   refine wpl_q (q_pure rfl) rfl <| wpl_q (q_pure rfl) rfl <| wpl_nil <| ex_then <| wpc_ret ?_
   refine ex_then_ret ?_
   refine retv3 (.inl rfl) rfl (rv_agg Try.underlying72 rfl Try.ti72 rfl (fun w h => h.atB) rfl) (rv_tmp rfl) (rv_tmp rfl) ?_
   exact fun w1 h => ⟨HT.z, ⟨zz47, SV.nil, SV.nil⟩, zz47, h.below, by
     have h2 : Mem w [] [.row nl 0 5 1 [], .row nl 0 72 3 []] [] w1 := ((h.nilRow 72 3).nilRow 5 1).sel
     exact madeT (tg := 0) (bv := nl) (lv := nl) (bs := []) (l := []) h2⟩
  ·
   have hk : (headF xs).2.2.2 = true := by simpa using hb25
   have hh2 := hh.2.2.2 hk
   refine wpl_on rfl rfl <| wpl_q (q_pure rfl) rfl <| wpl_on rfl rfl <| wpl_q (q_pure rfl) rfl <| wpl_on rfl rfl ?_
   refine wpl_q (q_lenW Try.underlying43 rfl zz2) rfl ?_
   refine wpl_on rfl rfl <| wpl_q (q_pure rfl) rfl <| wpl_on rfl rfl ?_
   first | refine wpl_q (qop_eq (q_pure rfl) (congrArg (Value.int .i64) (wk_i64 zz11 zz11))) rfl ?_ | refine wpl_q (q_pure rfl) rfl ?_
   refine wpl_on rfl rfl <| wpl_q (q_pure rfl) rfl <| wpl_q (q_pure rfl) rfl <| wpl_q (q_pure rfl) rfl ?_
   refine wpl_bool2 33 31 rfl rfl (fun hb33 => ?_) (fun hb33 => ?_)
   ·
    try simp only [decide_eq_true_eq] at hb33
    have hF : takeF f xs = none := by
      cases f with
      | zero => rfl
      | succ f => rw [takeF, if_pos (.inr zz11)]
    have hR : takeR f xs = (Tr.z, 0, false) := by rw [takeR, hF]
    refine wpl_off rfl rfl rfl rfl <| wpl_off rfl rfl rfl rfl <| wpl_q (q_pure rfl) rfl <| wpl_nil <| ex_then ?_
    refine wpc_cond_t rfl ?_
    refine wpc_seq <| wpc_region ?_
    refine wpl_q (q_build (cs := [.int .u8 0, nl, nl]) rfl built_oz) rfl ?_
    refine wpl_t0 (t_stA Try.ti72 rfl rfl LenC.h OneC.h LenC.h) (fun _ => ?_)
    refine wpl_q (q_pure rfl) rfl <| wpl_q (q_pure rfl) rfl <| wpl_nil <| ex_then <| wpc_ret ?_
    refine ex_then_ret ?_
    refine retv3 (.inl rfl) rfl (rv_agg Try.underlying72 rfl Try.ti72 rfl (fun w h => h.atB) rfl) (rv_tmp rfl) (rv_tmp rfl) ?_
    exact fun w1 h => ⟨HT.z, ⟨zz47, SV.nil, SV.nil⟩, zz47, h.below, by
      have h2 : Mem w [] [.row nl 0 5 1 [], .row nl 0 72 3 []] [] w1 := ((h.nilRow 72 3).nilRow 5 1).sel
      exact madeT (tg := 0) (bv := nl) (lv := nl) (bs := []) (l := []) h2⟩
   ·
    try simp only [decide_eq_false_iff_not] at hb33
    have hnl : (headF xs).2.1 + (headF xs).2.2.1 ≤ xs.length := by omega
    refine wpl_on rfl rfl <| wpl_q (q_pure rfl) rfl <| wpl_on rfl rfl <| wpl_q (q_pure rfl) rfl <| wpl_q (q_pure rfl) rfl <| wpl_nil <| ex_then ?_
    refine wpc_cond rfl (fun hc36 => ?_) (fun hc36 => ?_)
    ·
     simp only [decide_eq_true_eq] at hc36
     have hF : takeF f xs = none := by
       obtain rfl : f = 0 := by omega
       rfl
     have hR : takeR f xs = (Tr.z, 0, false) := by rw [takeR, hF]
     refine wpc_seq <| wpc_region ?_
     refine wpl_q (q_build (cs := [.int .u8 0, nl, nl]) rfl built_oz) rfl ?_
     refine wpl_t0 (t_stA Try.ti72 rfl rfl LenC.h OneC.h LenC.h) (fun _ => ?_)
     refine wpl_q (q_pure rfl) rfl <| wpl_q (q_pure rfl) rfl <| wpl_nil <| ex_then <| wpc_ret ?_
     refine ex_then_ret ?_
     refine retv3 (.inl rfl) rfl (rv_agg Try.underlying72 rfl Try.ti72 rfl (fun w h => h.atB) rfl) (rv_tmp rfl) (rv_tmp rfl) ?_
     exact fun w1 h => ⟨HT.z, ⟨zz47, SV.nil, SV.nil⟩, zz47, h.below, by
       have h2 : Mem w [] [.row nl 0 5 1 [], .row nl 0 72 3 []] [] w1 := ((h.nilRow 72 3).nilRow 5 1).sel
       exact madeT (tg := 0) (bv := nl) (lv := nl) (bs := []) (l := []) h2⟩
    ·
     simp only [decide_eq_false_iff_not] at hc36
     obtain ⟨f2, rfl⟩ : ∃ f2, f = f2 + 1 := ⟨f - 1, zz11⟩
     have hc0 : ¬ ((headF xs).2.2.2 = false ∨ xs.length < (headF xs).2.1 + (headF xs).2.2.1) := by rw [hk]; rintro (h | h); cases h; omega
     have hsl : ((xs.drop (headF xs).2.1).take (headF xs).2.2.1).length = (headF xs).2.2.1 := by rw [List.length_take, List.length_drop]; omega
     refine wpc_skip <| ex_then <| wpc_seq <| wpc_region <| wpl_q (q_pure rfl) rfl ?_
     refine wpl_q (q_build (cs := [.int .u8 ((headF xs).1.toNat : Int), nl, nl]) rfl (built_o0 (headF xs).1)) rfl ?_
     refine wpl_t (t_alloc Try.ti72 HT.z.c rfl) rfl (fun b11 => ?_)
     refine wpl_t0 (t_stA Try.ti72 rfl rfl LenC.h OneC.h LenC.h) (fun _ => ?_)
     refine wpl_nil <| ex_then <| wpc_seq <| wpc_region <| wpl_q (q_pure rfl) rfl <| wpl_q (q_pure rfl) rfl ?_
     first | refine wpl_q (qop_eq (q_pure rfl) (congrArg (Value.int .i64) (wk_i64 zz11 zz11))) rfl ?_ | refine wpl_q (q_pure rfl) rfl ?_
     refine wpl_q (q_pure rfl) rfl <| wpl_nil <| ex_then <| wpc_seq <| wpc_seq <| wpc_region <| wpl_q (q_pure rfl) rfl <| wpl_q (q_pure rfl) rfl <| wpl_nil <| ex_then ?_
     refine wpc_cond rfl (fun hc44 => ?_) (fun hc44 => ?_)
     ·
      simp only [decide_eq_true_eq] at hc44
      have ht : (headF xs).1.toNat < 128 := by omega
      refine wpc_seq <| wpc_region ?_
      refine wpl_tp (t_bs0W Try.underlying43 Try.ti5) rfl (fun b45 p45 => ?_)
      refine wpl_q (q_pure rfl) rfl <| wpl_q (q_pure rfl) rfl <| wpl_q (q_pure rfl) rfl ?_
      refine wpl_q (q_slWlh Try.underlying43 Try.ti5 rfl rfl rfl zz2 zz11 zz11) rfl ?_
      refine wpl_tp (t_ap0 Try.underlying43 Try.ti5 rfl zz18 rfl rfl (fun w h => ((h.seen_old hav).slv8 (headF xs).2.1 ((headF xs).2.1 + (headF xs).2.2.1) zz11 zz11)) (v8s_one _) zz0 zz0) rfl (fun b50 p50 => ?_)
      haveI := oneH (t := (headF xs).1) p50 SV.nil
      refine wpl_q (q_field Try.underlying72 rfl Try.ti43 rfl rfl _ rfl) rfl ?_
      refine wpl_t0 (t_st1 Try.ti43 rfl rfl (SV.one zz2) zz3 [.int .u8 ((headF xs).1.toNat : Int), b50, nl] rfl) (fun _ => ?_)
      refine wpl_nil <| ex_then <| wpc_seq <| wpc_region <| wpl_q (q_ldN Try.underlying72 rfl Try.ti72 rfl LenC.h) rfl <| wpl_q (q_pure rfl) rfl ?_
      refine wpl_t0 (t_stA Try.ti72 rfl rfl LenC.h OneC.h LenC.h) (fun _ => ?_)
      refine wpl_q (q_pure rfl) rfl <| wpl_q (q_pure rfl) rfl <| wpl_nil <| ex_then <| wpc_ret ?_
      refine ex_then_ret ?_
      refine retv3 (.inl rfl) rfl (rv_agg Try.underlying72 rfl Try.ti72 rfl (fun w h => h.atB) rfl) (rv_tmp rfl) (rv_tmp rfl) ?_
      have hF : takeF (f2 + 1) xs = some (.nd (headF xs).1 ((xs.drop (headF xs).2.1).take (headF xs).2.2.1) [], (headF xs).2.1 + (headF xs).2.2.1) := by rw [takeF, if_neg hc0, if_pos ht]
      have hR : takeR (f2 + 1) xs = (.nd (headF xs).1 ((xs.drop (headF xs).2.1).take (headF xs).2.2.1) [], (headF xs).2.1 + (headF xs).2.2.1, true) := by rw [takeR, hF]
      have h50 : SV b50 ((xs.drop (headF xs).2.1).take (headF xs).2.2.1).length := by rw [hsl]; have q := p50; rw [show (headF xs).2.1 + (headF xs).2.2.1 - (headF xs).2.1 = (headF xs).2.2.1 from zz11] at q; simpa using q
      exact fun w1 h => ⟨.nd (headF xs).1 b50 ((xs.drop (headF xs).2.1).take (headF xs).2.2.1) nl [], ⟨zz47, h50, SV.nil⟩, zz47, h.below, by
        rw [show (headF xs).2.1 + (headF xs).2.2.1 - (headF xs).2.1 = (headF xs).2.2.1 from zz11] at h
        have h2 : Mem w [] [.row b50 ((xs.drop (headF xs).2.1).take (headF xs).2.2.1).length 5 1 (v8s ((xs.drop (headF xs).2.1).take (headF xs).2.2.1)), .row nl 0 72 3 []] [] w1 := by rw [hsl]; exact (h.nilRow 72 3).sel
        exact madeT (bv := b50) (lv := nl) (l := []) h2⟩
     ·
      simp only [decide_eq_false_iff_not] at hc44
      have ht : ¬ (headF xs).1.toNat < 128 := by omega
      refine wpc_skip <| ex_then <| wpc_seq <| wpc_block ?_
      refine wpc_loopc (ι := { x : Nat × List HT × Value // (x.1 ≤ (headF xs).2.2.1) ∧ (x.2.1.length ≤ x.1) ∧ (KI f2 (headF xs).2.2.1 ((xs.drop (headF xs).2.1).take (headF xs).2.2.1) x.2.1 x.1) ∧ (SV x.2.2 x.2.1.length) }) [(0, _), (1, _), (4, _), (11, _), (12, _)] (fun x Lc => (8, .int .i64 (((headF xs).2.1 + x.1.1 : Nat) : Int)) :: Lc) (fun x => Mem w [] (.blk b11 72 [.int .u8 ((headF xs).1.toNat : Int), nl, x.1.2.2] :: .blk b4 72 HT.z.c :: .row x.1.2.2 x.1.2.1.length 72 3 (hcs x.1.2.1) :: entsL x.1.2.1) []) (fun x => (headF xs).2.2.1 - x.1.1) ⟨(0, [], nl), ⟨Nat.zero_le _, Nat.le_refl _, by have q := KI_start (f := f2) (seg := ((xs.drop (headF xs).2.1).take (headF xs).2.2.1)); rw [hsl] at q; exact q, SV.nil⟩⟩ zz7 ?_ ?_
      ·
       exact fun w1 h => by
         have h2 : Mem w [] [.blk b11 72 [.int .u8 ((headF xs).1.toNat : Int), nl, nl], .blk b4 72 HT.z.c, .row nl 0 72 3 []] [] w1 := (h.nilRow 72 3).sel
         exact h2
      ·
       rintro ⟨⟨c, ns, nv⟩, ⟨hi0, hi1, hi2, hi3⟩⟩; try dsimp only
       have hi0 : c ≤ (headF xs).2.2.1 := hi0; have hi1 : ns.length ≤ c := hi1; have hi2 : KI f2 (headF xs).2.2.1 ((xs.drop (headF xs).2.1).take (headF xs).2.2.1) ns c := hi2; have hi3 : SV nv ns.length := hi3
       haveI := oneH (t := (headF xs).1) SV.nil hi3
       refine wpc_seq <| wpc_seq <| wpc_region <| wpl_q (q_pure rfl) rfl <| wpl_q (q_pure rfl) rfl <| wpl_q (q_pure rfl) rfl <| wpl_nil <| ex_then ?_
       refine wpc_cond rfl (fun hc56 => ?_) (fun hc56 => ?_)
       ·
        simp only [decide_eq_true_eq] at hc56
        have hcn : c < (headF xs).2.2.1 := by omega
        have hxl2 : ((xs.drop ((headF xs).2.1 + c)).take ((headF xs).2.1 + (headF xs).2.2.1 - ((headF xs).2.1 + c))).length = (headF xs).2.2.1 - c := by rw [List.length_take, List.length_drop]; omega
        have hsg : ((xs.drop (headF xs).2.1).take (headF xs).2.2.1).drop c = ((xs.drop ((headF xs).2.1 + c)).take ((headF xs).2.1 + (headF xs).2.2.1 - ((headF xs).2.1 + c))) := by rw [List.drop_take, List.drop_drop]; congr 1; omega
        refine wpc_skip <| ex_then <| wpc_block <| wpc_seq <| wpc_region <| wpl_q (q_pure rfl) rfl <| wpl_q (q_pure rfl) rfl <| wpl_q (q_pure rfl) rfl ?_
        refine wpl_q (q_slWlh Try.underlying43 Try.ti5 rfl rfl rfl zz2 zz11 zz11) rfl ?_
        refine wpl_q (q_pure rfl) rfl ?_
        refine wpl_q (q_addN (b := 1) rfl rfl zz0) rfl ?_
        refine wpl_tp (t_callE (fun y : HT => .blk b11 72 [.int .u8 ((headF xs).1.toNat : Int), nl, nv] :: .blk b4 72 HT.z.c :: .row nv ns.length 72 3 (hcs ns) :: (y.ents ++ entsL ns)) (fun y => List.perm_append_comm_assoc y.ents [.blk b11 72 [.int .u8 ((headF xs).1.toNat : Int), nl, nv], .blk b4 72 HT.z.c, .row nv ns.length 72 3 (hcs ns)] (entsL ns)) Try.hb89 rfl fun w h => ih f2 rfl _ ((xs.drop ((headF xs).2.1 + c)).take ((headF xs).2.1 + (headF xs).2.2.1 - ((headF xs).2.1 + c))) w (((h.seen_old hav).slv8 ((headF xs).2.1 + c) ((headF xs).2.1 + (headF xs).2.2.1) zz11 zz11).re8) (by rw [hxl2]; omega)) rfl (fun b64 p64 => ?_)
        haveI := p64.2.one
        have sb75 := p64.2
        refine wpl_q (q_pure rfl) rfl <| wpl_q (q_pure rfl) rfl <| wpl_q (q_pure rfl) rfl <| wpl_q (q_pure rfl) rfl ?_
        refine wpl_t (t_alloc Try.ti72 HT.z.c rfl) rfl (fun b13 => ?_)
        refine wpl_t0 (t_stA Try.ti72 rfl rfl LenC.h OneC.h LenC.h) (fun _ => ?_)
        refine wpl_q (q_pure rfl) rfl <| wpl_q (q_pure rfl) rfl <| wpl_nil <| ex_then <| wpc_seq <| wpc_seq <| wpc_region <| wpl_q (q_pure rfl) rfl <| wpl_q (q_pure rfl) rfl <| wpl_nil <| ex_then ?_
        refine wpc_cond rfl (fun hc69 => ?_) (fun hc69 => ?_)
        ·
         have hF2 : takeF f2 ((xs.drop ((headF xs).2.1 + c)).take ((headF xs).2.1 + (headF xs).2.2.1 - ((headF xs).2.1 + c))) = none := takeR_none (by simpa using hc69)
         have hF : takeF (f2 + 1) xs = none := by rw [takeF, if_neg hc0, if_neg ht, KI_none hi2 (by rw [hsl]; omega) (by rw [hsg]; exact hF2)]; rfl
         have hR : takeR (f2 + 1) xs = (Tr.z, 0, false) := by rw [takeR, hF]
         refine wpc_seq <| wpc_region ?_
         refine wpl_q (q_build (cs := [.int .u8 0, nl, nl]) rfl built_oz) rfl ?_
         refine wpl_t0 (t_stA Try.ti72 rfl rfl LenC.h OneC.h LenC.h) (fun _ => ?_)
         refine wpl_q (q_pure rfl) rfl <| wpl_q (q_pure rfl) rfl <| wpl_nil <| ex_then <| wpc_ret ?_
         refine ex_then_ret ?_
         refine ex_block_ret ?_
         refine ex_then_ret ?_
         refine ex_block_ret ?_
         refine ex_then_ret ?_
         refine retv3 (.inl rfl) rfl (rv_agg Try.underlying72 rfl Try.ti72 rfl (fun w h => h.atB) rfl) (rv_tmp rfl) (rv_tmp rfl) ?_
         exact fun w1 h => ⟨HT.z, ⟨zz47, SV.nil, SV.nil⟩, zz47, h.below, by
           have h2 : Mem w [] [.row nl 0 5 1 [], .row nl 0 72 3 []] [] w1 := ((h.nilRow 72 3).nilRow 5 1).sel
           exact madeT (tg := 0) (bv := nl) (lv := nl) (bs := []) (l := []) h2⟩
        ·
         have hF2 : takeF f2 ((xs.drop ((headF xs).2.1 + c)).take ((headF xs).2.1 + (headF xs).2.2.1 - ((headF xs).2.1 + c))) = some ((takeR f2 ((xs.drop ((headF xs).2.1 + c)).take ((headF xs).2.1 + (headF xs).2.2.1 - ((headF xs).2.1 + c)))).1, (takeR f2 ((xs.drop ((headF xs).2.1 + c)).take ((headF xs).2.1 + (headF xs).2.2.1 - ((headF xs).2.1 + c)))).2.1) := takeR_some (by simpa using hc69)
         have hmm := takeF_le hF2
         have hKI := KI_some (y := b64) hi2 (by rw [hsl]; omega) (show takeF f2 (((xs.drop (headF xs).2.1).take (headF xs).2.2.1).drop c) = some (b64.tr, (takeR f2 ((xs.drop ((headF xs).2.1 + c)).take ((headF xs).2.1 + (headF xs).2.2.1 - ((headF xs).2.1 + c)))).2.1) by rw [hsg, p64.1]; exact hF2)
         refine wpc_skip <| ex_then <| wpc_seq <| wpc_region <| wpl_q (q_field Try.underlying72 rfl Try.ti70 rfl rfl _ rfl) rfl <| wpl_q (q_ld Try.underlying70 rfl rfl rfl) rfl <| wpl_q (q_ldN Try.underlying72 rfl Try.ti72 rfl LenC.h) rfl ?_
         refine wpl_tp (t_bsG [.agg b64.c.toArray] b64.c Try.underlying70 Try.ti72 rfl zz18 rfl zz18 zz18 rfl zz30 (List.append_nil _)) rfl (fun b74 p74 => ?_)
         refine wpl_tp (t_apW Try.underlying70 Try.ti72 rfl zz18 rfl rfl (fun w h => zz1) OneC.h zz0 zz0 (hcs (ns ++ [b64])) (cat_snoc HT.c ns b64)) rfl (fun b75 p75 => ?_)
         refine wpl_q (q_field Try.underlying72 rfl Try.ti70 rfl rfl _ rfl) rfl ?_
         refine wpl_t0 (t_st1 Try.ti70 rfl rfl (SV.one zz2) zz3 [.int .u8 ((headF xs).1.toNat : Int), nl, b75] rfl) (fun _ => ?_)
         refine wpl_nil <| ex_then <| wpc_region <| wpl_q (q_pure rfl) rfl <| wpl_q (q_pure rfl) rfl ?_
         first | refine wpl_q (qop_eq (q_pure rfl) (congrArg (Value.int .i64) (wk_i64 zz11 zz11))) rfl ?_ | refine wpl_q (q_pure rfl) rfl ?_
         refine wpl_re 79 rfl (congrArg (fun n : Nat => Value.int .i64 (n : Int)) (show (headF xs).2.1 + c + (takeR f2 ((xs.drop ((headF xs).2.1 + c)).take ((headF xs).2.1 + (headF xs).2.2.1 - ((headF xs).2.1 + c)))).2.1 = (headF xs).2.1 + (c + (takeR f2 ((xs.drop ((headF xs).2.1 + c)).take ((headF xs).2.1 + (headF xs).2.2.1 - ((headF xs).2.1 + c)))).2.1) from zz11)) ?_
         refine wpl_q (q_pure rfl) rfl <| wpl_nil <| ex_block ?_
         refine ex_again ⟨(c + (takeR f2 ((xs.drop ((headF xs).2.1 + c)).take ((headF xs).2.1 + (headF xs).2.2.1 - ((headF xs).2.1 + c)))).2.1, ns ++ [b64], b75), ⟨by dsimp only; omega, by rw [snoc_len]; dsimp only; omega, hKI, by rw [snoc_len]; exact p75⟩⟩ ?_ ?_ ?_
         ·
          exact zz7
         ·
          exact fun w h => by
            dsimp only
            rw [snoc_len]
            have h2 := h.sub (M' := .blk b11 72 [.int .u8 ((headF xs).1.toNat : Int), nl, b75] :: .blk b4 72 HT.z.c :: .row b75 (ns.length + 1) 72 3 (hcs (ns ++ [b64])) :: (b64.ents ++ entsL ns)) (S' := []) SubC.h .nil
            exact h2.perm ((((entsL_snoc ns b64).cons _).cons _).cons _)
         ·
          (show (headF xs).2.2.1 - (c + (takeR f2 ((xs.drop ((headF xs).2.1 + c)).take ((headF xs).2.1 + (headF xs).2.2.1 - ((headF xs).2.1 + c)))).2.1) < (headF xs).2.2.1 - c); omega
       ·
        simp only [decide_eq_false_iff_not] at hc56
        have hF : takeF (f2 + 1) xs = some (.nd (headF xs).1 [] (trs ns), (headF xs).2.1 + (headF xs).2.2.1) := by rw [takeF, if_neg hc0, if_neg ht, KI_end hi2 (by rw [hsl]; omega)]; rfl
        have hR : takeR (f2 + 1) xs = (.nd (headF xs).1 [] (trs ns), (headF xs).2.1 + (headF xs).2.2.1, true) := by rw [takeR, hF]
        refine wpc_exit ?_
        refine ex_then_exit ?_
        refine ex_then_exit ?_
        refine ex_block_hit ?_
        refine ex_then <| wpc_seq <| wpc_region <| wpl_q (q_ldN Try.underlying72 rfl Try.ti72 rfl LenC.h) rfl <| wpl_q (q_pure rfl) rfl ?_
        refine wpl_t0 (t_stA Try.ti72 rfl rfl LenC.h OneC.h LenC.h) (fun _ => ?_)
        refine wpl_q (q_pure rfl) rfl <| wpl_q (q_pure rfl) rfl <| wpl_nil <| ex_then <| wpc_ret ?_
        refine retv3 (.inl rfl) rfl (rv_agg Try.underlying72 rfl Try.ti72 rfl (fun w h => h.atB) rfl) (rv_tmp rfl) (rv_tmp rfl) ?_
        exact fun w1 h => ⟨.nd (headF xs).1 nl [] nv ns, ⟨zz47, SV.nil, hi3⟩, zz47, h.below, by
          have h2 : Mem w [] (.row nl 0 5 1 [] :: .row nv ns.length 72 3 (hcs ns) :: entsL ns) [] w1 := (h.nilRow 5 1).sub SubC.h .nil
          exact madeT (bv := nl) (bs := []) h2⟩
end Go.Proofs.Ytgnablliekgbgaa
namespace Go.Proofs.Ytgnablliekgbgaa
open Go Go.PL Go.RowKit
theorem take : ∀ (f d : Nat) (av : Value) (xs : List UInt8) (w : World), Seen w.cell? av xs.length 1 (v8s xs) → d + f = 13 → xs.length ≤ 70000 → Calls Try.prog 89 [av, .int .i64 ((d : Nat) : Int)].toArray w (GivesP w (fun y : HT => y.tr = (takeR f xs).1 ∧ y.sv) (fun y => .tuple #[.agg y.c.toArray, .int .i64 (((takeR f xs).2.1 : Nat) : Int), .bool (takeR f xs).2.2]) (fun y => y.ents) (fun _ => []))
  | 0, d, av, xs, w, h, hd, hx => take_step av xs d w h 0 hd hx (fun f2 e => zz11)
  | f + 1, d, av, xs, w, h, hd, hx => take_step av xs d w h (f + 1) hd hx (fun f2 e av xs w hs hx => by
    obtain rfl : f = f2 := by omega
    exact take f (d + 1) av xs w hs zz11 hx)
theorem kidsW_size {f : Nat} (ih : ∀ (xs : List UInt8) (t : Tr) (m : Nat), takeF f xs = some (t, m) → t.byt + 2 * t.cnt ≤ m ∧ t.dep ≤ f) : ∀ (k : Nat) (ys : List UInt8) (l : List Tr), kidsW (takeF f) k ys = some l → bytL l + 2 * cntL l ≤ ys.length ∧ depL l ≤ f
  | 0, ys, l, h => by
    unfold kidsW at h
    split at h
    · cases h; exact ⟨Nat.zero_le _, Nat.zero_le _⟩
    · cases h
  | k + 1, ys, l, h => by
    unfold kidsW at h
    split at h
    · cases h; exact ⟨Nat.zero_le _, Nat.zero_le _⟩
    · obtain ⟨⟨t, m⟩, h1, h2⟩ := Option.bind_eq_some_iff.1 h
      obtain ⟨l2, h3, rfl⟩ := Option.map_eq_some_iff.1 h2
      have a := ih _ _ _ h1
      have b := kidsW_size ih k _ _ h3
      have c := takeF_le h1
      rw [List.length_drop] at b
      dsimp only at a b c ⊢
      rw [bytL, cntL, depL]
      omega
theorem takeF_size : ∀ (f : Nat) (xs : List UInt8) (t : Tr) (m : Nat), takeF f xs = some (t, m) → t.byt + 2 * t.cnt ≤ m ∧ t.dep ≤ f
  | 0, xs, t, m, h => by cases h
  | f + 1, xs, t, m, h => by
    have hh := headF_le xs
    unfold takeF at h
    split at h
    · cases h
    · rename_i h1
      rw [not_or, Bool.not_eq_false] at h1
      have h2 := hh.2.2.2 h1.1
      split at h
      · cases h
        have e : ((xs.drop (headF xs).2.1).take (headF xs).2.2.1).length ≤ (headF xs).2.2.1 := by rw [List.length_take]; omega
        refine ⟨?_, ?_⟩
        · rw [Tr.byt, Tr.cnt, bytL, cntL]; omega
        · rw [Tr.dep, depL]; omega
      · obtain ⟨l, h3, e⟩ := Option.map_eq_some_iff.1 h
        cases e
        have b := kidsW_size (takeF_size f) _ _ _ h3
        have e : ((xs.drop (headF xs).2.1).take (headF xs).2.2.1).length ≤ (headF xs).2.2.1 := by rw [List.length_take]; omega
        refine ⟨?_, ?_⟩
        · rw [Tr.byt, Tr.cnt, List.length_nil]; omega
        · rw [Tr.dep]; omega
def decF (xs : List UInt8) : Tr × Int :=
  if 65536 < xs.length then (Tr.z, 4) else match takeF 12 xs with
    | some (t, m) => if m = xs.length ∧ checkF t = 0 then (t, 0) else (Tr.z, 12)
    | none => (Tr.z, 12)
theorem refDecode (av : Value) (xs : List UInt8) (w : World) (hav : Seen w.cell? av xs.length 1 (v8s xs))  :
    Calls Try.prog 55 [av].toArray w (GivesP w (fun y : HT => y.tr = (decF xs).1 ∧ y.sv) (fun y => .tuple #[.agg y.c.toArray, .int .i64 (decF xs).2]) (fun y => y.ents) (fun _ => [])) := by
  have sav := hav.sv
  have lav := sav.le
  simp only [maxLen] at lav
  refine enter (m := 32) (R := Mem w [] [] []) Try.func55 rfl rfl (Nat.le_of_ble_eq_true rfl) (Mem.start w) ?_
  refine wpc_seq <| wpc_region ?_
  refine wpl_t (t_alloc Try.ti72 HT.z.c rfl) rfl (fun b2 => ?_)
  refine wpl_q (q_pure rfl) rfl <| wpl_nil <| ex_then <| wpc_seq <| wpc_seq <| wpc_region <| wpl_q (q_pure rfl) rfl ?_
  refine wpl_q (q_lenW Try.underlying43 rfl zz2) rfl ?_
  refine wpl_q (q_pure rfl) rfl <| wpl_nil <| ex_then ?_
  refine wpc_cond rfl (fun hc9 => ?_) (fun hc9 => ?_)
  ·
   simp only [decide_eq_true_eq] at hc9
   have hR : decF xs = (Tr.z, 4) := by rw [decF, if_pos zz11]
   refine wpc_seq <| wpc_region ?_
   refine wpl_q (q_build (cs := HT.z.c) rfl built_oz) rfl ?_
   refine wpl_t0 (t_stA Try.ti72 rfl rfl LenC.h OneC.h LenC.h) (fun _ => ?_)
   refine wpl_q (q_pure rfl) rfl <| wpl_nil <| ex_then <| wpc_ret ?_
   refine ex_then_ret ?_
   refine retv2 (.inl rfl) rfl (rv_agg Try.underlying72 rfl Try.ti72 rfl (fun w h => h.atB) LenC.h) (rv_tmp rfl) ?_
   exact fun w1 h => ⟨HT.z, ⟨zz47, SV.nil, SV.nil⟩, by rw [hR], h.below, by
     have h2 : Mem w [] [.row nl 0 5 1 [], .row nl 0 72 3 []] [] w1 := ((h.nilRow 72 3).nilRow 5 1).sel
     exact madeT (tg := 0) (bv := nl) (lv := nl) (bs := []) (l := []) h2⟩
  ·
   simp only [decide_eq_false_iff_not] at hc9
   have hlx : ¬ 65536 < xs.length := by omega
   refine wpc_skip <| ex_then <| wpc_seq <| wpc_region <| wpl_q (q_pure rfl) rfl ?_
   refine wpl_tp (t_callE (fun y : HT => .blk b2 72 HT.z.c :: y.ents) (fun y => List.perm_append_comm) Try.hb89 rfl fun w h => take 12 1 av xs w (h.seen_old hav) rfl zz11) rfl (fun b13 p13 => ?_)
   haveI := p13.2.one
   refine wpl_q (q_pure rfl) rfl <| wpl_q (q_pure rfl) rfl <| wpl_q (q_pure rfl) rfl <| wpl_q (q_pure rfl) rfl ?_
   refine wpl_t (t_alloc Try.ti72 HT.z.c rfl) rfl (fun b4 => ?_)
   refine wpl_t0 (t_stA Try.ti72 rfl rfl LenC.h OneC.h LenC.h) (fun _ => ?_)
   refine wpl_q (q_pure rfl) rfl <| wpl_q (q_pure rfl) rfl <| wpl_nil <| ex_then <| wpc_seq <| wpc_seq <| wpc_region <| wpl_q (q_pure rfl) rfl <| wpl_q (q_pure rfl) rfl <| wpl_q (q_pure rfl) rfl ?_
   refine wpl_bool2 19 18 rfl rfl (fun hb19 => ?_) (fun hb19 => ?_)
   ·
    have hT : takeF 12 xs = none := takeR_none (by simpa using hb19)
    have hR : decF xs = (Tr.z, 12) := by rw [decF, if_neg hlx, hT]
    refine wpl_off rfl rfl rfl rfl <| wpl_off rfl rfl rfl rfl <| wpl_off rfl rfl rfl rfl <| wpl_off rfl rfl rfl rfl <| wpl_q (q_pure rfl) rfl <| wpl_q (q_pure rfl) rfl <| wpl_off rfl rfl rfl rfl <| wpl_off rfl rfl rfl rfl <| wpl_off rfl rfl rfl rfl <| wpl_q (q_pure rfl) rfl <| wpl_nil <| ex_then ?_
    refine wpc_cond_t rfl ?_
    refine wpc_seq <| wpc_region ?_
    refine wpl_q (q_build (cs := HT.z.c) rfl built_oz) rfl ?_
    refine wpl_t0 (t_stA Try.ti72 rfl rfl LenC.h OneC.h LenC.h) (fun _ => ?_)
    refine wpl_q (q_pure rfl) rfl <| wpl_nil <| ex_then <| wpc_ret ?_
    refine ex_then_ret ?_
    refine retv2 (.inl rfl) rfl (rv_agg Try.underlying72 rfl Try.ti72 rfl (fun w h => h.atB) LenC.h) (rv_tmp rfl) ?_
    exact fun w1 h => ⟨HT.z, ⟨zz47, SV.nil, SV.nil⟩, by rw [hR], h.below, by
      have h2 : Mem w [] [.row nl 0 5 1 [], .row nl 0 72 3 []] [] w1 := ((h.nilRow 72 3).nilRow 5 1).sel
      exact madeT (tg := 0) (bv := nl) (lv := nl) (bs := []) (l := []) h2⟩
   ·
    have hT : takeF 12 xs = some ((takeR 12 xs).1, (takeR 12 xs).2.1) := takeR_some (by simpa using hb19)
    have hts := takeF_size _ _ _ _ hT
    have htl := takeF_le hT
    have hsm : Sm b13.tr := by rw [p13.1]; unfold Sm; omega
    have hdp : b13.tr.dep ≤ 1000000 := by rw [p13.1]; omega
    refine wpl_on rfl rfl <| wpl_q (q_pure rfl) rfl <| wpl_on rfl rfl <| wpl_q (q_pure rfl) rfl <| wpl_on rfl rfl ?_
    refine wpl_q (q_lenW Try.underlying43 rfl zz2) rfl ?_
    refine wpl_on rfl rfl <| wpl_q (q_pure rfl) rfl <| wpl_q (q_pure rfl) rfl <| wpl_q (q_pure rfl) rfl ?_
    refine wpl_bool2 25 23 rfl rfl (fun hb25 => ?_) (fun hb25 => ?_)
    ·
     have hne : (takeR 12 xs).2.1 ≠ xs.length := by intro e; rw [e] at hb25; simp at hb25
     have hR : decF xs = (Tr.z, 12) := by rw [decF, if_neg hlx, hT]; exact if_neg (fun h => hne h.1)
     refine wpl_off rfl rfl rfl rfl <| wpl_off rfl rfl rfl rfl <| wpl_off rfl rfl rfl rfl <| wpl_q (q_pure rfl) rfl <| wpl_nil <| ex_then ?_
     refine wpc_cond_t rfl ?_
     refine wpc_seq <| wpc_region ?_
     refine wpl_q (q_build (cs := HT.z.c) rfl built_oz) rfl ?_
     refine wpl_t0 (t_stA Try.ti72 rfl rfl LenC.h OneC.h LenC.h) (fun _ => ?_)
     refine wpl_q (q_pure rfl) rfl <| wpl_nil <| ex_then <| wpc_ret ?_
     refine ex_then_ret ?_
     refine retv2 (.inl rfl) rfl (rv_agg Try.underlying72 rfl Try.ti72 rfl (fun w h => h.atB) LenC.h) (rv_tmp rfl) ?_
     exact fun w1 h => ⟨HT.z, ⟨zz47, SV.nil, SV.nil⟩, by rw [hR], h.below, by
       have h2 : Mem w [] [.row nl 0 5 1 [], .row nl 0 72 3 []] [] w1 := ((h.nilRow 72 3).nilRow 5 1).sel
       exact madeT (tg := 0) (bv := nl) (lv := nl) (bs := []) (l := []) h2⟩
    ·
     have heq : (takeR 12 xs).2.1 = xs.length := by simp only [bne_eq_false_iff_eq, decide_eq_false_iff_not, Decidable.not_not] at hb25; omega
     refine wpl_on rfl rfl <| wpl_q (q_ldN Try.underlying72 rfl Try.ti72 rfl LenC.h) rfl <| wpl_on rfl rfl ?_
     refine wpl_t (t_pur Try.hb90 rfl fun w h => refCheck b13 w (Mem.hseen h) hsm hdp) rfl (fun b27 => ?_)
     refine wpl_on rfl rfl <| wpl_q (q_pure rfl) rfl <| wpl_q (q_pure rfl) rfl <| wpl_nil <| ex_then ?_
     refine wpc_cond rfl (fun hc29 => ?_) (fun hc29 => ?_)
     ·
      have hck : ¬ checkF (takeR 12 xs).1 = 0 := by rw [← p13.1]; simpa using hc29
      have hR : decF xs = (Tr.z, 12) := by rw [decF, if_neg hlx, hT]; exact if_neg (fun h => hck h.2)
      refine wpc_seq <| wpc_region ?_
      refine wpl_q (q_build (cs := HT.z.c) rfl built_oz) rfl ?_
      refine wpl_t0 (t_stA Try.ti72 rfl rfl LenC.h OneC.h LenC.h) (fun _ => ?_)
      refine wpl_q (q_pure rfl) rfl <| wpl_nil <| ex_then <| wpc_ret ?_
      refine ex_then_ret ?_
      refine retv2 (.inl rfl) rfl (rv_agg Try.underlying72 rfl Try.ti72 rfl (fun w h => h.atB) LenC.h) (rv_tmp rfl) ?_
      exact fun w1 h => ⟨HT.z, ⟨zz47, SV.nil, SV.nil⟩, by rw [hR], h.below, by
        have h2 : Mem w [] [.row nl 0 5 1 [], .row nl 0 72 3 []] [] w1 := ((h.nilRow 72 3).nilRow 5 1).sel
        exact madeT (tg := 0) (bv := nl) (lv := nl) (bs := []) (l := []) h2⟩
     ·
      have hck : checkF (takeR 12 xs).1 = 0 := by rw [← p13.1]; simpa using hc29
      have hR : decF xs = ((takeR 12 xs).1, 0) := by rw [decF, if_neg hlx, hT]; exact if_pos ⟨heq, hck⟩
      refine wpc_skip <| ex_then <| wpc_seq <| wpc_region <| wpl_q (q_ldN Try.underlying72 rfl Try.ti72 rfl LenC.h) rfl ?_
      refine wpl_t0 (t_stA Try.ti72 rfl rfl LenC.h OneC.h LenC.h) (fun _ => ?_)
      refine wpl_q (q_pure rfl) rfl <| wpl_nil <| ex_then <| wpc_ret ?_
      refine retv2 (.inl rfl) rfl (rv_agg Try.underlying72 rfl Try.ti72 rfl (fun w h => h.atB) LenC.h) (rv_tmp rfl) ?_
      exact fun w1 h => ⟨b13, ⟨by rw [hR]; exact p13.1, p13.2⟩, by rw [hR], h.below, h.made SubC.h .nil⟩
end Go.Proofs.Ytgnablliekgbgaa
namespace Go.Proofs.Ytgnablliekgbgaa
open Go Go.PL Go.RowKit
theorem of8_lt {n : Nat} (h : n < 256) : (of8 ((n : Nat) : Int)).toNat = n := by have := of8_toNat (n : Int); omega
theorem headF_k {g b : UInt8} {zs : List UInt8} {k n : Nat} (hg : g ≠ 0) (hb : b.toNat = 128 + k) (hk : 1 ≤ k) (hk3 : k ≤ 3) (hl : k ≤ zs.length) (hn : numOf (zs.take k) = n) (hw : wideF n = 1 + k) : headF (g :: b :: zs) = (g, 2 + k, n, true) := by
  have e : (List.getD (g :: b :: zs) 1 0).toNat - 128 = k := by show b.toNat - 128 = k; omega
  unfold headF
  rw [e, if_neg (by rintro (h | h); · have h : zs.length + 1 + 1 < 2 := h; omega
                    · exact hg h), if_neg (by show ¬ b.toNat < 128; omega), if_neg (by show ¬ (k < 1 ∨ 3 < k ∨ zs.length + 1 + 1 < 2 + k); omega), if_neg (by show ¬ wideF (numOf (zs.take k)) ≠ 1 + k; rw [hn, hw]; simp)]
  show (g, 2 + k, numOf (zs.take k), true) = _
  rw [hn]
theorem headF_enc {g : UInt8} (hg : g ≠ 0) {n : Nat} (h : n < 16777216) (ys : List UInt8) : headF (g :: (lenB n ++ ys)) = (g, 1 + (lenB n).length, n, true) := by
  have hw := wideF_eq h
  unfold lenB
  split
  · rename_i h1
    have e := of8_lt (n := n) zz11
    show headF (g :: of8 (n : Int) :: ys) = (g, 2, n, true)
    unfold headF
    rw [if_neg (by rintro (h | h); · have h : ys.length + 1 + 1 < 2 := h; omega
                   · exact hg h), if_pos (by show (of8 (n : Int)).toNat < 128; omega)]
    show (g, 2, (of8 (n : Int)).toNat, true) = _
    rw [e]
  · rename_i h1
    rw [if_neg h1] at hw
    split
    · rename_i h2
      rw [if_pos h2] at hw
      refine headF_k (k := 1) (b := 129) (zs := of8 (n : Int) :: ys) hg rfl zz11 zz11 zz44 ?_ hw
      show 256 * 0 + (of8 (n : Int)).toNat = n
      rw [of8_lt h2]; omega
    · rename_i h2
      rw [if_neg h2] at hw
      split
      · rename_i h3
        rw [if_pos h3] at hw
        refine headF_k (k := 2) (b := 130) (zs := of8 ((n / 256 : Nat) : Int) :: of8 ((n % 256 : Nat) : Int) :: ys) hg rfl zz11 zz11 zz44 ?_ hw
        show 256 * (256 * 0 + (of8 ((n / 256 : Nat) : Int)).toNat) + (of8 ((n % 256 : Nat) : Int)).toNat = n
        rw [of8_lt zz11, of8_lt zz11]; omega
      · rename_i h3
        rw [if_neg h3] at hw
        refine headF_k (k := 3) (b := 131) (zs := of8 ((n / 65536 : Nat) : Int) :: of8 ((n / 256 % 256 : Nat) : Int) :: of8 ((n % 256 : Nat) : Int) :: ys) hg rfl zz11 zz11 zz44 ?_ hw
        show 256 * (256 * (256 * 0 + (of8 ((n / 65536 : Nat) : Int)).toNat) + (of8 ((n / 256 % 256 : Nat) : Int)).toNat) + (of8 ((n % 256 : Nat) : Int)).toNat = n
        rw [of8_lt zz11, of8_lt zz11, of8_lt zz11]; omega
theorem encL_len {g : UInt8} {bs : List UInt8} {l : List Tr} (h : Sm (.nd g bs l)) : (encL l).length = sizL l := by
  have h1 := enc_len _ h
  have hc := content_le h
  rw [enc, List.length_cons, List.length_append, List.length_append, lenB_length zz11, Tr.siz] at h1
  omega
theorem enc_pos (t : Tr) : 1 ≤ (enc t).length := by cases t; rw [enc, List.length_cons]; omega
theorem kids_enc {f : Nat} {l : List Tr} (ih : ∀ x ∈ l, ∀ rest, takeF f (enc x ++ rest) = some (x, (enc x).length)) : ∀ (m : List Tr), (∀ x ∈ m, x ∈ l) → ∀ k, (encL m).length ≤ k → kidsW (takeF f) k (encL m) = some m
  | [], _, k, _ => kidsW_nil _ k
  | x :: m, hm, k, hk => by
    have hp := enc_pos x
    rw [encL, List.length_append] at hk
    obtain ⟨j, rfl⟩ : ∃ j, k = j + 1 := ⟨k - 1, zz11⟩
    rw [encL, kidsW, if_neg, ih x (hm x (List.mem_cons_self ..))]
    · show (kidsW (takeF f) j ((enc x ++ encL m).drop (enc x).length)).map (x :: ·) = _
      rw [List.drop_left, kids_enc ih m (fun y hy => hm y (List.mem_cons_of_mem _ hy)) j zz11]; rfl
    · intro he
      rw [List.isEmpty_iff] at he
      have := congrArg List.length he
      rw [List.length_append, List.length_nil] at this
      omega
theorem shpL_mem {l : List Tr} (h : shpL l = true) : ∀ x ∈ l, x.shp = true := by
  induction l with
  | nil => intro x hx; cases hx
  | cons y l ih =>
    rw [shpL, Bool.and_eq_true] at h
    intro x hx
    rcases List.mem_cons.1 hx with rfl | hx
    · exact h.1
    · exact ih h.2 x hx
theorem depL_mem {l : List Tr} : ∀ x ∈ l, x.dep ≤ depL l := by
  induction l with
  | nil => intro x hx; cases hx
  | cons y l ih =>
    intro x hx
    rw [depL]
    rcases List.mem_cons.1 hx with rfl | hx
    · omega
    · have := ih x hx; omega
theorem take_enc : ∀ t : Tr, Sm t → t.shp = true → ∀ (f : Nat) (rest : List UInt8), t.dep ≤ f → takeF f (enc t ++ rest) = some (t, (enc t).length) := by
  intro t
  induction t using Tr.ind with
  | _ g bs l ih =>
    intro hs hp f rest hd
    rw [Tr.dep] at hd
    obtain ⟨f, rfl⟩ : ∃ f2, f = f2 + 1 := ⟨f - 1, zz11⟩
    have hc := content_le hs
    have hel := encL_len hs
    rw [Tr.shp, Bool.and_eq_true, Bool.not_eq_true', badT, Bool.or_eq_false_iff, Bool.or_eq_false_iff, Bool.and_eq_false_iff, Bool.and_eq_false_iff] at hp
    simp only [decide_eq_false_iff_not] at hp
    obtain ⟨⟨⟨hg, h1⟩, h2⟩, h3⟩ := hp
    have hlb := lenB_length (n := bs.length + sizL l) zz11
    have hx : enc (.nd g bs l) ++ rest = g :: (lenB (bs.length + sizL l) ++ ((bs ++ encL l) ++ rest)) := by rw [enc]; simp
    have hh := headF_enc hg (n := bs.length + sizL l) zz11 ((bs ++ encL l) ++ rest)
    have hlen : (enc (.nd g bs l)).length = 1 + (lenB (bs.length + sizL l)).length + (bs.length + sizL l) := by rw [enc, List.length_cons, List.length_append, List.length_append, hel]; omega
    have hdr : ((g :: (lenB (bs.length + sizL l) ++ ((bs ++ encL l) ++ rest))).drop (1 + (lenB (bs.length + sizL l)).length)).take (bs.length + sizL l) = bs ++ encL l := by
      rw [show g :: (lenB (bs.length + sizL l) ++ ((bs ++ encL l) ++ rest)) = (g :: lenB (bs.length + sizL l)) ++ ((bs ++ encL l) ++ rest) from rfl, List.drop_left' (by rw [List.length_cons]; omega), List.take_left' (by rw [List.length_append, hel])]
    rw [hx, takeF, hh]
    dsimp only
    rw [if_neg (by
      rintro (h | h)
      · cases h
      · simp only [List.length_cons, List.length_append, hel] at h; omega), hdr, hlen]
    by_cases h128 : g.toNat < 128
    · rw [if_pos h128]
      have hl0 : l = [] := List.eq_nil_of_length_eq_zero (by
        rcases h1 with h1 | h1
        · exact absurd (show g < 128 from h128) h1
        · omega)
      subst hl0
      rw [encL, List.append_nil]
    · rw [if_neg h128]
      have hb0 : bs = [] := List.eq_nil_of_length_eq_zero (by
        rcases h2 with h2 | h2
        · exact absurd (show (128 : UInt8) ≤ g from (by show (128 : Nat) ≤ g.toNat; omega)) h2
        · omega)
      subst hb0
      rw [List.nil_append, kids_enc (l := l) (fun x hx rest => ih x hx (hs.kidT hx) (shpL_mem h3 x hx) f rest (by have := depL_mem x hx; omega)) l (fun _ h => h) _ (by rw [hel]; simp)]
      rfl
end Go.Proofs.Ytgnablliekgbgaa
namespace Go.Proofs.Ytgnablliekgbgaa
open Go Go.PL Go.RowKit
theorem numK_numOf : ∀ (k : Nat) (ys : List UInt8), ys.length = k → numK k (numOf ys) = ys
  | 0, ys, h => by rw [List.eq_nil_of_length_eq_zero h]; rfl
  | k + 1, ys, h => by
    have h1 := numOf_take (bs := ys) (i := k) zz11
    have h2 := take_succD (0 : UInt8) (l := ys) (i := k) zz11
    rw [List.take_of_length_le zz11] at h1 h2
    have hb := (ys.getD k 0).toNat_lt
    have ih := numK_numOf k (ys.take k) (by rw [List.length_take]; omega)
    rw [numK, h1, show (256 * numOf (ys.take k) + (ys.getD k 0).toNat) / 256 = numOf (ys.take k) from zz11, ih, of8_mod]
    have e : of8 ((256 * numOf (ys.take k) + (ys.getD k 0).toNat : Nat) : Int) = ys.getD k 0 := by
      apply UInt8.toNat_inj.1
      have := of8_toNat ((256 * numOf (ys.take k) + (ys.getD k 0).toNat : Nat) : Int)
      omega
    rw [e, ← h2]
theorem headF_inv {xs : List UInt8} (h : (headF xs).2.2.2 = true) : (headF xs).1 ≠ 0 ∧ xs.take (headF xs).2.1 = (headF xs).1 :: lenB (headF xs).2.2.1 ∧ (headF xs).2.1 = 1 + (lenB (headF xs).2.2.1).length := by
  match xs with
  | [] => cases h
  | [a] => cases h
  | a :: b :: zs =>
    have hb := b.toNat_lt
    have q : headF (a :: b :: zs) = if (a :: b :: zs).length < 2 ∨ a = 0 then (0, 0, 0, false) else if b.toNat < 128 then (a, 2, b.toNat, true) else if b.toNat - 128 < 1 ∨ 3 < b.toNat - 128 ∨ (a :: b :: zs).length < 2 + (b.toNat - 128) then (0, 0, 0, false)
      else if wideF (numOf (zs.take (b.toNat - 128))) ≠ 1 + (b.toNat - 128) then (0, 0, 0, false) else (a, 2 + (b.toNat - 128), numOf (zs.take (b.toNat - 128)), true) := rfl
    by_cases h1 : (a :: b :: zs).length < 2 ∨ a = 0
    · rw [q, if_pos h1] at h; cases h
    · rw [if_neg h1] at q
      have ha : a ≠ 0 := fun e => h1 (.inr e)
      by_cases h2 : b.toNat < 128
      · rw [if_pos h2] at q
        rw [q]
        have e : lenB b.toNat = [b] := by
          rw [lenB, if_pos h2]
          congr 1
          apply UInt8.toNat_inj.1
          exact of8_lt zz11
        refine ⟨ha, ?_, ?_⟩
        · show [a, b] = a :: lenB b.toNat
          rw [e]
        · show 2 = 1 + (lenB b.toNat).length
          rw [e]; rfl
      · rw [if_neg h2] at q
        by_cases h3 : b.toNat - 128 < 1 ∨ 3 < b.toNat - 128 ∨ (a :: b :: zs).length < 2 + (b.toNat - 128)
        · rw [q, if_pos h3] at h; cases h
        · rw [if_neg h3] at q
          by_cases h4 : wideF (numOf (zs.take (b.toNat - 128))) ≠ 1 + (b.toNat - 128)
          · rw [q, if_pos h4] at h; cases h
          · rw [if_neg h4] at q
            rw [q]
            have h4 : wideF (numOf (zs.take (b.toNat - 128))) = 1 + (b.toNat - 128) := Decidable.not_not.1 h4
            have hl : (zs.take (b.toNat - 128)).length = b.toNat - 128 := by
              rw [List.length_take]
              have : ¬ (zs.length + 1 + 1 < 2 + (b.toNat - 128)) := fun h => h3 (.inr (.inr h))
              omega
            have hn := numOf_24 (xs := zs) (i := b.toNat - 128) (by rw [List.length_take] at hl; omega) zz11
            have h128 : ¬ numOf (zs.take (b.toNat - 128)) < 128 := fun h => by
              have := wide_1 h
              omega
            have hk : kB (numOf (zs.take (b.toNat - 128))) = b.toNat - 128 := by
              have := wide_k h128
              omega
            have e : lenB (numOf (zs.take (b.toNat - 128))) = b :: zs.take (b.toNat - 128) := by
              have eb : of8 ((128 + (b.toNat - 128) : Nat) : Int) = b := UInt8.toNat_inj.1 (by rw [of8_lt zz11]; omega)
              rw [lenB_num hn, if_neg h128, hk, numK_numOf _ _ hl, eb]
            refine ⟨ha, ?_, ?_⟩
            · show (a :: b :: zs).take (2 + (b.toNat - 128)) = a :: lenB _
              rw [e, show 2 + (b.toNat - 128) = (b.toNat - 128) + 1 + 1 from zz11]; rfl
            · show 2 + (b.toNat - 128) = 1 + (lenB _).length
              rw [e, List.length_cons, hl]; omega
theorem sm_of {t : Tr} {m : Nat} (h : t.byt + 2 * t.cnt ≤ m) (hm : m ≤ 70000) : Sm t := by unfold Sm; omega
theorem kids_inv {f : Nat} (ih : ∀ (xs : List UInt8) (t : Tr) (m : Nat), xs.length ≤ 70000 → takeF f xs = some (t, m) → xs.take m = enc t ∧ t.shp = true) : ∀ (k : Nat) (ys : List UInt8) (l : List Tr), ys.length ≤ 70000 → kidsW (takeF f) k ys = some l → ys = encL l ∧ shpL l = true
  | 0, ys, l, _, h => by
    unfold kidsW at h
    split at h
    · rename_i he
      cases h
      exact ⟨List.isEmpty_iff.1 he, rfl⟩
    · cases h
  | k + 1, ys, l, hl, h => by
    unfold kidsW at h
    split at h
    · rename_i he
      cases h
      exact ⟨List.isEmpty_iff.1 he, rfl⟩
    · obtain ⟨⟨t, m⟩, h1, h2⟩ := Option.bind_eq_some_iff.1 h
      obtain ⟨l2, h3, rfl⟩ := Option.map_eq_some_iff.1 h2
      obtain ⟨a1, a2⟩ := ih _ _ _ hl h1
      obtain ⟨b1, b2⟩ := kids_inv ih k _ _ zz45 h3
      dsimp only at a1 a2 b1 b2 ⊢
      refine ⟨?_, ?_⟩
      · rw [encL, ← a1, ← b1, List.take_append_drop]
      · rw [shpL, a2, b2]; rfl
theorem take_inv : ∀ (f : Nat) (xs : List UInt8) (t : Tr) (m : Nat), xs.length ≤ 70000 → takeF f xs = some (t, m) → xs.take m = enc t ∧ t.shp = true
  | 0, xs, t, m, _, h => by cases h
  | f + 1, xs, t, m, hl, h => by
    have hsz := takeF_size _ _ _ _ h
    have hle := takeF_le h
    have hsm := sm_of hsz.1 zz11
    unfold takeF at h
    split at h
    · cases h
    · rename_i h1
      rw [not_or, Bool.not_eq_false] at h1
      obtain ⟨k1, k2, k3⟩ := headF_inv h1.1
      have hseg : ((xs.drop (headF xs).2.1).take (headF xs).2.2.1).length = (headF xs).2.2.1 := by rw [List.length_take, List.length_drop]; omega
      have htk : xs.take ((headF xs).2.1 + (headF xs).2.2.1) = (headF xs).1 :: (lenB (headF xs).2.2.1 ++ (xs.drop (headF xs).2.1).take (headF xs).2.2.1) := by
        rw [List.take_add, k2]; rfl
      split at h
      · rename_i h128
        cases h
        refine ⟨?_, ?_⟩
        · rw [htk, enc, encL, sizL, Nat.add_zero, hseg, List.append_nil]
        · rw [Tr.shp, badT, shpL]
          simp only [List.length_nil, Bool.and_true, Bool.not_eq_true', Bool.or_eq_false_iff, Bool.and_eq_false_iff, decide_eq_false_iff_not]
          refine ⟨⟨k1, .inr zz11⟩, .inl ?_⟩
          intro hh
          have hh : (128 : Nat) ≤ (headF xs).1.toNat := hh
          omega
      · rename_i h128
        obtain ⟨l, h3, e⟩ := Option.map_eq_some_iff.1 h
        cases e
        obtain ⟨b1, b2⟩ := kids_inv (take_inv f) _ _ _ (by rw [hseg]; omega) h3
        have hel := encL_len hsm
        rw [← b1, hseg] at hel
        refine ⟨?_, ?_⟩
        · rw [htk, enc, ← b1, List.nil_append, List.length_nil, Nat.zero_add, ← hel]
        · rw [Tr.shp, badT, b2]
          simp only [List.length_nil, Bool.and_true, Bool.not_eq_true', Bool.or_eq_false_iff, Bool.and_eq_false_iff, decide_eq_false_iff_not]
          exact ⟨⟨k1, .inl (fun hh => h128 hh)⟩, .inr zz11⟩
end Go.Proofs.Ytgnablliekgbgaa
namespace Go.Proofs.Ytgnablliekgbgaa
open Go Go.PL Go.RowKit
def chainX : List PanicEntry := [{ v := (Value.iface 114 (.agg #[])), recovered := false }]
def GivesX {ι : Type} (w : World) (M1 : List Ent) (p : ι → Prop) (V : ι → Value) (N : ι → List Ent) (bad : Prop) (e : Ending) (w' : World) : Prop :=
  (∃ x, p x ∧ e = .returned (V x) ∧ Mem w (nums M1) (N x) [] w') ∨ (bad ∧ e = .panicked chainX ∧ Mem w (nums M1) [] [] w')
class OutX (Q : Exit → Act → World → Prop) (ds : List Deferred) (w0 : World) (Ln : List Nat) (bad : outParam Prop) : Prop where
  out : ∀ a w, a.defers = ds → bad → Mem w0 Ln [] [] w → Q (.panic chainX) a w
section
variable {P : Program} {n : Cx} {R : World → Prop} {L : Slots} {Q : Exit → Act → World → Prop} {w0 : World} {Ln : List Nat} {M : List Ent} {S : List Fact} {bad bad1 : Prop} {ops : Array Oper} {rest : List Oper}
instance outX_then {K : Act → World → Prop} {ds : List Deferred} [h : OutX Q ds w0 Ln bad] : OutX (Exit.then K Q) ds w0 Ln bad := ⟨fun a w e hb hm => h.out a w e hb hm⟩
instance outX_block {id : Nat} {ds : List Deferred} [h : OutX Q ds w0 Ln bad] : OutX (Exit.inBlock id Q) ds w0 Ln bad := ⟨fun a w e hb hm => h.out a w e hb hm⟩
instance outX_body {fn : Func} {ι : Type} {M1 : List Ent} {p : ι → Prop} {V : ι → Value} {N : ι → List Ent} : OutX (bodyPost P fn (GivesX w0 M1 p V N bad)) [] w0 (nums M1) bad := ⟨fun a w e hb hm => ⟨e, .inr ⟨hb, rfl, hm⟩⟩⟩
theorem t_callX {k : FuncId} {args : Array Operand} {at_ : Array TypeId} {vs : List Value} {ι : Type} {p : ι → Prop} {V : ι → Value} {N : ι → List Ent} (M1 X A : List Ent) (Z : ι → List Ent) (hA : M1 ++ X = A) [hM : SelC A M] (hZ : ∀ x, p x → (N x ++ X).Perm (Z x)) (hb : HasBody P k) (hv : evs L args.toList = some vs)
    (hc : ∀ w, Mem w0 Ln M S w → Mem w (nums M1) M1 [] w → Calls P k vs.toArray w (GivesX w M1 p V N bad1)) [hO : OutX Q n.ds w0 Ln bad] (hbad : bad1 → bad) :
    TOpP P Q n (Mem w0 Ln M S) L (.call { callee := .value (.func k), args := args, argTypes := at_ }) ι p V (fun x => Mem w0 Ln (Z x) S) := by
  have h : TOp P Q n (Mem w0 Ln M S) L (.call { callee := .value (.func k), args := args, argTypes := at_ }) { x : ι // p x } (fun x => V x.1) (fun x => Mem w0 Ln (Z x.1) S) := by
    intro d ty pos af g a w K hs hm0 hk
    subst hA
    have hm := hm0.selP hM.h
    have hargs : args.map a.eval = vs.toArray := by
      have e : (args.map a.eval).toList = vs := by rw [Array.toList_map]; exact evs_eval hs hv
      rw [← e]
    have hrun : (execOp a.eval ⟨d, .call { callee := .value (.func k), args := args, argTypes := at_ }, ty, pos, af, g⟩).run P w = .ok (.enter k vs.toArray) w := by
      have hf : ev L (.func k) = some (.func (.func k) #[] #[]) := rfl
      simp only [execOp, resolve, hs.eval hf, hargs]
      simp [Deferred.ofValue, invoke, run_callFunc hb]
    unfold Oper.wp
    rw [hrun]
    refine (hc w hm0 (Mem.startL w (fun e he => hm.own e (List.mem_append_left _ he)) (List.pairwise_append.1 hm.apart).1)).mono ?_
    rintro e w' (⟨x, hp, rfl, h⟩ | ⟨hb1, rfl, h⟩)
    · exact hk ⟨x, hp⟩ w' ((((hm.perm List.perm_append_comm).framedS h).perm List.perm_append_comm).perm (hZ x hp))
    · exact hO.out a w' hs.defers (hbad hb1) (((hm.perm List.perm_append_comm).framedS h).sub .nil .nil)
  exact h.rep fun x w h => ⟨x.1, x.2, rfl, h⟩
theorem wpl_panicX {x : Operand} {ty : TypeId} {pos : String} {af : Array Edge} (hx : ev L x = some (Value.iface 114 (.agg #[]))) [hO : OutX Q n.ds w0 Ln bad] (hb : bad) : WPL P ops Q n (Mem w0 Ln M S) L (⟨none, .panic x, ty, pos, af, none⟩ :: rest) := by
  intro a w hs hr
  unfold wpList
  simp only [Region.wanted, if_true]
  have hrun : (execOp a.eval ⟨none, .panic x, ty, pos, af, none⟩).run P w = .halt (.panic (Value.iface 114 (.agg #[]))) w := by
    simp only [execOp, hs.eval hx]
    simp [Instr.panic, Sem.run_bind, Result.andThen]
  unfold Oper.wp
  rw [hrun]
  exact .inl (hO.out a w hs.defers hb (hr.sub .nil .nil))
end
end Go.Proofs.Ytgnablliekgbgaa
namespace Go.Proofs.Ytgnablliekgbgaa
open Go Go.PL Go.RowKit
def Tr.kl : Tr → List Tr | .nd _ _ l => l
def lenP (ys : List UInt8) : Option (Nat × Nat) :=
  if ys.length < 1 then none
  else if (ys.getD 0 0).toNat < 128 then some ((ys.getD 0 0).toNat, 1)
  else if (ys.getD 0 0).toNat < 129 ∨ 131 < (ys.getD 0 0).toNat ∨ ys.length < 1 + ((ys.getD 0 0).toNat - 128) then none
  else if wideF (numOf ((ys.drop 1).take ((ys.getD 0 0).toNat - 128))) ≠ (ys.getD 0 0).toNat - 127 then none
  else some (numOf ((ys.drop 1).take ((ys.getD 0 0).toNat - 128)), 1 + ((ys.getD 0 0).toNat - 128))
theorem lenP_le {ys : List UInt8} {r : Nat × Nat} (h : lenP ys = some r) : 1 ≤ r.2 ∧ r.2 ≤ 4 ∧ r.2 ≤ ys.length ∧ r.1 < 16777216 := by
  unfold lenP at h
  by_cases h1 : ys.length < 1
  · rw [if_pos h1] at h; cases h
  · rw [if_neg h1] at h
    by_cases h2 : (ys.getD 0 0).toNat < 128
    · rw [if_pos h2] at h; cases h; exact ⟨Nat.le_refl _, by show 1 ≤ 4; omega, by show 1 ≤ _; omega, by show (ys.getD 0 0).toNat < _; omega⟩
    · rw [if_neg h2] at h
      by_cases h3 : (ys.getD 0 0).toNat < 129 ∨ 131 < (ys.getD 0 0).toNat ∨ ys.length < 1 + ((ys.getD 0 0).toNat - 128)
      · rw [if_pos h3] at h; cases h
      · rw [if_neg h3] at h
        split at h
        · cases h
        · have q := numOf_24 (xs := ys.drop 1) (i := (ys.getD 0 0).toNat - 128) zz45 zz11
          obtain rfl := Option.some.inj h
          exact ⟨by dsimp only; omega, by dsimp only; omega, by dsimp only; omega, by dsimp only; exact q⟩
theorem headF_lenP (xs : List UInt8) : headF xs = if xs.length < 1 ∨ xs.getD 0 0 = 0 then (0, 0, 0, false) else match lenP (xs.drop 1) with
    | none => (0, 0, 0, false)
    | some r => (xs.getD 0 0, 1 + r.2, r.1, true) := by
  have e1 : (xs.drop 1).getD 0 0 = xs.getD 1 0 := getD_dropU xs 1 0
  have e2 : (xs.drop 1).length = xs.length - 1 := List.length_drop
  have e3 : (xs.drop 1).drop 1 = xs.drop 2 := List.drop_drop
  unfold headF lenP
  rw [e1, e2, e3]
  by_cases h0 : xs.length < 1 ∨ xs.getD 0 0 = 0
  · rw [if_pos h0, if_pos (by rcases h0 with h | h; · exact .inl zz11
                              · exact .inr h)]
  · rw [if_neg h0]
    rw [not_or] at h0
    by_cases h1 : xs.length < 2
    · rw [if_pos (.inl h1), if_pos (show xs.length - 1 < 1 from zz11)]
    · rw [if_neg (by rintro (h | h); · exact h1 h
                     · exact h0.2 h), if_neg (show ¬ xs.length - 1 < 1 from zz11)]
      by_cases h2 : (xs.getD 1 0).toNat < 128
      · rw [if_pos h2, if_pos h2]; rfl
      · rw [if_neg h2, if_neg h2]
        by_cases h3 : (xs.getD 1 0).toNat - 128 < 1 ∨ 3 < (xs.getD 1 0).toNat - 128 ∨ xs.length < 2 + ((xs.getD 1 0).toNat - 128)
        · rw [if_pos h3, if_pos (show ((xs.getD 1 0).toNat < 129 ∨ 131 < (xs.getD 1 0).toNat ∨ xs.length - 1 < 1 + ((xs.getD 1 0).toNat - 128)) from zz11)]
        · rw [if_neg h3, if_neg (show ¬ ((xs.getD 1 0).toNat < 129 ∨ 131 < (xs.getD 1 0).toNat ∨ xs.length - 1 < 1 + ((xs.getD 1 0).toNat - 128)) from zz11), show 1 + ((xs.getD 1 0).toNat - 128) = (xs.getD 1 0).toNat - 127 from zz11]
          split
          · rfl
          · show (_, _, _, true) = (_, _, _, true)
            rw [show 2 + ((xs.getD 1 0).toNat - 128) = 1 + ((xs.getD 1 0).toNat - 127) from zz11]
def takeP : Nat → List UInt8 → Option (Tr × Nat)
  | 0, _ => none
  | f + 1, xs => if xs.length < 1 then none else match lenP (xs.drop 1) with
    | none => none
    | some r => if xs.length < 1 + r.2 + r.1 then none
      else if (xs.getD 0 0).toNat < 128 then some (.nd (xs.getD 0 0) ((xs.drop (1 + r.2)).take r.1) [], 1 + r.2 + r.1)
      else (kidsW (takeP f) r.1 ((xs.drop (1 + r.2)).take r.1)).map fun l => (.nd (xs.getD 0 0) [] l, 1 + r.2 + r.1)
theorem kidsW_imp {tk tk2 : List UInt8 → Option (Tr × Nat)} (h : ∀ xs t m, tk xs = some (t, m) → tk2 xs = some (t, m)) : ∀ (k : Nat) (ys : List UInt8) (l : List Tr), kidsW tk k ys = some l → kidsW tk2 k ys = some l
  | 0, ys, l, e => by unfold kidsW at e ⊢; exact e
  | k + 1, ys, l, e => by
    unfold kidsW at e ⊢
    split at e
    · rw [if_pos ‹_›]; exact e
    · rw [if_neg ‹_›]
      obtain ⟨⟨t, m⟩, h1, h2⟩ := Option.bind_eq_some_iff.1 e
      obtain ⟨l2, h3, rfl⟩ := Option.map_eq_some_iff.1 h2
      rw [h _ _ _ h1]
      show (kidsW tk2 k _).map _ = _
      rw [kidsW_imp h k _ _ h3]; rfl
theorem kidsW_impS {tk tk2 : List UInt8 → Option (Tr × Nat)} (h : ∀ xs t m, tk xs = some (t, m) → t.shp = true → tk2 xs = some (t, m)) : ∀ (k : Nat) (ys : List UInt8) (l : List Tr), kidsW tk k ys = some l → shpL l = true → kidsW tk2 k ys = some l
  | 0, ys, l, e, _ => by unfold kidsW at e ⊢; exact e
  | k + 1, ys, l, e, hs => by
    unfold kidsW at e ⊢
    split at e
    · rw [if_pos ‹_›]; exact e
    · rw [if_neg ‹_›]
      obtain ⟨⟨t, m⟩, h1, h2⟩ := Option.bind_eq_some_iff.1 e
      obtain ⟨l2, h3, rfl⟩ := Option.map_eq_some_iff.1 h2
      rw [shpL, Bool.and_eq_true] at hs
      rw [h _ _ _ h1 hs.1]
      show (kidsW tk2 k _).map _ = _
      rw [kidsW_impS h k _ _ h3 hs.2]; rfl
theorem takeP_of : ∀ (f : Nat) (xs : List UInt8) (t : Tr) (m : Nat), takeF f xs = some (t, m) → takeP f xs = some (t, m)
  | 0, _, _, _, h => by cases h
  | f + 1, xs, t, m, h => by
    unfold takeF at h
    rw [headF_lenP xs] at h
    unfold takeP
    by_cases h0 : xs.length < 1 ∨ xs.getD 0 0 = 0
    · rw [if_pos h0] at h; simp at h
    · rw [if_neg h0] at h
      rw [not_or] at h0
      rw [if_neg h0.1]
      cases hl : lenP (xs.drop 1) with
      | none => rw [hl] at h; simp at h
      | some r =>
        rw [hl] at h
        dsimp only at h ⊢
        by_cases h2 : xs.length < 1 + r.2 + r.1
        · rw [if_pos (.inr h2)] at h; cases h
        · rw [if_neg (by rintro (h | h); · cases h
                         · exact h2 h)] at h
          rw [if_neg h2]
          by_cases h3 : (xs.getD 0 0).toNat < 128
          · rw [if_pos h3] at h ⊢; exact h
          · rw [if_neg h3] at h ⊢
            obtain ⟨l, h4, e⟩ := Option.map_eq_some_iff.1 h
            rw [kidsW_imp (takeP_of f) _ _ _ h4]; exact congrArg some e
theorem takeF_of : ∀ (f : Nat) (xs : List UInt8) (t : Tr) (m : Nat), takeP f xs = some (t, m) → t.shp = true → takeF f xs = some (t, m)
  | 0, _, _, _, h, _ => by cases h
  | f + 1, xs, t, m, h, hs => by
    unfold takeP at h
    unfold takeF
    by_cases h1 : xs.length < 1
    · rw [if_pos h1] at h; cases h
    · rw [if_neg h1] at h
      cases hl : lenP (xs.drop 1) with
      | none => rw [hl] at h; cases h
      | some r =>
        rw [hl] at h
        dsimp only at h
        have ht : t = .nd (xs.getD 0 0) t.bs t.kl := by
          by_cases h2 : xs.length < 1 + r.2 + r.1
          · rw [if_pos h2] at h; cases h
          · rw [if_neg h2] at h
            by_cases h3 : (xs.getD 0 0).toNat < 128
            · rw [if_pos h3] at h; cases h; rfl
            · rw [if_neg h3] at h
              obtain ⟨l, h4, e⟩ := Option.map_eq_some_iff.1 h
              cases e; rfl
        have hg : xs.getD 0 0 ≠ 0 := by
          intro e
          rw [ht, Tr.shp, badT, e] at hs
          simp at hs
        have hq : headF xs = (xs.getD 0 0, 1 + r.2, r.1, true) := by
          rw [headF_lenP xs, if_neg (by rintro (h | h); · exact h1 h
                                        · exact hg h), hl]
        rw [hq]
        dsimp only
        by_cases h2 : xs.length < 1 + r.2 + r.1
        · rw [if_pos h2] at h; cases h
        · rw [if_neg h2] at h
          rw [if_neg (by rintro (h | h); · cases h
                         · exact h2 h)]
          by_cases h3 : (xs.getD 0 0).toNat < 128
          · rw [if_pos h3] at h ⊢; exact h
          · rw [if_neg h3] at h ⊢
            obtain ⟨l, h4, e⟩ := Option.map_eq_some_iff.1 h
            cases e
            rw [Tr.shp, Bool.and_eq_true] at hs
            rw [kidsW_impS (takeF_of f) _ _ _ h4 hs.2]; rfl
theorem takeP_le {f : Nat} {xs : List UInt8} {t : Tr} {m : Nat} (h : takeP f xs = some (t, m)) : 2 ≤ m ∧ m ≤ xs.length := by
  cases f with
  | zero => cases h
  | succ f =>
    unfold takeP at h
    split at h
    · cases h
    · split at h
      · cases h
      · rename_i r hr
        have q := lenP_le hr
        rw [List.length_drop] at q
        split at h
        · cases h
        · split at h
          · cases h; omega
          · obtain ⟨l, _, e⟩ := Option.map_eq_some_iff.1 h
            cases e; omega
theorem kidsP_size {f : Nat} (ih : ∀ (xs : List UInt8) (t : Tr) (m : Nat), takeP f xs = some (t, m) → t.byt + 2 * t.cnt ≤ m ∧ t.dep ≤ f) : ∀ (k : Nat) (ys : List UInt8) (l : List Tr), kidsW (takeP f) k ys = some l → bytL l + 2 * cntL l ≤ ys.length ∧ depL l ≤ f
  | 0, ys, l, h => by
    unfold kidsW at h
    split at h
    · cases h; exact ⟨Nat.zero_le _, Nat.zero_le _⟩
    · cases h
  | k + 1, ys, l, h => by
    unfold kidsW at h
    split at h
    · cases h; exact ⟨Nat.zero_le _, Nat.zero_le _⟩
    · obtain ⟨⟨t, m⟩, h1, h2⟩ := Option.bind_eq_some_iff.1 h
      obtain ⟨l2, h3, rfl⟩ := Option.map_eq_some_iff.1 h2
      have a := ih _ _ _ h1
      have b := kidsP_size ih k _ _ h3
      have c := takeP_le h1
      rw [List.length_drop] at b
      dsimp only at a b c ⊢
      rw [bytL, cntL, depL]
      omega
theorem takeP_size : ∀ (f : Nat) (xs : List UInt8) (t : Tr) (m : Nat), takeP f xs = some (t, m) → t.byt + 2 * t.cnt ≤ m ∧ t.dep ≤ f
  | 0, xs, t, m, h => by cases h
  | f + 1, xs, t, m, h => by
    unfold takeP at h
    split at h
    · cases h
    · split at h
      · cases h
      · rename_i r hr
        have q := lenP_le hr
        rw [List.length_drop] at q
        have e : ((xs.drop (1 + r.2)).take r.1).length ≤ r.1 := by rw [List.length_take]; omega
        split at h
        · cases h
        · split at h
          · cases h
            refine ⟨?_, ?_⟩
            · rw [Tr.byt, Tr.cnt, bytL, cntL]; omega
            · rw [Tr.dep, depL]; omega
          · obtain ⟨l, h3, e2⟩ := Option.map_eq_some_iff.1 h
            cases e2
            have b := kidsP_size (takeP_size f) _ _ _ h3
            refine ⟨?_, ?_⟩
            · rw [Tr.byt, Tr.cnt, List.length_nil]; omega
            · rw [Tr.dep]; omega
def decP (xs : List UInt8) : Tr × Int :=
  if 65536 < xs.length then (Tr.z, 4) else match takeP 12 xs with
    | some (t, m) => if m = xs.length ∧ checkF t = 0 then (t, 0) else (Tr.z, 12)
    | none => (Tr.z, 12)
theorem decP_eq (xs : List UInt8) : decP xs = decF xs := by
  unfold decP decF
  split
  · rfl
  · cases hF : takeF 12 xs with
    | some r => rw [takeP_of 12 xs r.1 r.2 hF]
    | none =>
      dsimp only
      cases hP : takeP 12 xs with
      | none => rfl
      | some r =>
        dsimp only
        rw [if_neg]
        rintro ⟨_, h2⟩
        have hs : r.1.shp = true := by
          cases h : r.1.shp with
          | true => rfl
          | false =>
            unfold checkF at h2
            split at h2
            · cases h2
            · exact absurd h2 (by first | decide | (rw [if_pos h]; decide))
        rw [takeF_of 12 xs r.1 r.2 hP hs] at hF
        cases hF
def KG (tk : List UInt8 → Option (Tr × Nat)) (n : Nat) (seg : List UInt8) (ns : List HT) (c : Nat) : Prop := ∃ k, seg.length - c ≤ k ∧ kidsW tk n seg = (kidsW tk k (seg.drop c)).map (trs ns ++ ·)
section
variable {tk : List UInt8 → Option (Tr × Nat)}
theorem KG_start {seg : List UInt8} : KG tk seg.length seg [] 0 := ⟨seg.length, zz11, by
  rw [List.drop_zero]
  cases kidsW tk seg.length seg <;> rfl⟩
theorem KG_cons {n : Nat} {seg : List UInt8} {ns : List HT} {c : Nat} (h : KG tk n seg ns c) (hc : c < seg.length) : ∃ k, seg.length - c ≤ k + 1 ∧ kidsW tk n seg = ((tk (seg.drop c)).bind fun r => (kidsW tk k ((seg.drop c).drop r.2)).map (r.1 :: ·)).map (trs ns ++ ·) := by
  obtain ⟨k, h1, h2⟩ := h
  obtain ⟨j, rfl⟩ : ∃ j, k = j + 1 := ⟨k - 1, zz11⟩
  refine ⟨j, h1, ?_⟩
  rw [h2, kidsW, if_neg]
  intro he
  rw [List.isEmpty_iff] at he
  have := congrArg List.length he
  rw [List.length_drop] at this
  simp at this; omega
theorem KG_none {n : Nat} {seg : List UInt8} {ns : List HT} {c : Nat} (h : KG tk n seg ns c) (hc : c < seg.length) (ht : tk (seg.drop c) = none) : kidsW tk n seg = none := by
  obtain ⟨k, _, h2⟩ := KG_cons h hc
  rw [h2, ht]; rfl
theorem KG_some {n : Nat} {seg : List UInt8} {ns : List HT} {c m : Nat} {y : HT} (h : KG tk n seg ns c) (hc : c < seg.length) (ht : tk (seg.drop c) = some (y.tr, m)) (hm : 1 ≤ m) : KG tk n seg (ns ++ [y]) (c + m) := by
  obtain ⟨k, h1, h2⟩ := KG_cons h hc
  refine ⟨k, zz11, ?_⟩
  rw [h2, ht, trs_append]
  show ((kidsW tk k ((seg.drop c).drop m)).map (y.tr :: ·)).map _ = _
  rw [List.drop_drop]
  cases kidsW tk k (seg.drop (c + m)) with
  | none => rfl
  | some l =>
    show some (trs ns ++ (y.tr :: l)) = some ((trs ns ++ trs [y]) ++ l)
    rw [List.append_assoc]; rfl
theorem KG_end {n : Nat} {seg : List UInt8} {ns : List HT} {c : Nat} (h : KG tk n seg ns c) (hc : seg.length ≤ c) : kidsW tk n seg = some (trs ns) := by
  obtain ⟨k, _, h2⟩ := h
  rw [h2, List.drop_of_length_le hc, kidsW_nil]
  show some (trs ns ++ []) = some _
  rw [List.append_nil]
end
end Go.Proofs.Ytgnablliekgbgaa
