/- What the statement reaches, in order. -/
import Derived.Test.YtlapmdiabhlbmaaDoorMNPLN
import Derived.Test.YtlapmdiabhlbmaaDoorMNTI
import Derived.Test.YtlapmdiabhlbmaaDoorMNPLI
import Derived.Test.YtlapmdiabhlbmaaDoorMNPLZ
import Derived.KernelRfl
import Derived.Shelf.Strings.Trim
import Derived.Shelf.Small.Strs
import Derived.Shelf.LaysM
import Derived.Shelf.Bytes.WriteByte
import Derived.Shelf.Bytes.Bytes
import Derived.Test.YtlapmdiabhlbmaaDoorProg
import Derived.Test.YtlapmdiabhlbmaaDoorMNPLL
import Derived.Lib.TrimByte
import Derived.Lib.Bytealg
import Derived.Stop.LaidErr
import Derived.WalkKit
import Derived.ProofKit
import Derived.OpenShut
import Derived.ChangeOld
import Derived.Below
import Derived.Carry
import Derived.LaidMore
import Derived.Deep.DeepHandedRow
import Derived.Deep.DeepWitnessRowRef
import Derived.Lib.LaidTab
import Derived.Stop.Joined
import Derived.Test.YtlapmdiabhlbmaaDoorMN1
set_option linter.unusedSimpArgs false
set_option linter.unusedVariables false
set_option maxRecDepth 100000
namespace Go.Proofs.YtlapmdiabhlbmaaDoor
open Go Go.PL Go.RowKit
theorem of8_hex {a b : UInt8} (ha : a ∈ hexD) (hb : b ∈ hexD) : of8 (((hexD.idxOf a * 2 ^ 4 ||| hexD.idxOf b : Nat)) : Int) = hexV a b := by
  have h1 := (mem_hexD ha).1
  have h2 := (mem_hexD hb).1
  have e := Nat.two_pow_add_eq_or_of_lt (b := hexD.idxOf b) (i := 4) zz4 (hexD.idxOf a)
  rw [Nat.mul_comm, ← e]
  exact UInt8.toNat_inj.1 (by rw [hexV_nat ha hb, of8, UInt8.toNat_ofNat']; omega)
theorem hx_no {xs : List UInt8} {i : Nat} (hi : i < xs.length) (h : xs.getD i 0 ∉ hexD) : ¬ hxOk xs := fun k => h (k.2 _ (mem_getD hi))
theorem hx_odd {xs : List UInt8} (h : xs.length % 2 = 1) : ¬ hxOk xs := fun k => by have := k.1; omega
theorem hx_yes {xs : List UInt8} {k : Nat} (hk : xs.length = 2 * k) (h : ∀ j, j < 2 * k → xs.getD j 0 ∈ hexD) : hxOk xs := ⟨zz4, fun c hc => by
  obtain ⟨i, hi, rfl⟩ := List.mem_iff_getElem.1 hc
  have q := h i zz4
  rw [List.getD_eq_getElem?_getD, List.getElem?_eq_getElem hi] at q
  exact q⟩
theorem fh_no {xs : List UInt8} (h : ¬ hxOk xs) : fhV xs = [] ∧ fhE xs = 12 := ⟨if_neg h, if_neg h⟩
theorem fh_yes {xs : List UInt8} (h : hxOk xs) : fhV xs = hxO xs (xs.length / 2) ∧ fhE xs = 0 := ⟨if_pos h, if_pos h⟩
theorem memD_2 {xs : List UInt8} {k : Nat} (h : ∀ j, j < 2 * k → xs.getD j 0 ∈ hexD) (h1 : xs.getD (2 * k) 0 ∈ hexD) (h2 : xs.getD (2 * k + 1) 0 ∈ hexD) : ∀ j, j < 2 * (k + 1) → xs.getD j 0 ∈ hexD := fun j hj => by
  rcases (show j < 2 * k ∨ j = 2 * k ∨ j = 2 * k + 1 from zz4) with h | rfl | rfl
  · rename_i q; exact q j h
  · exact h1
  · exact h2
theorem fromHex (xs : List UInt8) (w : World) (hxl : xs.length ≤ 100000)  :
    Calls Tryd.prog 20 [str xs].toArray w (GivesP w (fun v : Value => SV v (fhV xs).length) (fun v => .tuple #[v, .int .i64 (fhE xs)]) (fun v => [.row v (fhV xs).length 5 1 (v8s (fhV xs))]) (fun _ => [])) := by
  have lmx : xs.length ≤ maxLen := by unfold maxLen; omega
  simp only [maxLen] at lmx
  refine enter (m := 43) (R := Mem w [] [] []) Tryd.func20 rfl rfl (Nat.le_of_ble_eq_true rfl) (Mem.start w) ?_
  refine wpc_seq <| wpc_region <| wpl_q (q_pure rfl) rfl <| wpl_q (q_pure rfl) rfl <| wpl_nil <| ex_then <| wpc_seq <| wpc_region <| wpl_q (q_pure rfl) rfl <| wpl_nil <| ex_then <| wpc_seq ?_
  refine wpc_seq <| wpc_region <| wpl_q (q_pure rfl) rfl <| wpl_nil <| ex_then <| wpc_block ?_
  refine wpc_loopc (ι := { x : Nat × Value // (2 * x.1 ≤ xs.length) ∧ (SV x.2 x.1) ∧ (∀ j, j < 2 * x.1 → xs.getD j 0 ∈ hexD) }) [(0, _)] (fun x Lc => (5, .int .i64 ((2 * x.1.1 : Nat) : Int)) :: (4, x.1.2) :: Lc) (fun x => Mem w [] [.row x.1.2 x.1.1 5 1 (v8s (hxO xs x.1.1))] []) (fun x => xs.length - 2 * x.1.1) ⟨(0, .slice none 0 0), ⟨Nat.zero_le _, SV.nil, fun j hj => absurd hj (Nat.not_lt_zero _)⟩⟩ zz8 ?_ ?_
  ·
   exact fun w h => h.nilRow 5 1
  ·
   rintro ⟨⟨k, v⟩, ⟨hi0, hi1, hi2⟩⟩; try dsimp only
   have hi0 : 2 * k ≤ xs.length := hi0; have hi1 : SV v k := hi1; have hi2 : ∀ j, j < 2 * k → xs.getD j 0 ∈ hexD := hi2
   refine wpc_seq <| wpc_seq <| wpc_region <| wpl_q (q_pure rfl) rfl ?_
   refine wpl_q (q_addN (b := 1) rfl rfl zz1) rfl ?_
   refine wpl_q (q_pure rfl) rfl <| wpl_q (q_lenS Tryd.underlying9 rfl) rfl <| wpl_q (q_pure rfl) rfl <| wpl_nil <| ex_then ?_
   refine wpc_cond rfl (fun hc12 => ?_) (fun hc12 => ?_)
   ·
    simp only [decide_eq_true_eq] at hc12
    have hkl : 2 * k + 1 < xs.length := by omega
    refine wpc_skip <| ex_then <| wpc_seq <| wpc_block <| wpc_seq ?_
    refine wpc_draw 11 zz3 (fun _ h => h.drew) ?_
    refine wpd_p 0 rfl zz3 trivial (q_pure rfl) rfl sk0 ?_
    refine wpd_p 1 rfl zz3 trivial (q_pure rfl) rfl sk0 ?_
    refine wpd_p 2 rfl zz3 trivial (q_strIdx Tryd.underlying9 rfl rfl zz1) rfl sk0 ?_
    refine wpd_p 4 rfl zz3 trivial (q_pure rfl) rfl sk0 ?_
    refine wpd_p 5 rfl zz3 trivial (q_pure rfl) rfl sk0 ?_
    refine wpd_p 6 rfl zz3 trivial (q_addN (b := 1) rfl rfl zz1) rfl sk0 ?_
    refine wpd_p 7 rfl zz3 trivial (q_strIdx Tryd.underlying9 rfl rfl zz1) rfl sk0 ?_
    refine wpd_t 3 rfl zz3 trivial (t_pur Tryd.hb34 rfl fun w h => indexB hexD (xs.getD (2 * k) 0) w) rfl (fun _ => sk0) (fun b18 => ?_)
    refine wpd_t 8 rfl zz3 trivial (t_pur Tryd.hb34 rfl fun w h => indexB hexD (xs.getD (2 * k + 1) 0) w) rfl (fun _ => sk0) (fun b23 => ?_)
    refine wpd_p 9 rfl zz3 trivial (q_pure rfl) rfl sk0 ?_
    refine wpd_p 10 rfl zz3 trivial (q_pure rfl) rfl sk0 ?_
    refine wpd_done zz3 ?_
    refine ex_then <| wpc_seq <| wpc_seq <| wpc_region <| wpl_q (q_pure rfl) rfl <| wpl_q (q_pure rfl) rfl <| wpl_q (q_pure rfl) rfl ?_
    refine wpl_bool2 26 25 rfl rfl (fun hb26 => ?_) (fun hb26 => ?_)
    ·
     have hN : ¬ hxOk xs := hx_no (i := 2 * k) zz4 (plB_neg.1 (by first | (simp only [decide_eq_true_eq] at hb26; exact hb26) | exact hb26))
     refine wpl_off rfl rfl rfl rfl <| wpl_off rfl rfl rfl rfl <| wpl_q (q_pure rfl) rfl <| wpl_nil <| ex_then ?_
     refine wpc_cond_t rfl ?_
     refine wpc_seq <| wpc_region <| wpl_q (q_pure rfl) rfl <| wpl_q (q_pure rfl) rfl <| wpl_nil <| ex_then <| wpc_ret ?_
     refine ex_then_ret ?_
     refine ex_block_ret ?_
     refine ex_then_ret ?_
     refine ex_then_ret ?_
     refine ex_block_ret ?_
     refine ex_then_ret ?_
     refine ret2 (.inl rfl) rfl rfl rfl ?_
     exact fun w1 h => ⟨(.slice none 0 0), by rw [(fh_no hN).1]; exact SV.nil, by rw [(fh_no hN).2], h.below, zz19⟩
    ·
     have hp1 : xs.getD (2 * k) 0 ∈ hexD := Decidable.byContradiction fun e => absurd (plB_neg.2 e) (by first | (simp only [decide_eq_false_iff_not] at hb26; exact hb26) | exact hb26)
     refine wpl_on rfl rfl <| wpl_q (q_pure rfl) rfl <| wpl_on rfl rfl <| wpl_q (q_pure rfl) rfl <| wpl_q (q_pure rfl) rfl <| wpl_nil <| ex_then ?_
     refine wpc_cond rfl (fun hc29 => ?_) (fun hc29 => ?_)
     ·
      have hN : ¬ hxOk xs := by first | exact hx_no (i := 2 * k + 1) zz4 (plB_neg.1 (by first | (simp only [decide_eq_true_eq] at hc29; exact hc29) | exact hc29))
      refine wpc_seq <| wpc_region <| wpl_q (q_pure rfl) rfl <| wpl_q (q_pure rfl) rfl <| wpl_nil <| ex_then <| wpc_ret ?_
      refine ex_then_ret ?_
      refine ex_block_ret ?_
      refine ex_then_ret ?_
      refine ex_then_ret ?_
      refine ex_block_ret ?_
      refine ex_then_ret ?_
      refine ret2 (.inl rfl) rfl rfl rfl ?_
      exact fun w1 h => ⟨(.slice none 0 0), by rw [(fh_no hN).1]; exact SV.nil, by rw [(fh_no hN).2], h.below, zz19⟩
     ·
      have hp2 : xs.getD (2 * k + 1) 0 ∈ hexD := Decidable.byContradiction fun e => absurd (plB_neg.2 e) (by first | (simp only [decide_eq_false_iff_not] at hc29; exact hc29) | exact hc29)
      have hp1l := (mem_hexD hp1).1
      have hp2l := (mem_hexD hp2).1
      rw [plB_in hp1, plB_in hp2]
      refine wpc_skip <| ex_then <| wpc_region <| wpl_q (q_pure rfl) rfl <| wpl_q (q_pure rfl) rfl ?_
      refine wpl_q (q_shlN (b := 4) rfl rfl zz17 zz1) rfl ?_
      refine wpl_q (q_pure rfl) rfl ?_
      refine wpl_q (q_orN rfl rfl zz1 zz1) rfl ?_
      refine wpl_q (q8_conv Tryd.underlying3 Tryd.underlying5 rfl) rfl ?_
      refine wpl_re 35 rfl (congrArg (fun c : UInt8 => Value.int .u8 (c.toNat : Int)) (of8_hex hp1 hp2)) ?_
      refine wpl_tp (t_bsV (v8s [hexV (xs.getD (2 * k) 0) (xs.getD (2 * k + 1) 0)]) Tryd.underlying22 Tryd.ti5 rfl rfl zz15 zz15 rfl (v8s_one _)) rfl (fun b36 p36 => ?_)
      refine wpl_tp (t_apW Tryd.underlying22 Tryd.ti5 rfl zz15 rfl rfl (fun w h => zz7) (v8s_one _) zz1 zz1 (v8s (hxO xs (k + 1))) (by rw [hxO, v8s_append])) rfl (fun b37 p37 => ?_)
      refine wpl_q (q_pure rfl) rfl <| wpl_nil <| ex_block <| ex_then <| wpc_region <| wpl_q (q_pure rfl) rfl ?_
      refine wpl_q (q_addN (b := 2) rfl rfl zz1) rfl ?_
      refine wpl_q (q_pure rfl) rfl <| wpl_nil ?_
      refine ex_again ⟨(k + 1, b37), ⟨by show 2 * (k + 1) ≤ _; omega, p37, memD_2 hi2 hp1 hp2⟩⟩ ?_ ?_ ?_
      ·
       exact zz8
      ·
       exact fun w h => by
         dsimp only
         exact h.sel
      ·
       (show xs.length - 2 * (k + 1) < xs.length - 2 * k); omega
   ·
    simp only [decide_eq_false_iff_not] at hc12
    have hkl : xs.length = 2 * k ∨ xs.length = 2 * k + 1 := by omega
    refine wpc_exit ?_
    refine ex_then_exit ?_
    refine ex_then_exit ?_
    refine ex_block_hit ?_
    refine ex_then <| wpc_seq <| wpc_seq <| wpc_region <| wpl_q (q_pure rfl) rfl <| wpl_q (q_lenS Tryd.underlying9 rfl) rfl ?_
    refine wpl_q (q_remN (b := 2) rfl rfl zz17) rfl ?_
    refine wpl_q (q_pure rfl) rfl <| wpl_nil <| ex_then ?_
    refine wpc_cond rfl (fun hc41 => ?_) (fun hc41 => ?_)
    ·
     have hN : ¬ hxOk xs := hx_odd (by have q := hc41; simp only [bne_iff_ne, ne_eq] at q; omega)
     refine wpc_seq <| wpc_region <| wpl_q (q_pure rfl) rfl <| wpl_q (q_pure rfl) rfl <| wpl_nil <| ex_then <| wpc_ret ?_
     refine ex_then_ret ?_
     refine ret2 (.inl rfl) rfl rfl rfl ?_
     exact fun w1 h => ⟨(.slice none 0 0), by rw [(fh_no hN).1]; exact SV.nil, by rw [(fh_no hN).2], h.below, zz19⟩
    ·
     have hev : xs.length = 2 * k := by have q := hc41; simp only [bne_eq_false_iff_eq] at q; omega
     refine wpc_skip <| ex_then <| wpc_seq <| wpc_region <| wpl_q (q_pure rfl) rfl <| wpl_q (q_pure rfl) rfl <| wpl_q (q_pure rfl) rfl <| wpl_nil <| ex_then <| wpc_ret ?_
     refine ret2 (.inl rfl) rfl rfl rfl ?_
     obtain ⟨e1, e2⟩ := fh_yes (hx_yes hev hi2)
     exact fun w1 h => ⟨v, by rw [e1, hxO_len, show xs.length / 2 = k from zz4]; exact hi1, by rw [e2], h.below, by rw [e1, hxO_len, show xs.length / 2 = k from zz4]; exact h.made SubC.h .nil⟩
end Go.Proofs.YtlapmdiabhlbmaaDoor
namespace Go.Proofs.YtlapmdiabhlbmaaDoor
open Go Go.PL Go.RowKit
theorem xv_or {a k : Nat} (hk : k < 64) : (a * 2 ^ 6 &&& 16777215) ||| k = (a * 64) % 16777216 + k := by
  have e1 : a * 2 ^ 6 &&& 16777215 = (a * 2 ^ 6) % 2 ^ 24 := Nat.and_two_pow_sub_one_eq_mod _ 24
  have e2 := Nat.two_pow_add_eq_or_of_lt (b := k) (i := 6) zz4 (a % 262144)
  rw [e1, show (a * 2 ^ 6) % 2 ^ 24 = 2 ^ 6 * (a % 262144) from zz4, ← e2]
theorem outB_le (p : List UInt8) : ∀ i, (outB p i).length ≤ i
  | 0 => Nat.le_refl _
  | i + 1 => by
    have := outB_le p i
    unfold outB
    split
    · rw [List.length_append]; show _ + 1 ≤ _; omega
    · omega
theorem plain_le (s : List UInt8) : (plainS s).length ≤ s.length := by
  unfold plainS Go.Lib.trimRightB
  rw [List.length_reverse]
  have := (List.dropWhile_sublist (· == (61 : UInt8)) (l := s.reverse)).length_le
  rwa [List.length_reverse] at this
theorem of8_out {n : Nat} : of8 ((n : Nat) : Int) = UInt8.ofNat n := UInt8.toNat_inj.1 (by rw [of8, UInt8.toNat_ofNat', UInt8.toNat_ofNat']; omega)
theorem fb_no4 {s : List UInt8} (h : s.length % 4 ≠ 0) : ¬ fbOk s := fun k => h k.1
theorem fb_noc {s : List UInt8} {i : Nat} (hi : i < (plainS s).length) (h : (plainS s).getD i 0 ∉ b64A) : ¬ fbOk s := fun k => h (k.2.1 _ (mem_getD hi))
theorem fb_nob {s : List UInt8} (h : base64F (outB (plainS s) (plainS s).length) ≠ s) : ¬ fbOk s := fun k => h k.2.2
theorem fb_no {s : List UInt8} (h : ¬ fbOk s) : fbV s = [] ∧ fbE s = 12 := ⟨if_neg h, if_neg h⟩
theorem fb_yes {s : List UInt8} (h : fbOk s) : fbV s = outB (plainS s) (plainS s).length ∧ fbE s = 0 := ⟨if_pos h, if_pos h⟩
theorem fb_mk {s : List UInt8} (h0 : s.length % 4 = 0) (h1 : ∀ j, j < (plainS s).length → (plainS s).getD j 0 ∈ b64A) (h2 : base64F (outB (plainS s) (plainS s).length) = s) : fbOk s := ⟨h0, fun c hc => by
  obtain ⟨i, hi, rfl⟩ := List.mem_iff_getElem.1 hc
  have q := h1 i hi
  rw [List.getD_eq_getElem?_getD, List.getElem?_eq_getElem hi] at q
  exact q, h2⟩
theorem outB_S {p : List UInt8} {i : Nat} (h : 0 < i % 4) : outB p (i + 1) = outB p i ++ [UInt8.ofNat (xv p (i + 1) / 2 ^ (6 * (i % 4 + 1) % 8))] := by rw [outB, if_pos h]
theorem outB_0 {p : List UInt8} {i : Nat} (h : ¬ 0 < i % 4) : outB p (i + 1) = outB p i := by rw [outB, if_neg h]
theorem fromBase64 (xs : List UInt8) (w : World) (hxl : xs.length ≤ 100000)  :
    Calls Tryd.prog 22 [str xs].toArray w (GivesP w (fun v : Value => SV v (fbV xs).length) (fun v => .tuple #[v, .int .i64 (fbE xs)]) (fun v => [.row v (fbV xs).length 5 1 (v8s (fbV xs))]) (fun _ => [])) := by
  have lmx : xs.length ≤ maxLen := by unfold maxLen; omega
  simp only [maxLen] at lmx
  refine enter (m := 53) (R := Mem w [] [] []) Tryd.func22 rfl rfl (Nat.le_of_ble_eq_true rfl) (Mem.start w) ?_
  refine wpc_seq <| wpc_region <| wpl_q (q_pure rfl) rfl <| wpl_q (q_pure rfl) rfl <| wpl_nil <| ex_then <| wpc_seq <| wpc_seq <| wpc_region <| wpl_q (q_pure rfl) rfl <| wpl_q (q_lenS Tryd.underlying9 rfl) rfl ?_
  refine wpl_q (q_remN (b := 4) rfl rfl zz17) rfl ?_
  refine wpl_q (q_pure rfl) rfl <| wpl_nil <| ex_then ?_
  refine wpc_cond rfl (fun hc14 => ?_) (fun hc14 => ?_)
  ·
   have hN : ¬ fbOk xs := fb_no4 (by have q := hc14; simp only [bne_iff_ne, ne_eq] at q; omega)
   refine wpc_seq <| wpc_region <| wpl_q (q_pure rfl) rfl <| wpl_q (q_pure rfl) rfl <| wpl_nil <| ex_then <| wpc_ret ?_
   refine ex_then_ret ?_
   refine ret2 (.inl rfl) rfl rfl rfl ?_
   exact fun w1 h => ⟨(.slice none 0 0), by rw [(fb_no hN).1]; exact SV.nil, by rw [(fb_no hN).2], h.below, zz20⟩
  ·
   have h40 : xs.length % 4 = 0 := by have q := hc14; simp only [bne_eq_false_iff_eq] at q; omega
   refine wpc_skip <| ex_then <| wpc_seq <| wpc_region ?_
   refine wpl_t (t_alloc Tryd.ti71 [.slice none 0 0, .int .i64 0, .int .i8 0] rfl) rfl (fun b4 => ?_)
   refine wpl_nil <| ex_then <| wpc_seq <| wpc_region <| wpl_q (q_pure rfl) rfl ?_
   refine wpl_t (t_pur Tryd.hb36 rfl fun w h => trimR xs w (by unfold maxLen; omega)) rfl (fun b16 => ?_)
   have hpl := plain_le xs
   refine wpl_q (q_pure rfl) rfl <| wpl_nil <| ex_then <| wpc_seq <| wpc_region <| wpl_q (q_pure rfl) rfl <| wpl_nil <| ex_then <| wpc_seq <| wpc_seq <| wpc_region <| wpl_q (q_pure rfl) rfl ?_
   refine wpl_q (q_lenS Tryd.underlying9 rfl) rfl <| wpl_q (q_pure rfl) rfl <| wpl_nil <| ex_then <| wpc_block ?_
   refine wpc_loopc (ι := { x : Nat × Value × Int // (x.1 ≤ (plainS xs).length) ∧ (SV x.2.1 (outB (plainS xs) x.1).length) ∧ (∀ j, j < x.1 → (plainS xs).getD j 0 ∈ b64A) ∧ (xv (plainS xs) x.1 < 16777216) }) [(0, _), (4, _), (5, _), (18, _)] (fun x Lc => (19, .int .i64 ((x.1.1 : Nat) : Int)) :: (6, .int .i64 ((xv (plainS xs) x.1.1 : Nat) : Int)) :: Lc) (fun x => Mem w [] (bufE b4 x.1.2.1 x.1.2.2 (outB (plainS xs) x.1.1) (outB (plainS xs) x.1.1).length) []) (fun x => (plainS xs).length - x.1.1) ⟨(0, .slice none 0 0, 0), ⟨Nat.zero_le _, SV.nil, fun j hj => absurd hj (Nat.not_lt_zero _), Nat.zero_lt_succ _⟩⟩ zz8 ?_ ?_
   ·
    exact fun w1 h => (show Mem w [] [.blk b4 71 [.slice none 0 0, .int .i64 0, .int .i8 0], .row (.slice none 0 0) 0 5 1 []] [] w1 from (h.nilRow 5 1).sel)
   ·
    rintro ⟨⟨i, v, lr⟩, ⟨hi0, hi1, hi2, hi3⟩⟩; try dsimp only
    have hi0 : i ≤ (plainS xs).length := hi0; have hi1 : SV v (outB (plainS xs) i).length := hi1; have hi2 : ∀ j, j < i → (plainS xs).getD j 0 ∈ b64A := hi2; have hi3 : xv (plainS xs) i < 16777216 := hi3
    have hol := outB_le (plainS xs) i
    refine wpc_seq <| wpc_region <| wpl_q (q_pure rfl) rfl <| wpl_nil <| ex_then <| wpc_seq ?_
    refine wpc_cond rfl (fun hc20 => ?_) (fun hc20 => ?_)
    ·
     simp only [decide_eq_true_eq] at hc20
     have hil : i < (plainS xs).length := by omega
     refine wpc_skip <| ex_then <| wpc_seq <| wpc_block <| wpc_seq <| wpc_region <| wpl_q (q_pure rfl) rfl <| wpl_q (q_pure rfl) rfl <| wpl_nil <| ex_then <| wpc_seq <| wpc_region ?_
     refine wpl_q (q_pure rfl) rfl <| wpl_q (q_pure rfl) rfl ?_
     refine wpl_q (q_strIdx Tryd.underlying9 rfl rfl zz1) rfl ?_
     refine wpl_t (t_pur Tryd.hb34 rfl fun w h => indexB b64A ((plainS xs).getD i 0) w) rfl (fun b25 => ?_)
     refine wpl_q (q_pure rfl) rfl <| wpl_nil <| ex_then <| wpc_seq <| wpc_seq <| wpc_region <| wpl_q (q_pure rfl) rfl <| wpl_q (q_pure rfl) rfl <| wpl_nil <| ex_then ?_
     refine wpc_cond rfl (fun hc27 => ?_) (fun hc27 => ?_)
     ·
      have hN : ¬ fbOk xs := fb_noc hil (plB_neg.1 (by first | (simp only [decide_eq_true_eq] at hc27; exact hc27) | exact hc27))
      refine wpc_seq <| wpc_region <| wpl_q (q_pure rfl) rfl <| wpl_q (q_pure rfl) rfl <| wpl_nil <| ex_then <| wpc_ret ?_
      refine ex_then_ret ?_
      refine ex_block_ret ?_
      refine ex_then_ret ?_
      refine ex_then_ret ?_
      refine ex_block_ret ?_
      refine ex_then_ret ?_
      refine ret2 (.inl rfl) rfl rfl rfl ?_
      exact fun w1 h => ⟨(.slice none 0 0), by rw [(fb_no hN).1]; exact SV.nil, by rw [(fb_no hN).2], h.below, zz20⟩
     ·
      have hpm : (plainS xs).getD i 0 ∈ b64A := Decidable.byContradiction fun e => absurd (plB_neg.2 e) (by first | (simp only [decide_eq_false_iff_not] at hc27; exact hc27) | exact hc27)
      have hpi := (b64A_mem hpm).1
      rw [plB_in hpm]
      have hxe : xv (plainS xs) (i + 1) = (xv (plainS xs) i * 64) % 16777216 + b64A.idxOf ((plainS xs).getD i 0) := rfl
      have hxn : xv (plainS xs) (i + 1) < 16777216 := by omega
      have hx6 : xv (plainS xs) i * 2 ^ 6 &&& 16777215 < 16777216 := by rw [show xv (plainS xs) i * 2 ^ 6 &&& 16777215 = (xv (plainS xs) i * 2 ^ 6) % 2 ^ 24 from Nat.and_two_pow_sub_one_eq_mod _ 24]; omega
      refine wpc_skip <| ex_then <| wpc_seq <| wpc_region <| wpl_q (q_pure rfl) rfl ?_
      refine wpl_q (q_shlN (b := 6) rfl rfl zz17 zz1) rfl ?_
      refine wpl_q (q_andN (b := 16777215) rfl rfl zz1 zz1) rfl ?_
      refine wpl_q (q_pure rfl) rfl ?_
      refine wpl_q (q_orN rfl rfl zz1 zz1) rfl ?_
      refine wpl_re 32 rfl (congrArg (fun n : Nat => Value.int .i64 (n : Int)) (show (xv (plainS xs) i * 2 ^ 6 &&& 16777215) ||| b64A.idxOf ((plainS xs).getD i 0) = xv (plainS xs) (i + 1) from (xv_or hpi).trans hxe.symm)) ?_
      refine wpl_q (q_pure rfl) rfl <| wpl_nil <| ex_then <| wpc_seq <| wpc_region <| wpl_q (q_pure rfl) rfl ?_
      refine wpl_q (q_remN (b := 4) rfl rfl zz17) rfl ?_
      refine wpl_q (q_addN (b := 1) rfl rfl zz1) rfl ?_
      refine wpl_q (q_mulN (a := 6) rfl rfl zz1) rfl ?_
      refine wpl_q (q_pure rfl) rfl <| wpl_nil <| ex_then <| wpc_seq <| wpc_region <| wpl_q (q_pure rfl) rfl ?_
      refine wpl_q (q_remN (b := 4) rfl rfl zz17) rfl ?_
      refine wpl_q (q_pure rfl) rfl <| wpl_nil <| ex_then ?_
      refine wpc_cond rfl (fun hc39 => ?_) (fun hc39 => ?_)
      ·
       have hm4 : 0 < i % 4 := by simp only [decide_eq_true_eq, gt_iff_lt] at hc39; omega
       refine wpc_region <| wpl_q (q_pure rfl) rfl <| wpl_q (q_pure rfl) rfl ?_
       refine wpl_q (q_remN (b := 8) rfl rfl zz17) rfl ?_
       refine wpl_q (q_shrN rfl rfl zz17) rfl ?_
       refine wpl_q (q8_conv Tryd.underlying3 Tryd.underlying5 rfl) rfl ?_
       refine wpl_re 44 rfl (congrArg (fun c : UInt8 => Value.int .u8 (c.toNat : Int)) of8_out) ?_
       refine wpl_tp (t_callB Tryd.hb37 rfl fun w h => bufWrite b4 (outB (plainS xs) i).length v lr (outB (plainS xs) i) _ w rfl h zz4) rfl (fun b45 p45 => ?_)
       refine wpl_nil <| ex_block <| ex_then <| wpc_region ?_
       refine wpl_q (q_addN (b := 1) rfl rfl zz1) rfl ?_
       refine wpl_q (q_pure rfl) rfl <| wpl_nil ?_
       refine ex_again ⟨(i + 1, b45.1, b45.2), ⟨by show i + 1 ≤ _; omega, (by first | (dsimp only; rw [outB_S hm4, List.length_append]; exact p45) | (dsimp only; rw [outB_0 hm4]; exact hi1)), fun j hj => by
         rcases Nat.lt_or_ge j i with h | h
         · exact hi2 j h
         · obtain rfl : j = i := (by have hj : j < i + 1 := hj; omega)
           exact hpm, hxn⟩⟩ ?_ ?_ ?_
       ·
        exact zz8
       ·
        exact fun w h => by
          dsimp only
          first | (rw [outB_S hm4, List.length_append]; exact h) | (rw [outB_0 hm4]; exact h)
       ·
        (show (plainS xs).length - (i + 1) < (plainS xs).length - i); omega
      ·
       have hm4 : ¬ 0 < i % 4 := by simp only [decide_eq_false_iff_not, gt_iff_lt] at hc39; omega
       refine wpc_skip <| ex_block <| ex_then <| wpc_region ?_
       refine wpl_q (q_addN (b := 1) rfl rfl zz1) rfl ?_
       refine wpl_q (q_pure rfl) rfl <| wpl_nil ?_
       refine ex_again ⟨(i + 1, v, lr), ⟨by show i + 1 ≤ _; omega, (by first | (dsimp only; rw [outB_S hm4, List.length_append]; exact p45) | (dsimp only; rw [outB_0 hm4]; exact hi1)), fun j hj => by
         rcases Nat.lt_or_ge j i with h | h
         · exact hi2 j h
         · obtain rfl : j = i := (by have hj : j < i + 1 := hj; omega)
           exact hpm, hxn⟩⟩ ?_ ?_ ?_
       ·
        exact zz8
       ·
        exact fun w h => by
          dsimp only
          first | (rw [outB_S hm4, List.length_append]; exact h) | (rw [outB_0 hm4]; exact h)
       ·
        (show (plainS xs).length - (i + 1) < (plainS xs).length - i); omega
    ·
     simp only [decide_eq_false_iff_not] at hc20
     obtain rfl : i = (plainS xs).length := by omega
     refine wpc_exit ?_
     refine ex_then_exit ?_
     refine ex_then_exit ?_
     refine ex_block_hit ?_
     refine ex_then <| wpc_seq <| wpc_seq <| wpc_region ?_
     refine wpl_tp (t_callB Tryd.hb38 rfl fun w h => bufBytes b4 _ v lr (outB (plainS xs) (plainS xs).length) w rfl h) rfl (fun b47 p47 => ?_)
     refine wpl_q (q_pure rfl) rfl <| wpl_nil <| ex_then <| wpc_seq <| wpc_region <| wpl_q (q_pure rfl) rfl ?_
     refine wpl_t (t_pur Tryd.hb19 rfl fun w h => base64 b47 (outB (plainS xs) (plainS xs).length) w (h.seen_row zz12) zz4) rfl (fun b49 => ?_)
     refine wpl_q (q_pure rfl) rfl ?_
     refine wpl_q (q_strEq Tryd.underlying9 rfl rfl zz3) rfl ?_
     refine wpl_nil <| ex_then ?_
     refine wpc_cond rfl (fun hc51 => ?_) (fun hc51 => ?_)
     ·
      have hE : base64F (outB (plainS xs) (plainS xs).length) = xs := by first | exact of_decide_eq_true hc51 | (simpa using hc51)
      refine wpc_seq <| wpc_region <| wpl_q (q_pure rfl) rfl <| wpl_q (q_pure rfl) rfl <| wpl_q (q_pure rfl) rfl <| wpl_nil <| ex_then <| wpc_ret ?_
      refine ex_then_ret ?_
      refine ret2 (.inl rfl) rfl rfl rfl ?_
      obtain ⟨e1, e2⟩ := fb_yes (fb_mk h40 hi2 hE)
      exact fun w1 h => ⟨b47, by rw [e1]; exact p47, by rw [e2], h.below, by rw [e1]; exact h.made SubC.h .nil⟩
     ·
      have hN : ¬ fbOk xs := fb_nob (by first | exact of_decide_eq_false hc51 | (simpa using hc51))
      refine wpc_skip <| ex_then <| wpc_seq <| wpc_region <| wpl_q (q_pure rfl) rfl <| wpl_q (q_pure rfl) rfl <| wpl_nil <| ex_then <| wpc_ret ?_
      refine ret2 (.inl rfl) rfl rfl rfl ?_
      exact fun w1 h => ⟨(.slice none 0 0), by rw [(fb_no hN).1]; exact SV.nil, by rw [(fb_no hN).2], h.below, zz20⟩
end Go.Proofs.YtlapmdiabhlbmaaDoor
namespace Go.Proofs.YtlapmdiabhlbmaaDoor
open Go Go.PL Go.RowKit
def w3 (b : List UInt8) (g : Nat) : Nat → Nat
  | 0 => 0
  | j + 1 => w3 b g j * 256 + (b.getD (3 * g + j) 0).toNat
end Go.Proofs.YtlapmdiabhlbmaaDoor
namespace Go.Proofs.YtlapmdiabhlbmaaDoor
open Go Go.PL Go.RowKit
theorem lng_pad : padF [97, 98, 99, 100, 98, 99, 100, 101, 99, 100, 101, 102, 100, 101, 102, 103, 101, 102, 103, 104, 102, 103, 104, 105, 103, 104, 105, 106, 104, 105, 106, 107, 105, 106, 107, 108, 106, 107, 108, 109, 107, 108, 109, 110, 108, 109, 110, 111, 109, 110, 111, 112, 110, 111, 112, 113] = bytesW [1633837924, 1650680933, 1667523942, 1684366951, 1701209960, 1718052969, 1734895978, 1751738987, 1768581996, 1785425005, 1802268014, 1819111023, 1835954032, 1852797041, 2147483648, 0, 0, 0, 0, 0, 0, 0, 0, 0, 0, 0, 0, 0, 0, 0, 0, 448] := by decide +kernel
theorem lng_sum : sumF [97, 98, 99, 100, 98, 99, 100, 101, 99, 100, 101, 102, 100, 101, 102, 103, 101, 102, 103, 104, 102, 103, 104, 105, 103, 104, 105, 106, 104, 105, 106, 107, 105, 106, 107, 108, 106, 107, 108, 109, 107, 108, 109, 110, 108, 109, 110, 111, 109, 110, 111, 112, 110, 111, 112, 113] = bytesW [613247585, 3523623096, 3854575251, 205414457, 2738676825, 1694441831, 4142722516, 433784513] := (sum_W _ 2 _ lng_pad zz15 zz15).trans (congrArg bytesW (by decide +kernel))
theorem nil_hexL : hexF (sumF []) 32 = [101, 51, 98, 48, 99, 52, 52, 50, 57, 56, 102, 99, 49, 99, 49, 52, 57, 97, 102, 98, 102, 52, 99, 56, 57, 57, 54, 102, 98, 57, 50, 52, 50, 55, 97, 101, 52, 49, 101, 52, 54, 52, 57, 98, 57, 51, 52, 99, 97, 52, 57, 53, 57, 57, 49, 98, 55, 56, 53, 50, 98, 56, 53, 53] := by rw [nil_sum]; decide +kernel
theorem abc_hexL : hexF (sumF [97, 98, 99]) 32 = [98, 97, 55, 56, 49, 54, 98, 102, 56, 102, 48, 49, 99, 102, 101, 97, 52, 49, 52, 49, 52, 48, 100, 101, 53, 100, 97, 101, 50, 50, 50, 51, 98, 48, 48, 51, 54, 49, 97, 51, 57, 54, 49, 55, 55, 97, 57, 99, 98, 52, 49, 48, 102, 102, 54, 49, 102, 50, 48, 48, 49, 53, 97, 100] := by rw [abc_sum]; decide +kernel
theorem lng_hexL : hexF (sumF [97, 98, 99, 100, 98, 99, 100, 101, 99, 100, 101, 102, 100, 101, 102, 103, 101, 102, 103, 104, 102, 103, 104, 105, 103, 104, 105, 106, 104, 105, 106, 107, 105, 106, 107, 108, 106, 107, 108, 109, 107, 108, 109, 110, 108, 109, 110, 111, 109, 110, 111, 112, 110, 111, 112, 113]) 32 = [50, 52, 56, 100, 54, 97, 54, 49, 100, 50, 48, 54, 51, 56, 98, 56, 101, 53, 99, 48, 50, 54, 57, 51, 48, 99, 51, 101, 54, 48, 51, 57, 97, 51, 51, 99, 101, 52, 53, 57, 54, 52, 102, 102, 50, 49, 54, 55, 102, 54, 101, 99, 101, 100, 100, 52, 49, 57, 100, 98, 48, 54, 99, 49] := by rw [lng_sum]; decide +kernel
def bad64 : List (List UInt8) := [[90, 103, 61], [90, 103], [90], [90, 104, 61, 61], [90, 109, 57, 61], [90, 103, 61, 61, 90, 103, 61, 61], [90, 61, 61, 61], [61, 61, 61, 61], [61], [90, 109, 57, 118, 10], [90, 109, 45, 118], [90, 109, 32, 57], [90, 103, 61, 97], [90, 109, 56, 61, 61, 90, 109, 56, 61]]
def badHx : List (List UInt8) := [[48], [48, 103], [65, 66], [97, 32, 98, 32], [48, 48, 48], [48, 120]]
theorem bad64_all : ∀ i, i < 14 → (bad64.getD i []).length ≤ 100 ∧ fbE (bad64.getD i []) = 12 := by decide +kernel
theorem badHx_all : ∀ i, i < 6 → (badHx.getD i []).length ≤ 100 ∧ fhE (badHx.getD i []) = 12 := by decide +kernel
def strs (l : List (List UInt8)) : List Value := l.map str
instance oneC_strs {l : List (List UInt8)} : OneC (strs l) := ⟨fun u hu => by
  obtain ⟨x, _, rfl⟩ := List.mem_map.1 hu
  rfl⟩
theorem strs_get {l : List (List UInt8)} {i : Nat} (h : i < l.length) : (strs l)[i]? = some (str (l.getD i [])) := by
  unfold strs
  rw [List.getElem?_map, List.getElem?_eq_getElem h, List.getD_eq_getElem?_getD, List.getElem?_eq_getElem h]; rfl
theorem b64_n : base64F [] = [] := by decide +kernel
theorem b64_f : base64F [102] = [90, 103, 61, 61] := by decide +kernel
theorem b64_fo : base64F [102, 111] = [90, 109, 56, 61] := by decide +kernel
theorem b64_foo : base64F [102, 111, 111] = [90, 109, 57, 118] := by decide +kernel
theorem b64_bar : base64F [102, 111, 111, 98, 97, 114] = [90, 109, 57, 118, 89, 109, 70, 121] := by decide +kernel
theorem b64_x : base64F [255, 255, 254] = [47, 47, 47, 43] := by decide +kernel
theorem fh_a : fhV [48, 48, 102, 102, 49, 48] = [0, 255, 16] ∧ fhE [48, 48, 102, 102, 49, 48] = 0 := by decide +kernel
theorem fb_a : fbV [90, 109, 56, 61] = [102, 111] ∧ fbE [90, 109, 56, 61] = 0 := by decide +kernel
theorem fh_e : fhV [] = [] ∧ fhE [] = 0 := by decide +kernel
theorem fb_e : fbV [] = [] ∧ fbE [] = 0 := by decide +kernel
theorem parts_0 {r : Rd} {v : Value} (h : Seen r v 0 1 []) : Parts r v [] := ⟨h, fun q hq => by cases hq⟩
theorem parts_4 {r : Rd} {v s t u z : Value} {x y p q : List UInt8} (h : Seen r v 4 1 [s, t, u, z]) (h0 : Seen r s x.length 1 (v8s x)) (h1 : Seen r t y.length 1 (v8s y)) (h2 : Seen r u p.length 1 (v8s p)) (h3 : Seen r z q.length 1 (v8s q)) : Parts r v [(s, x), (t, y), (u, p), (z, q)] :=
  ⟨h, fun q hq => by simp only [List.mem_cons, List.not_mem_nil, or_false] at hq; rcases hq with rfl | rfl | rfl | rfl; exact h0; exact h1; exact h2; exact h3⟩
end Go.Proofs.YtlapmdiabhlbmaaDoor
namespace Go.Proofs.YtlapmdiabhlbmaaDoor
open Go Go.PL Go.RowKit
set_option maxHeartbeats 2000000
theorem lawNames  (w : World)  (hG : Glb w) :
    Calls Tryd.prog 8 [].toArray w (Pur w (.bool true)) := by
  refine enter (m := 174) (R := Mem w [] [] []) Tryd.func8 rfl rfl (Nat.le_of_ble_eq_true rfl) (Mem.start w) ?_
  refine wpc_seq <| wpc_region <| wpl_q (q_pure rfl) rfl <| wpl_nil <| ex_then <| wpc_seq <| wpc_region ?_
  refine wpl_tp (t_bsV (v8s [(97 : UInt8), (98 : UInt8), (99 : UInt8), (100 : UInt8), (98 : UInt8), (99 : UInt8), (100 : UInt8), (101 : UInt8), (99 : UInt8), (100 : UInt8), (101 : UInt8), (102 : UInt8), (100 : UInt8), (101 : UInt8), (102 : UInt8), (103 : UInt8), (101 : UInt8), (102 : UInt8), (103 : UInt8), (104 : UInt8), (102 : UInt8), (103 : UInt8), (104 : UInt8), (105 : UInt8), (103 : UInt8), (104 : UInt8), (105 : UInt8), (106 : UInt8), (104 : UInt8), (105 : UInt8), (106 : UInt8), (107 : UInt8), (105 : UInt8), (106 : UInt8), (107 : UInt8), (108 : UInt8), (106 : UInt8), (107 : UInt8), (108 : UInt8), (109 : UInt8), (107 : UInt8), (108 : UInt8), (109 : UInt8), (110 : UInt8), (108 : UInt8), (109 : UInt8), (110 : UInt8), (111 : UInt8), (109 : UInt8), (110 : UInt8), (111 : UInt8), (112 : UInt8), (110 : UInt8), (111 : UInt8), (112 : UInt8), (113 : UInt8)]) Tryd.underlying22 Tryd.ti5 rfl rfl zz15 zz15 rfl (v8s_one _)) rfl (fun b20 p20 => ?_)
  refine wpl_t (t_cvLit Tryd.underlying22 Tryd.underlying5 rfl zz11 zz15) rfl (fun b21 => ?_)
  refine wpl_t (t_pur Tryd.hb11 rfl fun w h => sumW _ [97, 98, 99, 100, 98, 99, 100, 101, 99, 100, 101, 102, 100, 101, 102, 103, 101, 102, 103, 104, 102, 103, 104, 105, 103, 104, 105, 106, 104, 105, 106, 107, 105, 106, 107, 108, 106, 107, 108, 109, 107, 108, 109, 110, 108, 109, 110, 111, 109, 110, 111, 112, 110, 111, 112, 113] w zz2 (glob h hG)) rfl (fun b22 => ?_)
  refine wpl_t (t_pur Tryd.hb26 rfl fun w h => lawHex _ w zz21) rfl (fun b23 => ?_)
  refine wpl_q (q_pure rfl) rfl <| wpl_nil <| ex_then <| wpc_seq <| wpc_region ?_
  refine wpl_t (t_pur Tryd.hb11 rfl fun w h => sumW (.slice none 0 0) [] w (seen_nil _ _) (glob h hG)) rfl (fun b24 => ?_)
  refine wpl_t (t_pur Tryd.hb26 rfl fun w h => lawHex _ w zz21) rfl (fun b25 => ?_)
  refine wpl_q (q_tru (q_strEq Tryd.underlying9 rfl rfl zz3) nil_hexL) rfl ?_
  refine wpl_q (q_pure rfl) rfl <| wpl_on rfl rfl ?_
  refine wpl_tp (t_bsV (v8s [(97 : UInt8), (98 : UInt8), (99 : UInt8)]) Tryd.underlying22 Tryd.ti5 rfl rfl zz15 zz15 rfl (v8s_one _)) rfl (fun b28 p28 => ?_)
  refine wpl_on rfl rfl ?_
  refine wpl_t (t_cvLit Tryd.underlying22 Tryd.underlying5 rfl zz11 zz15) rfl (fun b29 => ?_)
  refine wpl_on rfl rfl ?_
  refine wpl_t (t_pur Tryd.hb11 rfl fun w h => sumW _ [97, 98, 99] w zz2 (glob h hG)) rfl (fun b30 => ?_)
  refine wpl_on rfl rfl ?_
  refine wpl_t (t_pur Tryd.hb26 rfl fun w h => lawHex _ w zz21) rfl (fun b31 => ?_)
  refine wpl_on rfl rfl ?_
  refine wpl_q (q_tru (q_strEq Tryd.underlying9 rfl rfl zz3) abc_hexL) rfl ?_
  refine wpl_q (q_pure rfl) rfl <| wpl_q (q_pure rfl) rfl <| wpl_on rfl rfl <| wpl_q (q_pure rfl) rfl <| wpl_on rfl rfl ?_
  refine wpl_q (q_tru (q_strEq Tryd.underlying9 rfl rfl zz3) lng_hexL) rfl ?_
  refine wpl_q (q_pure rfl) rfl <| wpl_q (q_pure rfl) rfl <| wpl_on rfl rfl ?_
  refine wpl_t (t_pur Tryd.hb16 rfl fun w h => joinW (.slice none 0 0) [] w (parts_0 (seen_nil _ _)) (glob h hG)) rfl (fun b39 => ?_)
  refine wpl_on rfl rfl ?_
  refine wpl_t (t_pur Tryd.hb11 rfl fun w h => sumW (.slice none 0 0) [] w (seen_nil _ _) (glob h hG)) rfl (fun b40 => ?_)
  refine wpl_on rfl rfl ?_
  refine wpl_q (q_tru (q_eq8 eq8_26 zz3 rfl rfl zz6 zz6) rfl) rfl ?_
  refine wpl_q (q_pure rfl) rfl <| wpl_q (q_pure rfl) rfl <| wpl_on rfl rfl ?_
  refine wpl_tp (t_bsV (v8s [(97 : UInt8), (98 : UInt8)]) Tryd.underlying22 Tryd.ti5 rfl rfl zz15 zz15 rfl (v8s_one _)) rfl (fun b44 p44 => ?_)
  refine wpl_on rfl rfl ?_
  refine wpl_t (t_cvLit Tryd.underlying22 Tryd.underlying5 rfl zz11 zz15) rfl (fun b45 => ?_)
  refine wpl_on rfl rfl ?_
  refine wpl_tp (t_bsV (v8s [(99 : UInt8)]) Tryd.underlying22 Tryd.ti5 rfl rfl zz15 zz15 rfl (v8s_one _)) rfl (fun b46 p46 => ?_)
  haveI : OneC [Value.slice none 0 0, b44, Value.slice none 0 0, b46] := OneC.cons rfl (OneC.cons (SV.one p44) (OneC.cons rfl (OneC.cons (SV.one p46) oneC_nil)))
  refine wpl_on rfl rfl ?_
  refine wpl_t (t_cvLit Tryd.underlying22 Tryd.underlying5 rfl zz11 zz15) rfl (fun b47 => ?_)
  refine wpl_on rfl rfl ?_
  refine wpl_tp (t_bsV [_, _, _, _] Tryd.underlying23 Tryd.ti22 rfl rfl zz15 zz15 rfl OneC.h) rfl (fun b48 p48 => ?_)
  refine wpl_on rfl rfl ?_
  refine wpl_t (t_pur Tryd.hb16 rfl fun w h => joinW _ [(.slice none 0 0, []), (b44, [97, 98]), (.slice none 0 0, []), (b46, [99])] w (parts_4 h.seenV (seen_nil _ _) (h.seen_fact zz12) (seen_nil _ _) (h.seen_fact zz12)) (glob h hG)) rfl (fun b49 => ?_)
  refine wpl_on rfl rfl ?_
  refine wpl_tp (t_bsV (v8s [(97 : UInt8), (98 : UInt8), (99 : UInt8)]) Tryd.underlying22 Tryd.ti5 rfl rfl zz15 zz15 rfl (v8s_one _)) rfl (fun b50 p50 => ?_)
  refine wpl_on rfl rfl ?_
  refine wpl_t (t_cvLit Tryd.underlying22 Tryd.underlying5 rfl zz11 zz15) rfl (fun b51 => ?_)
  refine wpl_on rfl rfl ?_
  refine wpl_t (t_pur Tryd.hb11 rfl fun w h => sumW _ [97, 98, 99] w zz2 (glob h hG)) rfl (fun b52 => ?_)
  refine wpl_on rfl rfl ?_
  refine wpl_q (q_tru (q_eq8 eq8_26 zz3 rfl rfl zz6 zz6) rfl) rfl ?_
  refine wpl_q (q_pure rfl) rfl <| wpl_q (q_pure rfl) rfl <| wpl_nil <| ex_then <| wpc_seq <| wpc_region ?_
  refine wpl_t (t_pur Tryd.hb19 rfl fun w h => base64 (.slice none 0 0) [] w (seen_nil _ _) zz15) rfl (fun b55 => ?_)
  refine wpl_q (q_tru (q_strEq Tryd.underlying9 rfl rfl zz3) b64_n) rfl ?_
  refine wpl_q (q_pure rfl) rfl <| wpl_on rfl rfl ?_
  refine wpl_tp (t_bsV (v8s [(102 : UInt8)]) Tryd.underlying22 Tryd.ti5 rfl rfl zz15 zz15 rfl (v8s_one _)) rfl (fun b58 p58 => ?_)
  refine wpl_on rfl rfl ?_
  refine wpl_t (t_cvLit Tryd.underlying22 Tryd.underlying5 rfl zz11 zz15) rfl (fun b59 => ?_)
  refine wpl_on rfl rfl ?_
  refine wpl_t (t_pur Tryd.hb19 rfl fun w h => base64 _ [102] w zz2 zz15) rfl (fun b60 => ?_)
  refine wpl_on rfl rfl ?_
  refine wpl_q (q_tru (q_strEq Tryd.underlying9 rfl rfl zz3) b64_f) rfl ?_
  refine wpl_q (q_pure rfl) rfl <| wpl_q (q_pure rfl) rfl <| wpl_on rfl rfl ?_
  refine wpl_tp (t_bsV (v8s [(102 : UInt8), (111 : UInt8)]) Tryd.underlying22 Tryd.ti5 rfl rfl zz15 zz15 rfl (v8s_one _)) rfl (fun b64 p64 => ?_)
  refine wpl_on rfl rfl ?_
  refine wpl_t (t_cvLit Tryd.underlying22 Tryd.underlying5 rfl zz11 zz15) rfl (fun b65 => ?_)
  refine wpl_on rfl rfl ?_
  refine wpl_t (t_pur Tryd.hb19 rfl fun w h => base64 _ [102, 111] w zz2 zz15) rfl (fun b66 => ?_)
  refine wpl_on rfl rfl ?_
  refine wpl_q (q_tru (q_strEq Tryd.underlying9 rfl rfl zz3) b64_fo) rfl ?_
  refine wpl_q (q_pure rfl) rfl <| wpl_q (q_pure rfl) rfl <| wpl_on rfl rfl ?_
  refine wpl_tp (t_bsV (v8s [(102 : UInt8), (111 : UInt8), (111 : UInt8)]) Tryd.underlying22 Tryd.ti5 rfl rfl zz15 zz15 rfl (v8s_one _)) rfl (fun b70 p70 => ?_)
  refine wpl_on rfl rfl ?_
  refine wpl_t (t_cvLit Tryd.underlying22 Tryd.underlying5 rfl zz11 zz15) rfl (fun b71 => ?_)
  refine wpl_on rfl rfl ?_
  refine wpl_t (t_pur Tryd.hb19 rfl fun w h => base64 _ [102, 111, 111] w zz2 zz15) rfl (fun b72 => ?_)
  refine wpl_on rfl rfl ?_
  refine wpl_q (q_tru (q_strEq Tryd.underlying9 rfl rfl zz3) b64_foo) rfl ?_
  refine wpl_q (q_pure rfl) rfl <| wpl_q (q_pure rfl) rfl <| wpl_on rfl rfl ?_
  refine wpl_tp (t_bsV (v8s [(102 : UInt8), (111 : UInt8), (111 : UInt8), (98 : UInt8), (97 : UInt8), (114 : UInt8)]) Tryd.underlying22 Tryd.ti5 rfl rfl zz15 zz15 rfl (v8s_one _)) rfl (fun b76 p76 => ?_)
  refine wpl_on rfl rfl ?_
  refine wpl_t (t_cvLit Tryd.underlying22 Tryd.underlying5 rfl zz11 zz15) rfl (fun b77 => ?_)
  refine wpl_on rfl rfl ?_
  refine wpl_t (t_pur Tryd.hb19 rfl fun w h => base64 _ [102, 111, 111, 98, 97, 114] w zz2 zz15) rfl (fun b78 => ?_)
  refine wpl_on rfl rfl ?_
  refine wpl_q (q_tru (q_strEq Tryd.underlying9 rfl rfl zz3) b64_bar) rfl ?_
  refine wpl_q (q_pure rfl) rfl <| wpl_q (q_pure rfl) rfl <| wpl_on rfl rfl ?_
  refine wpl_tp (t_bsV (v8s [255, 255, 254]) Tryd.underlying22 Tryd.ti5 rfl rfl zz15 zz15 rfl (v8s_one _)) rfl (fun b82 p82 => ?_)
  refine wpl_on rfl rfl ?_
  refine wpl_t (t_pur Tryd.hb19 rfl fun w h => base64 _ [255, 255, 254] w zz2 zz15) rfl (fun b83 => ?_)
  refine wpl_on rfl rfl ?_
  refine wpl_q (q_tru (q_strEq Tryd.underlying9 rfl rfl zz3) b64_x) rfl ?_
  refine wpl_q (q_pure rfl) rfl <| wpl_q (q_pure rfl) rfl <| wpl_nil <| ex_then <| wpc_seq <| wpc_seq <| wpc_region ?_
  refine wpl_tp (t_bsV (strs bad64) Tryd.underlying45 Tryd.ti9 rfl rfl zz15 zz15 rfl OneC.h) rfl (fun b86 p86 => ?_)
  refine wpl_q (q_lenW Tryd.underlying45 rfl zz5) rfl ?_
  refine wpl_q (q_pure rfl) rfl <| wpl_nil <| ex_then <| wpc_block ?_
  refine wpc_loopc (ι := { x : Nat // (x ≤ 14) }) [(2, _), (3, _), (86, _), (87, _)] (fun x Lc => (88, .int .i64 ((x.1 : Nat) : Int)) :: Lc) (fun x => Mem w [] [.row b86 14 9 1 (strs bad64)] []) (fun x => 14 - x.1) ⟨0, (Nat.zero_le _)⟩ zz8 ?_ ?_
  ·
   exact fun w h => h.selS
  ·
   rintro ⟨i, hi0⟩; try dsimp only
   have hi0 : i ≤ 14 := hi0
   refine wpc_seq <| wpc_region <| wpl_q (q_pure rfl) rfl <| wpl_nil <| ex_then <| wpc_seq ?_
   refine wpc_cond rfl (fun hc89 => ?_) (fun hc89 => ?_)
   ·
    simp only [decide_eq_true_eq] at hc89
    have hi14 : i < 14 := by omega
    obtain ⟨hbl, hbe⟩ := bad64_all i hi14
    refine wpc_skip <| ex_then <| wpc_seq <| wpc_block <| wpc_seq <| wpc_region ?_
    refine wpl_q (q_idxW1 Tryd.underlying45 Tryd.ti9 rfl rfl zz5 zz1) rfl ?_
    refine wpl_q (q_ldW Tryd.underlying9 rfl rfl (fun w h => zz7) (strs_get (show i < bad64.length from hi14))) rfl ?_
    refine wpl_q (q_pure rfl) rfl <| wpl_nil <| ex_then <| wpc_seq <| wpc_region <| wpl_q (q_pure rfl) rfl ?_
    refine wpl_tp (t_callP1 Tryd.hb22 rfl fun w h => fromBase64 (bad64.getD i []) w zz4) rfl (fun b94 p94 => ?_)
    refine wpl_q (q_pure rfl) rfl <| wpl_q (q_pure rfl) rfl <| wpl_q (q_pure rfl) rfl <| wpl_q (q_pure rfl) rfl <| wpl_q (q_pure rfl) rfl <| wpl_nil <| ex_then <| wpc_seq <| wpc_region <| wpl_q (q_pure rfl) rfl ?_
    refine wpl_q (q_bt (c := false) (q_neI rfl rfl) (by rw [hbe]; rfl)) rfl ?_
    refine wpl_nil <| ex_then ?_
    refine wpc_cond_f rfl ?_
    refine wpc_skip <| ex_block <| ex_then <| wpc_region ?_
    refine wpl_q (q_addN (b := 1) rfl rfl zz1) rfl ?_
    refine wpl_q (q_pure rfl) rfl <| wpl_nil ?_
    refine ex_again ⟨i + 1, (show i + 1 ≤ 14 from zz4)⟩ ?_ ?_ ?_
    ·
     exact zz8
    ·
     exact fun w h => h.selS
    ·
     (show 14 - (i + 1) < 14 - i); omega
   ·
    try simp only [decide_eq_true_eq, decide_eq_false_iff_not, Bool.and_eq_true, Bool.or_eq_true, beq_iff_eq, bne_iff_ne, ne_eq, Bool.not_eq_true', Bool.not_eq_false', Decidable.not_not] at hc89
    refine wpc_exit ?_
    refine ex_then_exit ?_
    refine ex_then_exit ?_
    refine ex_block_hit ?_
    refine ex_then <| wpc_seq <| wpc_seq <| wpc_region ?_
    refine wpl_tp (t_bsV (strs badHx) Tryd.underlying45 Tryd.ti9 rfl rfl zz15 zz15 rfl OneC.h) rfl (fun b100 p100 => ?_)
    refine wpl_q (q_lenW Tryd.underlying45 rfl zz5) rfl ?_
    refine wpl_q (q_pure rfl) rfl <| wpl_nil <| ex_then <| wpc_block ?_
    refine wpc_loopc (ι := { x : Nat // (x ≤ 6) }) [(2, _), (3, _), (100, _), (101, _)] (fun x Lc => (102, .int .i64 ((x.1 : Nat) : Int)) :: Lc) (fun x => Mem w [] [.row b100 6 9 1 (strs badHx)] []) (fun x => 6 - x.1) ⟨0, (Nat.zero_le _)⟩ zz8 ?_ ?_
    ·
     exact fun w h => h.selS
    ·
     rintro ⟨i, hi0⟩; try dsimp only
     have hi0 : i ≤ 6 := hi0
     refine wpc_seq <| wpc_region <| wpl_q (q_pure rfl) rfl <| wpl_nil <| ex_then <| wpc_seq ?_
     refine wpc_cond rfl (fun hc103 => ?_) (fun hc103 => ?_)
     ·
      simp only [decide_eq_true_eq] at hc103
      have hi6 : i < 6 := by omega
      obtain ⟨hbl, hbe⟩ := badHx_all i hi6
      refine wpc_skip <| ex_then <| wpc_seq <| wpc_block <| wpc_seq <| wpc_region ?_
      refine wpl_q (q_idxW1 Tryd.underlying45 Tryd.ti9 rfl rfl zz5 zz1) rfl ?_
      refine wpl_q (q_ldW Tryd.underlying9 rfl rfl (fun w h => zz7) (strs_get (show i < badHx.length from hi6))) rfl ?_
      refine wpl_q (q_pure rfl) rfl <| wpl_nil <| ex_then <| wpc_seq <| wpc_region <| wpl_q (q_pure rfl) rfl ?_
      refine wpl_tp (t_callP1 Tryd.hb20 rfl fun w h => fromHex (badHx.getD i []) w zz4) rfl (fun b108 p108 => ?_)
      refine wpl_q (q_pure rfl) rfl <| wpl_q (q_pure rfl) rfl <| wpl_q (q_pure rfl) rfl <| wpl_q (q_pure rfl) rfl <| wpl_q (q_pure rfl) rfl <| wpl_nil <| ex_then <| wpc_seq <| wpc_region <| wpl_q (q_pure rfl) rfl ?_
      refine wpl_q (q_bt (c := false) (q_neI rfl rfl) (by rw [hbe]; rfl)) rfl ?_
      refine wpl_nil <| ex_then ?_
      refine wpc_cond_f rfl ?_
      refine wpc_skip <| ex_block <| ex_then <| wpc_region ?_
      refine wpl_q (q_addN (b := 1) rfl rfl zz1) rfl ?_
      refine wpl_q (q_pure rfl) rfl <| wpl_nil ?_
      refine ex_again ⟨i + 1, (show i + 1 ≤ 6 from zz4)⟩ ?_ ?_ ?_
      ·
       exact zz8
      ·
       exact fun w h => h.selS
      ·
       (show 6 - (i + 1) < 6 - i); omega
     ·
      try simp only [decide_eq_true_eq, decide_eq_false_iff_not, Bool.and_eq_true, Bool.or_eq_true, beq_iff_eq, bne_iff_ne, ne_eq, Bool.not_eq_true', Bool.not_eq_false', Decidable.not_not] at hc103
      refine wpc_exit ?_
      refine ex_then_exit ?_
      refine ex_then_exit ?_
      refine ex_block_hit ?_
      refine ex_then <| wpc_seq <| wpc_region ?_
      refine wpl_tp (t_callP1 Tryd.hb20 rfl fun w h => fromHex [48, 48, 102, 102, 49, 48] w zz15) rfl (fun b115 p115 => ?_)
      refine wpl_q (q_pure rfl) rfl <| wpl_q (q_pure rfl) rfl <| wpl_q (q_pure rfl) rfl <| wpl_q (q_pure rfl) rfl <| wpl_q (q_pure rfl) rfl <| wpl_nil <| ex_then <| wpc_seq <| wpc_region ?_
      refine wpl_tp (t_callP1 Tryd.hb22 rfl fun w h => fromBase64 [90, 109, 56, 61] w zz15) rfl (fun b119 p119 => ?_)
      refine wpl_q (q_pure rfl) rfl <| wpl_q (q_pure rfl) rfl <| wpl_q (q_pure rfl) rfl <| wpl_q (q_pure rfl) rfl <| wpl_q (q_pure rfl) rfl <| wpl_nil <| ex_then <| wpc_seq <| wpc_region ?_
      refine wpl_tp (t_callP1 Tryd.hb20 rfl fun w h => fromHex [] w zz15) rfl (fun b123 p123 => ?_)
      refine wpl_q (q_pure rfl) rfl <| wpl_q (q_pure rfl) rfl <| wpl_q (q_pure rfl) rfl <| wpl_q (q_pure rfl) rfl <| wpl_q (q_pure rfl) rfl <| wpl_nil <| ex_then <| wpc_seq <| wpc_region ?_
      refine wpl_tp (t_callP1 Tryd.hb22 rfl fun w h => fromBase64 [] w zz15) rfl (fun b127 p127 => ?_)
      refine wpl_q (q_pure rfl) rfl <| wpl_q (q_pure rfl) rfl <| wpl_q (q_pure rfl) rfl <| wpl_q (q_pure rfl) rfl <| wpl_q (q_pure rfl) rfl <| wpl_nil <| ex_then <| wpc_seq <| wpc_region ?_
      refine wpl_t (t_pur Tryd.hb17 rfl fun w h => alive w (glob h hG)) rfl (fun b130 => ?_)
      refine wpl_q (q_pure rfl) rfl <| wpl_on rfl rfl <| wpl_q (q_pure rfl) rfl <| wpl_q (q_pure rfl) rfl <| wpl_q (q_pure rfl) rfl <| wpl_on rfl rfl <| wpl_q (q_pure rfl) rfl <| wpl_q (q_pure rfl) rfl <| wpl_q (q_pure rfl) rfl <| wpl_on rfl rfl <| wpl_q (q_pure rfl) rfl <| wpl_on rfl rfl ?_
      refine wpl_q (q_tru (q_eqI rfl rfl) fh_a.2) rfl <| wpl_q (q_pure rfl) rfl <| wpl_q (q_pure rfl) rfl <| wpl_on rfl rfl <| wpl_q (q_pure rfl) rfl <| wpl_on rfl rfl ?_
      refine wpl_tp (t_bsV (v8s [0, 255, 16]) Tryd.underlying22 Tryd.ti5 rfl rfl zz15 zz15 rfl (v8s_one _)) rfl (fun b143 p143 => ?_)
      refine wpl_on rfl rfl ?_
      refine wpl_t (t_pur (v := .bool true) Tryd.hb15 rfl fun w h => by
        have q := refSame b115 (fhV [48, 48, 102, 102, 49, 48]) b143 [0, 255, 16] w (h.seen_row zz12) (h.seen_row zz12)
        rwa [decide_eq_true (fh_a.1)] at q) rfl (fun b144 => ?_)
      refine wpl_q (q_pure rfl) rfl <| wpl_q (q_pure rfl) rfl <| wpl_on rfl rfl <| wpl_q (q_pure rfl) rfl <| wpl_on rfl rfl <| wpl_q (q_tru (q_eqI rfl rfl) fb_a.2) rfl <| wpl_q (q_pure rfl) rfl <| wpl_q (q_pure rfl) rfl <| wpl_on rfl rfl <| wpl_q (q_pure rfl) rfl <| wpl_on rfl rfl ?_
      refine wpl_tp (t_bsV (v8s [(102 : UInt8), (111 : UInt8)]) Tryd.underlying22 Tryd.ti5 rfl rfl zz15 zz15 rfl (v8s_one _)) rfl (fun b152 p152 => ?_)
      refine wpl_on rfl rfl ?_
      refine wpl_t (t_cvLit Tryd.underlying22 Tryd.underlying5 rfl zz11 zz15) rfl (fun b153 => ?_)
      refine wpl_on rfl rfl ?_
      refine wpl_t (t_pur (v := .bool true) Tryd.hb15 rfl fun w h => by
        have q := refSame b119 (fbV [90, 109, 56, 61]) b152 [102, 111] w (h.seen_row zz12) (h.seen_fact zz12)
        rwa [decide_eq_true (fb_a.1)] at q) rfl (fun b154 => ?_)
      refine wpl_q (q_pure rfl) rfl <| wpl_q (q_pure rfl) rfl <| wpl_on rfl rfl <| wpl_q (q_pure rfl) rfl <| wpl_on rfl rfl <| wpl_q (q_tru (q_eqI rfl rfl) fh_e.2) rfl <| wpl_q (q_pure rfl) rfl <| wpl_q (q_pure rfl) rfl <| wpl_on rfl rfl <| wpl_q (q_pure rfl) rfl <| wpl_on rfl rfl ?_
      refine wpl_q (q_lenW Tryd.underlying22 rfl zz5) rfl ?_
      refine wpl_on rfl rfl ?_
      refine wpl_q (q_tru (q_eqI rfl rfl) (by rw [fh_e.1]; rfl)) rfl ?_
      refine wpl_q (q_pure rfl) rfl <| wpl_q (q_pure rfl) rfl <| wpl_on rfl rfl <| wpl_q (q_pure rfl) rfl <| wpl_on rfl rfl <| wpl_q (q_tru (q_eqI rfl rfl) fb_e.2) rfl <| wpl_q (q_pure rfl) rfl <| wpl_q (q_pure rfl) rfl <| wpl_on rfl rfl <| wpl_q (q_pure rfl) rfl <| wpl_on rfl rfl ?_
      refine wpl_q (q_lenW Tryd.underlying22 rfl zz5) rfl ?_
      refine wpl_on rfl rfl ?_
      refine wpl_q (q_tru (q_eqI rfl rfl) (by rw [fb_e.1]; rfl)) rfl ?_
      refine wpl_q (q_pure rfl) rfl <| wpl_q (q_pure rfl) rfl <| wpl_nil <| ex_then <| wpc_ret ?_
      refine ret1 (.inl rfl) rfl rfl ?_
      exact fun w h => ⟨by first | rfl | simp, h.below⟩
end Go.Proofs.YtlapmdiabhlbmaaDoor
