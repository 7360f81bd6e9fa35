/- What the statement reaches, in order. -/
import Derived.Test.YtjpfhkjmjnjggaaDoorMNTI
import Derived.Test.YtjpfhkjmjnjggaaDoorMNPLI
import Derived.Test.YtjpfhkjmjnjggaaDoorMNPLZ
import Derived.Test.YtjpfhkjmjnjggaaDoorMNPLL
import Derived.Test.YtjpfhkjmjnjggaaDoorMNPLN
import Derived.Test.YtjpfhkjmjnjggaaDoorMNPLP
import Derived.WalkKit
import Derived.ProofKit
import Derived.OpenShut
import Derived.ChangeOld
import Derived.Below
import Derived.Carry
import Derived.LaidMore
import Derived.Deep.DeepHandedRow
import Derived.Deep.DeepWitnessRowRef
import Derived.Lib.LaidTab
import Derived.Stop.Joined
import Derived.Test.YtjpfhkjmjnjggaaDoorMN2
set_option linter.unusedSimpArgs false
set_option linter.unusedVariables false
set_option maxRecDepth 100000
namespace Go.Proofs.YtjpfhkjmjnjggaaDoor
open Go Go.PL Go.RowKit
def numK : Nat → Nat → List UInt8
  | 0, _ => []
  | k + 1, n => numK k (n / 256) ++ [of8 ((n % 256 : Nat) : Int)]
theorem numK_len : ∀ (k n : Nat), (numK k n).length = k
  | 0, _ => rfl
  | k + 1, n => by rw [numK, List.length_append, numK_len k]; rfl
theorem of8_mod (n : Nat) : of8 (((n % 256 : Nat) : Nat) : Int) = of8 ((n : Nat) : Int) := by
  apply UInt8.toNat_inj.1
  have h1 := of8_toNat ((n % 256 : Nat) : Int)
  have h2 := of8_toNat ((n : Nat) : Int)
  omega
theorem div_pow (n i : Nat) : n / 2 ^ (8 * (i + 1)) = n / 2 ^ (8 * i) / 256 := by
  rw [Nat.div_div_eq_div_mul, show 8 * (i + 1) = 8 * i + 8 from zz13, Nat.pow_add]
theorem numK_cons : ∀ (k n : Nat), numK (k + 1) n = of8 ((n / 2 ^ (8 * k) : Nat) : Int) :: numK k n
  | 0, n => by
    show [of8 ((n % 256 : Nat) : Int)] = [of8 ((n / 2 ^ 0 : Nat) : Int)]
    rw [of8_mod, Nat.pow_zero, Nat.div_one]
  | k + 1, n => by
    rw [numK, numK_cons k (n / 256), show numK (k + 1) n = numK k (n / 256) ++ [of8 ((n % 256 : Nat) : Int)] from rfl, List.cons_append, Nat.div_div_eq_div_mul, show 256 * 2 ^ (8 * k) = 2 ^ (8 * (k + 1)) by rw [show 8 * (k + 1) = 8 * k + 8 from zz13, Nat.pow_add]; omega]
theorem rep_set (m : Nat) (x : UInt8) (l : List UInt8) : (List.replicate (m + 1) (0 : UInt8) ++ l).set m x = List.replicate m 0 ++ (x :: l) := by
  rw [List.replicate_succ', List.append_assoc, List.set_append_right _ _ zz38]
  simp
def rdO (Ln : List Nat) (w : World) : Rd := fun a => if a.block ∈ Ln then none else w.cell? a
theorem rdO_some {Ln : List Nat} {w : World} {a : Addr} {v : Value} (h : rdO Ln w a = some v) : a.block ∉ Ln ∧ w.cell? a = some v := by
  unfold rdO at h
  split at h
  · cases h
  · exact ⟨‹_›, h⟩
theorem rdo_old {w0 w : World} {Ln : List Nat} {M : List Ent} {S : List Fact} (h : Mem w0 Ln M S w) : ∀ a v, rdO Ln w0 a = some v → w.cell? a = some v := fun a v hv => by
  obtain ⟨h1, h2⟩ := rdO_some hv
  exact h.cell_oldL h2 h1
theorem sr64_8 (m : UInt64) : (sr64 m 8).toNat = m.toNat / 256 := by
  have := m.toNat_lt
  show (UInt64.ofNat (m.toNat / 2 ^ min 8 64)).toNat = _
  rw [UInt64.toNat_ofNat']
  show m.toNat / 256 % 2 ^ 64 = _
  omega
theorem get16 {l : List (List UInt8)} (h : ∀ x ∈ l, x.length = 16) {i : Nat} (hi : i < l.length) : ((v8s l.flatten).drop (i * 16)).take 16 = v8s (l.getD i []) := by rw [v8s_drop, v8s_take, flat_part l h i hi]
theorem flat_take {l : List (List UInt8)} (h : ∀ x ∈ l, x.length = 16) {i : Nat} (hi : i < l.length) : (l.take (i + 1)).flatten = (l.take i).flatten ++ l.getD i [] := by
  rw [List.take_add_one, List.getD_eq_getElem?_getD, List.getElem?_eq_getElem hi, List.flatten_append]
  simp
theorem flat_takeL {l : List (List UInt8)} (h : ∀ x ∈ l, x.length = 16) {i : Nat} (hi : i ≤ l.length) : (l.take i).flatten.length = i * 16 := by
  rw [flat_len _ (fun x hx => h x (List.mem_of_mem_take hx)), List.length_take, Nat.min_eq_left hi]
theorem wordB (z : UInt64) (k : Nat) (w : World)  (hk : k ≤ 8) :
    Calls Tryd.prog 74 [.int .u64 z.toNat, .int .i64 ((k : Nat) : Int)].toArray w (GivesP w (fun v => SV v k) (fun v => v) (fun v => [.row v k 5 1 (v8s (numK k z.toNat))]) (fun _ => [])) := by
  refine enter (m := 26) (R := Mem w [] [] []) Tryd.func74 rfl rfl (Nat.le_of_ble_eq_true rfl) (Mem.start w) ?_
  refine wpc_seq <| wpc_region <| wpl_q (q_pure rfl) rfl <| wpl_nil <| ex_then <| wpc_seq <| wpc_region <| wpl_q (q_pure rfl) rfl ?_
  refine wpl_tp (t_mkW Tryd.underlying32 Tryd.ti5 rfl rfl zz2 zz2 zz2 _ rfl (mk8 _)) rfl (fun b8 p8 => ?_)
  refine wpl_q (q_pure rfl) rfl <| wpl_nil <| ex_then <| wpc_seq <| wpc_seq <| wpc_region <| wpl_q (q_pure rfl) rfl ?_
  refine wpl_q (q_lenW Tryd.underlying32 rfl zz4) rfl ?_
  refine wpl_q (q_pure rfl) rfl <| wpl_nil <| ex_then <| wpc_block ?_
  refine wpc_loopc (ι := { x : Nat × UInt64 // (x.1 ≤ k) ∧ (x.2.toNat = z.toNat / 2 ^ (8 * x.1)) }) [(1, _), (5, _), (10, _)] (fun x Lc => (11, .int .i64 ((x.1.1 : Nat) : Int)) :: (0, .int .u64 (x.1.2.toNat : Int)) :: Lc) (fun x => Mem w [] [.row b8 k 5 1 (v8s (List.replicate (k - x.1.1) 0 ++ numK x.1.1 z.toNat))] []) (fun x => k - x.1.1) ⟨(0, z), ⟨Nat.zero_le _, by rw [Nat.mul_zero, Nat.pow_zero, Nat.div_one]⟩⟩ zz12 ?_ ?_
  ·
   exact fun w h => by
     dsimp only
     rw [numK, List.append_nil]
     exact h
  ·
   rintro ⟨⟨i, m⟩, ⟨hi0, hi1⟩⟩; try dsimp only
   have hi0 : i ≤ k := hi0; have hi1 : m.toNat = z.toNat / 2 ^ (8 * i) := hi1
   refine wpc_seq <| wpc_region <| wpl_q (q_pure rfl) rfl <| wpl_nil <| ex_then <| wpc_seq ?_
   refine wpc_cond rfl (fun hc12 => ?_) (fun hc12 => ?_)
   ·
    simp only [decide_eq_true_eq] at hc12
    have hik : i < k := by omega
    have hrl : (List.replicate (k - i) (0 : UInt8) ++ numK i z.toNat).length = k := by rw [List.length_append, List.length_replicate, numK_len]; omega
    refine wpc_skip <| ex_then <| wpc_seq <| wpc_block <| wpc_seq <| wpc_region <| wpl_q (q_pure rfl) rfl <| wpl_q (q_pure rfl) rfl <| wpl_nil <| ex_then <| wpc_seq <| wpc_region ?_
    refine wpl_q (q_pure rfl) rfl <| wpl_q (q_pure rfl) rfl ?_
    refine wpl_q (q_subN (b := 1) rfl rfl zz13 zz2) rfl ?_
    refine wpl_q (q_pure rfl) rfl ?_
    refine wpl_q (q_subN rfl rfl zz13 zz2) rfl ?_
    refine wpl_q (q_pure rfl) rfl <| wpl_q (q8_conv Tryd.underlying22 Tryd.underlying5 rfl) rfl ?_
    refine wpl_q (q_idxW1 Tryd.underlying32 Tryd.ti5 rfl rfl zz4 zz2) rfl ?_
    refine wpl_t0 (t_stW Tryd.ti5 rfl rfl rfl (by rw [v8s_length, hrl]; omega) _ ((v8s_set _).trans (congrArg v8s (show _ = List.replicate (k - (i + 1)) (0 : UInt8) ++ numK (i + 1) z.toNat by rw [numK_cons, ← hi1, show k - 1 - i = k - (i + 1) from zz13, show k - i = k - (i + 1) + 1 from zz13, rep_set])))) (fun _ => ?_)
    refine wpl_nil <| ex_then <| wpc_region <| wpl_q (q_pure rfl) rfl ?_
    refine wpl_q (q64_shr rfl rfl zz30 8 rfl) rfl ?_
    refine wpl_q (q_pure rfl) rfl <| wpl_nil <| ex_block <| ex_then <| wpc_region ?_
    refine wpl_q (q_addN (b := 1) rfl rfl zz2) rfl ?_
    refine wpl_q (q_pure rfl) rfl <| wpl_nil ?_
    refine ex_again ⟨(i + 1, sr64 m 8), ⟨by dsimp only; omega, by rw [div_pow, ← hi1]; exact sr64_8 m⟩⟩ ?_ ?_ ?_
    ·
     exact zz12
    ·
     exact fun w h => h
    ·
     (show k - (i + 1) < k - i); omega
   ·
    simp only [decide_eq_false_iff_not] at hc12
    obtain rfl : i = k := by omega
    rw [Nat.sub_self, List.replicate_zero, List.nil_append]
    refine wpc_exit ?_
    refine ex_then_exit ?_
    refine ex_then_exit ?_
    refine ex_block_hit ?_
    refine ex_then <| wpc_seq <| wpc_region <| wpl_q (q_pure rfl) rfl <| wpl_q (q_pure rfl) rfl <| wpl_nil <| ex_then <| wpc_ret ?_
    refine ret1 (.inl rfl) rfl rfl ?_
    exact fun w h => ⟨b8, p8, rfl, h.below, h.made SubC.h .nil⟩
theorem shorts (cv : Value) (l : List (List UInt8)) (w : World) (hcv : Seen w.cell? cv l.length 16 (v8s l.flatten)) (hll : ∀ x ∈ l, x.length = 16) (hlim : l.length ≤ 1000) :
    Calls Tryd.prog 77 [cv].toArray w (GivesP w (fun v => SV v (l.length * 16)) (fun v => v) (fun v => [.row v (l.length * 16) 5 1 (v8s l.flatten)]) (fun _ => [])) := by
  have scv := hcv.sv
  have lcv := scv.le
  simp only [maxLen] at lcv
  refine enter (m := 17) (R := Mem w [] [] []) Tryd.func77 rfl rfl (Nat.le_of_ble_eq_true rfl) (Mem.start w) ?_
  refine wpc_seq <| wpc_region <| wpl_q (q_pure rfl) rfl <| wpl_nil <| ex_then <| wpc_seq <| wpc_region <| wpl_q (q_pure rfl) rfl <| wpl_nil <| ex_then <| wpc_seq <| wpc_seq ?_
  refine wpc_region <| wpl_q (q_pure rfl) rfl ?_
  refine wpl_q (q_lenW Tryd.underlying64 rfl zz4) rfl ?_
  refine wpl_q (q_pure rfl) rfl <| wpl_nil <| ex_then <| wpc_block ?_
  refine wpc_loopc (ι := { x : Nat × Value // (x.1 ≤ l.length) ∧ (SV x.2 (x.1 * 16)) }) [(6, _), (7, _)] (fun x Lc => (8, .int .i64 ((x.1.1 : Nat) : Int)) :: (3, x.1.2) :: Lc) (fun x => Mem w [] [.row x.1.2 (x.1.1 * 16) 5 1 (v8s (l.take x.1.1).flatten)] []) (fun x => l.length - x.1.1) ⟨(0, .slice none 0 0), ⟨Nat.zero_le _, SV.nil⟩⟩ zz12 ?_ ?_
  ·
   exact fun w h => by
     dsimp only
     rw [List.take_zero]
     exact h.nilRow 5 1
  ·
   rintro ⟨⟨i, v⟩, ⟨hi0, hi1⟩⟩; try dsimp only
   have hi0 : i ≤ l.length := hi0; have hi1 : SV v (i * 16) := hi1
   refine wpc_seq <| wpc_region <| wpl_q (q_pure rfl) rfl <| wpl_nil <| ex_then <| wpc_seq ?_
   refine wpc_cond rfl (fun hc9 => ?_) (fun hc9 => ?_)
   ·
    simp only [decide_eq_true_eq] at hc9
    have hil : i < l.length := by omega
    have hgl : (l.getD i []).length = 16 := getD_mem_len hll hil
    refine wpc_skip <| ex_then <| wpc_seq <| wpc_block <| wpc_seq <| wpc_region ?_
    refine wpl_q (q_idxW Tryd.underlying64 Tryd.ti61 rfl rfl zz4 zz2) rfl ?_
    refine wpl_q (q_ldWN Tryd.underlying61 rfl Tryd.ti61 rfl (fun w h => zz9) (v8s (l.getD i [])) (get16 hll hil) (by rw [v8s_length]; exact hgl)) rfl ?_
    refine wpl_t (t_alloc Tryd.ti61 (v8s (List.replicate 16 0)) rfl) rfl (fun b5 => ?_)
    refine wpl_t0 (t_stA Tryd.ti61 rfl rfl (by rw [v8s_length]; exact hgl) (v8s_one _) zz39) (fun _ => ?_)
    refine wpl_nil <| ex_then <| wpc_region <| wpl_q (q_pure rfl) rfl <| wpl_q (q_arAll Tryd.underlying61 Tryd.ti5 rfl rfl) rfl ?_
    refine wpl_tp (t_apW Tryd.underlying32 Tryd.ti5 rfl zz17 rfl rfl (fun w h => h.seenA zz17 (by rw [v8s_length, hgl])) (v8s_one _) zz2 zz2 (v8s (l.take (i + 1)).flatten) (by rw [flat_take hll hil]; exact (v8s_append _ _).symm)) rfl (fun b14 p14 => ?_)
    refine wpl_q (q_pure rfl) rfl <| wpl_nil <| ex_block <| ex_then <| wpc_region ?_
    refine wpl_q (q_addN (b := 1) rfl rfl zz2) rfl ?_
    refine wpl_q (q_pure rfl) rfl <| wpl_nil ?_
    refine ex_again ⟨(i + 1, b14), ⟨by dsimp only; omega, by rw [Nat.add_mul]; exact p14⟩⟩ ?_ ?_ ?_
    ·
     exact zz12
    ·
     exact fun w h => by
       dsimp only
       rw [Nat.add_mul]
       exact h.sel
    ·
     (show l.length - (i + 1) < l.length - i); omega
   ·
    simp only [decide_eq_false_iff_not] at hc9
    obtain rfl : i = l.length := by omega
    rw [List.take_length]
    refine wpc_exit ?_
    refine ex_then_exit ?_
    refine ex_then_exit ?_
    refine ex_block_hit ?_
    refine ex_then <| wpc_seq <| wpc_region <| wpl_q (q_pure rfl) rfl <| wpl_q (q_pure rfl) rfl <| wpl_nil <| ex_then <| wpc_ret ?_
    refine ret1 (.inl rfl) rfl rfl ?_
    exact fun w h => ⟨v, hi1, rfl, h.below, h.made SubC.h .nil⟩
end Go.Proofs.YtjpfhkjmjnjggaaDoor
namespace Go.Proofs.YtjpfhkjmjnjggaaDoor
open Go Go.PL Go.RowKit
theorem mem_trim0 {w0 w : World} {Ln : List Nat} {M : List Ent} {v : Value} {m : Nat} {e : TypeId} {sz : Nat} {xs : List Value} (h : Mem w0 Ln (.row v m e sz xs :: M) [] w) (hm : 0 < m) : Mem w0 Ln (.row (slv v 0 0 sz) 0 e sz [] :: M) [] w := by
  have ho := h.own _ (List.mem_cons_self ..)
  obtain ⟨hl, ho | ⟨g, cap, cur, rfl, hb, hg, hn, hc, hs, ht⟩⟩ := ho
  · omega
  have e1 : slv (.slice (some ⟨g, 0, none⟩) m cap) 0 0 sz = .slice (some ⟨g, 0, none⟩) 0 cap := by simp [slv, sliced]; intro _; rfl
  rw [e1]
  refine ⟨h.os, h.tape, h.output, h.size, h.old, fun e he => ?_, fun e he => ?_, ?_, zz38⟩
  · rcases List.mem_cons.1 he with rfl | he
    · exact ⟨zz38, .inr ⟨g, cap, cur, rfl, hb, hg, Nat.zero_le _, hc, hs, zz38⟩⟩
    · exact h.own _ (List.mem_cons_of_mem _ he)
  · rcases List.mem_cons.1 he with rfl | he
    · exact fun k hk => h.new (.row (.slice (some ⟨g, 0, none⟩) m cap) m e sz xs) (List.mem_cons_self ..) k hk
    · exact h.new _ (List.mem_cons_of_mem _ he)
  · have := h.apart
    rw [List.pairwise_cons] at this ⊢
    exact ⟨fun f hf k hk => this.1 f hf k hk, this.2⟩
def PartsK (r : Rd) (v : Value) (ps : List (Value × List UInt8)) : Prop := Seen r v ps.length 1 (ps.map Prod.fst) ∧ ∀ q ∈ ps, Seen r q.1 q.2.length 1 (v8s q.2)
def flatK (ps : List (Value × List UInt8)) (i : Nat) : List UInt8 := ((ps.take i).map Prod.snd).flatten
theorem flatK_succ (ps : List (Value × List UInt8)) (i : Nat) (h : i < ps.length) : flatK ps (i + 1) = flatK ps i ++ (ps.getD i (undef, [])).2 := by
  unfold flatK
  rw [List.take_add_one, List.getD_eq_getElem?_getD, List.getElem?_eq_getElem h, List.map_append, List.flatten_append]
  show _ ++ ([(ps[i]).2] : List (List UInt8)).flatten = _ ++ (ps[i]).2
  simp
theorem flatK_le (ps : List (Value × List UInt8)) (i : Nat) (h : i < ps.length) : (flatK ps i).length + (ps.getD i (undef, [])).2.length ≤ (flatK ps ps.length).length := by
  have e : flatK ps ps.length = flatK ps (i + 1) ++ ((ps.drop (i + 1)).map Prod.snd).flatten := by
    unfold flatK
    rw [← List.flatten_append, ← List.map_append, List.take_append_drop, List.take_length]
  rw [e, flatK_succ ps i h, List.length_append, List.length_append]; omega
theorem flatK_2 (a b : Value × List UInt8) : flatK [a, b] [a, b].length = a.2 ++ b.2 := by simp [flatK]
theorem getD_memK (ps : List (Value × List UInt8)) (i : Nat) (h : i < ps.length) : ps.getD i (undef, []) ∈ ps := by
  rw [List.getD_eq_getElem?_getD, List.getElem?_eq_getElem h]; exact List.getElem_mem h
theorem fst_get (ps : List (Value × List UInt8)) (i : Nat) (h : i < ps.length) : (ps.map Prod.fst)[i]? = some (ps.getD i (undef, [])).1 := by
  rw [List.getElem?_map, List.getD_eq_getElem?_getD, List.getElem?_eq_getElem h]; rfl
theorem grow (n : Nat) (w : World)  (hn : n ≤ 100000) :
    Calls Tryd.prog 109 [.slice none 0 0, .int .i64 ((n : Nat) : Int)].toArray w (GivesP w (fun v => SV v 0) (fun v => v) (fun v => [.row v 0 5 1 []]) (fun _ => [])) := by
  refine enter (m := 27) (R := Mem w [] [] []) Tryd.func109 rfl rfl (Nat.le_of_ble_eq_true rfl) (Mem.start w) ?_
  refine wpc_seq <| wpc_region <| wpl_q (q_pure rfl) rfl <| wpl_nil <| ex_then <| wpc_seq <| wpc_seq <| wpc_region <| wpl_q (q_pure rfl) rfl <| wpl_q (q_pure rfl) rfl <| wpl_nil <| ex_then ?_
  refine wpc_cond rfl (fun hc6 => ?_) (fun hc6 => ?_)
  ·
   simp only [decide_eq_true_eq] at hc6; omega
  ·
   refine wpc_skip <| ex_then <| wpc_seq <| wpc_seq <| wpc_region <| wpl_q (q_pure rfl) rfl <| wpl_q (q_pure rfl) rfl <| wpl_q (q_capW Tryd.underlying32 rfl) rfl <| wpl_q (q_pure rfl) rfl ?_
   refine wpl_q (q_lenW Tryd.underlying32 rfl zz4) rfl ?_
   first | refine wpl_q (qop_eq (q_pure rfl) (congrArg (Value.int .i64) (wk_i64 zz13 zz13))) rfl ?_ | refine wpl_q (q_pure rfl) rfl ?_
   first | refine wpl_q (qop_eq (q_pure rfl) (congrArg (Value.int .i64) (wk_i64 zz13 zz13))) rfl ?_ | refine wpl_q (q_pure rfl) rfl ?_
   refine wpl_q (q_pure rfl) rfl ?_
   refine wpl_re 1 rfl (show _ = Value.int .i64 ((n : Nat) : Int) from congrArg (Value.int .i64) zz13) ?_
   refine wpl_nil <| ex_then <| wpc_seq <| wpc_region <| wpl_q (q_pure rfl) rfl <| wpl_q (q_pure rfl) rfl <| wpl_nil <| ex_then ?_
   refine wpc_cond rfl (fun hc16 => ?_) (fun hc16 => ?_)
   ·
    simp only [decide_eq_true_eq, gt_iff_lt] at hc16
    have h0 : 0 < n := by omega
    refine wpc_region <| wpl_q (q_pure rfl) rfl <| wpl_q (q_pure rfl) rfl <| wpl_q (q_capW Tryd.underlying32 rfl) rfl ?_
    refine wpl_q (q_slWh Tryd.underlying32 Tryd.ti5 rfl rfl zz4 zz13) rfl ?_
    refine wpl_q (q_pure rfl) rfl ?_
    refine wpl_tp (t_apZ Tryd.underlying32 Tryd.underlying3 Tryd.ti5 rfl zz17 rfl rfl h0 (by simp only [maxLen]; omega) zz13 _ rfl) rfl (fun b22 p22 => ?_)
    refine wpl_q (q_pure rfl) rfl ?_
    refine wpl_q (q_lenW Tryd.underlying32 rfl zz4) rfl ?_
    refine wpl_q (q_slWh Tryd.underlying32 Tryd.ti5 rfl rfl zz4 zz13) rfl ?_
    refine wpl_q (q_pure rfl) rfl <| wpl_nil <| ex_then <| wpc_seq <| wpc_region <| wpl_q (q_pure rfl) rfl <| wpl_q (q_pure rfl) rfl <| wpl_nil <| ex_then <| wpc_ret ?_
    refine ret1 (.inl rfl) rfl rfl ?_
    exact fun w h => ⟨slv b22 0 0 1, SV.slv (l := 0) (k := 0) (sz := 1) p22 zz13 zz13, rfl, h.below, (mem_trim0 h h0).made SubC.h .nil⟩
   ·
    simp only [decide_eq_false_iff_not, gt_iff_lt] at hc16
    refine wpc_skip <| ex_then <| wpc_seq <| wpc_region <| wpl_q (q_pure rfl) rfl <| wpl_q (q_pure rfl) rfl <| wpl_nil <| ex_then <| wpc_ret ?_
    refine ret1 (.inl rfl) rfl rfl ?_
    exact fun w h => ⟨.slice none 0 0, SV.nil, rfl, h.below, (h.nilRow 5 1).made zz8 .nil⟩
theorem concat (pv : Value) (ps : List (Value × List UInt8)) (w : World) (hP : PartsK w.cell? pv ps) (hlim : (flatK ps ps.length).length ≤ 100000) :
    Calls Tryd.prog 92 [pv].toArray w (GivesP w (fun v => SV v (flatK ps ps.length).length) (fun v => v) (fun v => [.row v (flatK ps ps.length).length 5 1 (v8s (flatK ps ps.length))]) (fun _ => [])) := by
  have spv := hP.1.sv
  have lpv := spv.le
  simp only [maxLen] at lpv
  refine enter (m := 36) (R := Mem w [] [] []) Tryd.func92 rfl rfl (Nat.le_of_ble_eq_true rfl) (Mem.start w) ?_
  refine wpc_seq <| wpc_region <| wpl_q (q_pure rfl) rfl <| wpl_nil <| ex_then <| wpc_seq <| wpc_region <| wpl_q (q_pure rfl) rfl ?_
  first | refine wpl_re 3 rfl (congrArg (fun n : Nat => Value.int .i64 (n : Int)) hfs) ?_ | skip
  refine wpl_nil <| ex_then <| wpc_seq <| wpc_seq <| wpc_region <| wpl_q (q_pure rfl) rfl ?_
  refine wpl_q (q_lenW Tryd.underlying160 rfl zz4) rfl ?_
  refine wpl_q (q_pure rfl) rfl <| wpl_nil <| ex_then <| wpc_block ?_
  refine wpc_loopc (ι := { x : Nat // (x ≤ ps.length) }) [(0, _), (9, _), (10, _)] (fun x Lc => (11, .int .i64 ((x.1 : Nat) : Int)) :: (3, .int .i64 (((flatK ps x.1).length : Nat) : Int)) :: Lc) (fun x => Mem w [] [] []) (fun x => ps.length - x.1) ⟨0, zz31⟩ zz12 ?_ ?_
  ·
   exact fun w h => h
  ·
   rintro ⟨i, hi0⟩; try dsimp only
   have hi0 : i ≤ ps.length := hi0
   refine wpc_seq <| wpc_region <| wpl_q (q_pure rfl) rfl <| wpl_nil <| ex_then <| wpc_seq ?_
   refine wpc_cond rfl (fun hc12 => ?_) (fun hc12 => ?_)
   ·
    simp only [decide_eq_true_eq] at hc12
    have hi : i < ps.length := by omega
    have hle := flatK_le ps i hi
    have hsq := hP.2 _ (getD_memK ps i hi)
    have ssq := hsq.sv
    have hfs : (flatK ps i).length + (ps.getD i (undef, [])).2.length = (flatK ps (i + 1)).length := by rw [flatK_succ ps i hi, List.length_append]
    refine wpc_skip <| ex_then <| wpc_seq <| wpc_block <| wpc_seq <| wpc_region ?_
    refine wpl_q (q_idxW1 Tryd.underlying160 Tryd.ti32 rfl rfl zz4 zz2) rfl ?_
    refine wpl_q (q_ldW Tryd.underlying32 rfl rfl (fun w h => h.seen_old hP.1) (fst_get ps i hi)) rfl ?_
    refine wpl_q (q_pure rfl) rfl <| wpl_nil <| ex_then <| wpc_seq <| wpc_region <| wpl_q (q_pure rfl) rfl <| wpl_q (q_pure rfl) rfl ?_
    refine wpl_q (q_lenW Tryd.underlying32 rfl zz4) rfl ?_
    refine wpl_q (q_addN rfl rfl zz2) rfl ?_
    refine wpl_q (q_pure rfl) rfl ?_
    first | refine wpl_re 3 rfl (congrArg (fun n : Nat => Value.int .i64 (n : Int)) hfs) ?_ | skip
    refine wpl_nil <| ex_then <| wpc_seq <| wpc_region <| wpl_q (q_pure rfl) rfl <| wpl_q (q_pure rfl) rfl <| wpl_nil <| ex_then ?_
    refine wpc_cond rfl (fun hc20 => ?_) (fun hc20 => ?_)
    ·
     simp only [decide_eq_true_eq] at hc20; omega
    ·
     refine wpc_skip <| ex_block <| ex_then <| wpc_region ?_
     refine wpl_q (q_addN (b := 1) rfl rfl zz2) rfl ?_
     refine wpl_q (q_pure rfl) rfl <| wpl_nil ?_
     refine ex_again ⟨i + 1, zz31⟩ ?_ ?_ ?_
     ·
      exact zz12
     ·
      exact fun w h => by first | exact h | exact h.sub SubC.h SubC.h | exact h.sub zz8 zz8
     ·
      (show ps.length - (i + 1) < ps.length - i); omega
   ·
    simp only [decide_eq_false_iff_not] at hc12
    obtain rfl : i = ps.length := by omega
    refine wpc_exit ?_
    refine ex_then_exit ?_
    refine ex_then_exit ?_
    refine ex_block_hit ?_
    refine ex_then <| wpc_seq <| wpc_region <| wpl_q (q_pure rfl) rfl ?_
    refine wpl_tp (t_callP1 Tryd.hb109 rfl fun w h => grow _ w hlim) rfl (fun b24 p24 => ?_)
    refine wpl_q (q_pure rfl) rfl <| wpl_nil <| ex_then <| wpc_seq <| wpc_seq <| wpc_region <| wpl_q (q_pure rfl) rfl ?_
    refine wpl_q (q_lenW Tryd.underlying160 rfl zz4) rfl ?_
    refine wpl_q (q_pure rfl) rfl <| wpl_nil <| ex_then <| wpc_block ?_
    refine wpc_loopc (ι := { x : Nat × Value // (x.1 ≤ ps.length) ∧ (SV x.2 (flatK ps x.1).length) }) [(25, _), (26, _)] (fun x Lc => (27, .int .i64 ((x.1.1 : Nat) : Int)) :: (6, x.1.2) :: Lc) (fun x => Mem w [] [.row x.1.2 (flatK ps x.1.1).length 5 1 (v8s (flatK ps x.1.1))] []) (fun x => ps.length - x.1.1) ⟨(0, b24), ⟨Nat.zero_le _, p24⟩⟩ zz12 ?_ ?_
    ·
     exact fun w h => h
    ·
     rintro ⟨⟨i, v⟩, ⟨hi0, hi1⟩⟩; try dsimp only
     have hi0 : i ≤ ps.length := hi0; have hi1 : SV v (flatK ps i).length := hi1
     refine wpc_seq <| wpc_region <| wpl_q (q_pure rfl) rfl <| wpl_nil <| ex_then <| wpc_seq ?_
     refine wpc_cond rfl (fun hc28 => ?_) (fun hc28 => ?_)
     ·
      simp only [decide_eq_true_eq] at hc28
      have hi : i < ps.length := by omega
      have hle := flatK_le ps i hi
      have hsq := hP.2 _ (getD_memK ps i hi)
      have ssq := hsq.sv
      refine wpc_skip <| ex_then <| wpc_seq <| wpc_block <| wpc_seq <| wpc_region ?_
      refine wpl_q (q_idxW1 Tryd.underlying160 Tryd.ti32 rfl rfl zz4 zz2) rfl ?_
      refine wpl_q (q_ldW Tryd.underlying32 rfl rfl (fun w h => h.seen_old hP.1) (fst_get ps i hi)) rfl ?_
      refine wpl_q (q_pure rfl) rfl <| wpl_nil <| ex_then <| wpc_region <| wpl_q (q_pure rfl) rfl <| wpl_q (q_pure rfl) rfl ?_
      refine wpl_tp (t_apW Tryd.underlying32 Tryd.ti5 rfl zz17 rfl rfl (fun w h => h.seen_old hsq) (v8s_one _) zz2 zz2 (v8s (flatK ps i ++ (ps.getD i (undef, [])).2)) (by rw [v8s_append])) rfl (fun b33 p33 => ?_)
      refine wpl_q (q_pure rfl) rfl <| wpl_nil <| ex_block <| ex_then <| wpc_region ?_
      refine wpl_q (q_addN (b := 1) rfl rfl zz2) rfl ?_
      refine wpl_q (q_pure rfl) rfl <| wpl_nil ?_
      refine ex_again ⟨(i + 1, b33), ⟨zz13, by rw [flatK_succ ps i hi, List.length_append]; exact p33⟩⟩ ?_ ?_ ?_
      ·
       exact zz12
      ·
       exact fun w h => by dsimp only; rw [flatK_succ ps i hi, List.length_append]; exact h.sub SubC.h SubC.h
      ·
       (show ps.length - (i + 1) < ps.length - i); omega
     ·
      simp only [decide_eq_false_iff_not] at hc28
      obtain rfl : i = ps.length := by omega
      refine wpc_exit ?_
      refine ex_then_exit ?_
      refine ex_then_exit ?_
      refine ex_block_hit ?_
      refine ex_then <| wpc_seq <| wpc_region <| wpl_q (q_pure rfl) rfl <| wpl_q (q_pure rfl) rfl <| wpl_nil <| ex_then <| wpc_ret ?_
      refine ret1 (.inl rfl) rfl rfl ?_
      exact fun w h => ⟨v, hi1, rfl, h.below, h.made SubC.h .nil⟩
theorem joinB (pv : Value) (ps : List (Value × List UInt8)) (w : World) (hP : PartsK w.cell? pv ps) (hlim : (flatK ps ps.length).length ≤ 100000) :
    Calls Tryd.prog 73 [pv].toArray w (GivesP w (fun v => SV v (flatK ps ps.length).length) (fun v => v) (fun v => [.row v (flatK ps ps.length).length 5 1 (v8s (flatK ps ps.length))]) (fun _ => [])) := by
  refine enter (m := 5) (R := Mem w [] [] []) Tryd.func73 rfl rfl (Nat.le_of_ble_eq_true rfl) (Mem.start w) ?_
  refine wpc_seq <| wpc_region <| wpl_q (q_pure rfl) rfl <| wpl_nil <| ex_then <| wpc_seq <| wpc_region <| wpl_q (q_pure rfl) rfl ?_
  refine wpl_tp (t_callP1 Tryd.hb92 rfl fun w h => concat pv ps w ⟨h.seen_old hP.1, fun q hq => h.seen_old (hP.2 q hq)⟩ hlim) rfl (fun b4 p4 => ?_)
  refine wpl_q (q_pure rfl) rfl <| wpl_nil <| ex_then <| wpc_ret ?_
  refine ret1 (.inl rfl) rfl rfl ?_
  exact fun w h => ⟨b4, p4, rfl, h.below, h.made SubC.h .nil⟩
end Go.Proofs.YtjpfhkjmjnjggaaDoor
namespace Go.Proofs.YtjpfhkjmjnjggaaDoor
open Go Go.PL Go.RowKit
theorem get_one {L : Slots} {d : Nat} {v : Value} (h : get L d = some v) : ∀ t u, get [(d, v)] t = some u → get L t = some u := by
  intro t u ht
  rw [get_cons] at ht
  split at ht
  · rename_i e
    cases ht
    rw [← e]; exact h
  · cases ht
theorem seenR {w0 w : World} {Ln : List Nat} {M : List Ent} {S : List Fact} (h : Mem w0 Ln M S w) {v : Value} {m : Nat} {e : TypeId} {sz : Nat} {xs : List Value} (hm : Ent.row v m e sz xs ∈ M) : Seen w.cell? v m sz xs := h.seen_row hm
theorem word32 (x : UInt32) (w : World) : Calls Tryd.prog 74 [.int .u64 ((of64 ((x.toNat : Nat) : Int)).toNat : Int), .int .i64 4].toArray w (GivesP w (fun v => SV v 4) (fun v => v) (fun v => [.row v 4 5 1 (v8s (numK 4 x.toNat))]) (fun _ => [])) := by
  have q := wordB (of64 ((x.toNat : Nat) : Int)) 4 w zz17
  have e : (of64 ((x.toNat : Nat) : Int)).toNat = x.toNat := of64_nat _ (by have := x.toNat_lt; omega)
  clear q
  generalize of64 ((x.toNat : Nat) : Int) = z at e ⊢
  have q := wordB z 4 w zz17
  rw [e] at q ⊢
  exact q
def headB (h : Hop) : List UInt8 := numK 4 h.to.toNat ++ (numK 4 h.sy.toNat ++ ([h.cnt, h.fl] ++ (h.root.1 ++ [of8 h.ht])))
theorem headFlat (h : Hop) (a b c d e : Value) : flatK [(a, numK 4 h.to.toNat), (b, numK 4 h.sy.toNat), (c, [h.cnt, h.fl]), (d, [h.root.1].flatten), (e, [of8 h.ht])] [(a, numK 4 h.to.toNat), (b, numK 4 h.sy.toNat), (c, [h.cnt, h.fl]), (d, [h.root.1].flatten), (e, [of8 h.ht])].length = headB h := by simp [flatK, headB]
theorem headB_len (h : Hop) : (headB h).length = 27 := by simp [headB, numK_len, h.root.2]
theorem head (hp : Hop) (w : World) (hsv : hp.sv)  :
    Calls Tryd.prog 75 [.agg hp.c.toArray].toArray w (GivesP w (fun v => SV v 27) (fun v => v) (fun v => [.row v 27 5 1 (v8s (headB hp))]) (fun _ => [])) := by
  haveI := hsv.one
  refine enter (m := 28) (R := Mem w [] [] []) Tryd.func75 rfl rfl (Nat.le_of_ble_eq_true rfl) (Mem.start w) ?_
  refine wpc_seq <| wpc_region ?_
  refine wpl_t (t_box rfl hp.c rfl) rfl (fun b1 => ?_)
  refine wpl_q (q_pure rfl) rfl <| wpl_nil <| ex_then <| wpc_seq ?_
  refine wpc_draw 99 zz6 (fun _ h => h.drew) ?_
  refine wpd_p 0 rfl zz6 trivial (q_field Tryd.underlying68 rfl Tryd.ti49 rfl rfl _ rfl) rfl sk0 ?_
  refine wpd_q 1 rfl zz6 trivial (q_ld Tryd.underlying49 rfl rfl hp.c_to) rfl (fun _ h => h) ?_
  refine wpd_p 2 rfl zz6 trivial (q64_conv Tryd.underlying49 Tryd.underlying22 rfl) rfl sk0 ?_
  refine wpd_p 4 rfl zz6 trivial (q_field Tryd.underlying68 rfl Tryd.ti49 rfl rfl _ rfl) rfl sk0 ?_
  refine wpd_q 5 rfl zz6 trivial (q_ld Tryd.underlying49 rfl rfl hp.c_sy) rfl (fun _ h => h) ?_
  refine wpd_p 6 rfl zz6 trivial (q64_conv Tryd.underlying49 Tryd.underlying22 rfl) rfl sk0 ?_
  refine wpd_p 8 rfl zz6 trivial (q_field Tryd.underlying68 rfl Tryd.ti5 rfl rfl _ rfl) rfl sk0 ?_
  refine wpd_q 9 rfl zz6 trivial (q_ld Tryd.underlying5 rfl rfl hp.c_cnt) rfl (fun _ h => h) ?_
  refine wpd_p 10 rfl zz6 trivial (q_field Tryd.underlying68 rfl Tryd.ti5 rfl rfl _ rfl) rfl sk0 ?_
  refine wpd_q 11 rfl zz6 trivial (q_ld Tryd.underlying5 rfl rfl hp.c_fl) rfl (fun _ h => h) ?_
  refine wpd_p 13 rfl zz6 trivial (q_field Tryd.underlying68 rfl Tryd.ti63 rfl rfl _ rfl) rfl sk0 ?_
  refine wpd_p 14 rfl zz6 trivial (q_field Tryd.underlying63 rfl Tryd.ti61 rfl rfl _ rfl) rfl sk0 ?_
  refine wpd_q 15 rfl zz6 trivial (q_ldP Tryd.underlying61 rfl Tryd.ti61 rfl (v8s hp.root.1) hp.c_root (S16.len _)) rfl (fun _ h => h) ?_
  refine wpd_p 18 rfl zz6 trivial (q_field Tryd.underlying68 rfl Tryd.ti63 rfl rfl _ rfl) rfl sk0 ?_
  refine wpd_p 19 rfl zz6 trivial (q_field Tryd.underlying63 rfl Tryd.ti3 rfl rfl _ rfl) rfl sk0 ?_
  refine wpd_q 20 rfl zz6 trivial (q_ld Tryd.underlying3 rfl rfl hp.c_ht) rfl (fun _ h => h) ?_
  refine wpd_p 21 rfl zz6 trivial (q8_conv Tryd.underlying3 Tryd.underlying5 rfl) rfl sk0 ?_
  refine wpd_makers (lf := #[true, true, true, true, true, true, true, true, true, true, true, true, true, true, true, true, true, true, true, true, true, true, true, false, false, false]) [0, 1, 2, 4, 5, 6, 8, 9, 10, 11, 13, 14, 15, 18, 19, 20, 21] [⟨3, 6, [], (fun _ v => SV v 4), (fun _ v => .row v 4 5 1 (v8s (numK 4 hp.to.toNat)))⟩, ⟨7, 10, [], (fun _ v => SV v 4), (fun _ v => .row v 4 5 1 (v8s (numK 4 hp.sy.toNat)))⟩, ⟨12, 15, [], (fun _ v => SV v 2), (fun _ v => .row v 2 5 1 (v8s [hp.cnt, hp.fl]))⟩, ⟨16, 19, [], (fun _ v => SV v 1), (fun _ v => .row v 1 61 16 (v8s [hp.root.1].flatten))⟩, ⟨17, 20, [16], (fun _ v => SV v 16), (fun _ v => .row v 16 5 1 (v8s [hp.root.1].flatten))⟩, ⟨22, 25, [], (fun _ v => SV v 1), (fun _ v => .row v 1 5 1 (v8s [of8 hp.ht]))⟩] 6 rfl zz6 zz27 (fun σ w h => h.sub (sub_app _ _) (Sub.refl _)) ?_ ?_
  ·
   intro m hm o ho σ hσ hd
   simp only [List.mem_cons, List.not_mem_nil, or_false] at hm
   rcases hm with rfl | rfl | rfl | rfl | rfl | rfl
   ·
    obtain rfl := Option.some.inj ho
    show TOpP _ _ _ _ _ _ Value (fun v => SV v 4) (fun v => v) (fun v => Mem _ _ (.row v 4 5 1 (v8s (numK 4 hp.to.toNat)) :: _) _)
    exact TOpP.weakL (fun t u hh => slots_base t hh _ zz27) (t_callP1 Tryd.hb74 rfl fun w h => word32 hp.to w)
   ·
    obtain rfl := Option.some.inj ho
    show TOpP _ _ _ _ _ _ Value (fun v => SV v 4) (fun v => v) (fun v => Mem _ _ (.row v 4 5 1 (v8s (numK 4 hp.sy.toNat)) :: _) _)
    exact TOpP.weakL (fun t u hh => slots_base t hh _ zz27) (t_callP1 Tryd.hb74 rfl fun w h => word32 hp.sy w)
   ·
    obtain rfl := Option.some.inj ho
    show TOpP _ _ _ _ _ _ Value (fun v => SV v 2) (fun v => v) (fun v => Mem _ _ (.row v 2 5 1 (v8s [hp.cnt, hp.fl]) :: _) _)
    exact TOpP.weakL (fun t u hh => slots_base t hh _ zz27) (t_bsV (v8s [hp.cnt, hp.fl]) Tryd.underlying32 Tryd.ti5 rfl rfl zz17 zz17 rfl (v8s_one _))
   ·
    obtain rfl := Option.some.inj ho
    show TOpP _ _ _ _ _ _ Value (fun v => SV v 1) (fun v => v) (fun v => Mem _ _ (.row v 1 61 16 (v8s [hp.root.1].flatten) :: _) _)
    exact TOpP.weakL (fun t u hh => slots_base t hh _ zz27) (t_bsS [hp.root.1] Tryd.underlying64 Tryd.ti61 rfl zz17 rfl zz17 zz17 rfl (all_one hp.root.2))
   ·
    obtain rfl := Option.some.inj ho
    show TOpP _ _ _ _ _ _ Value (fun v => SV v 16) (fun v => v) (fun v => Mem _ _ (.row v 16 5 1 (v8s [hp.root.1].flatten) :: _) _)
    have m19 : (⟨16, 19, [], (fun _ v => SV v 1), (fun _ v => .row v 1 61 16 (v8s [hp.root.1].flatten))⟩ : Mk) ∈ [⟨3, 6, [], (fun _ v => SV v 4), (fun _ v => .row v 4 5 1 (v8s (numK 4 hp.to.toNat)))⟩, ⟨7, 10, [], (fun _ v => SV v 4), (fun _ v => .row v 4 5 1 (v8s (numK 4 hp.sy.toNat)))⟩, ⟨12, 15, [], (fun _ v => SV v 2), (fun _ v => .row v 2 5 1 (v8s [hp.cnt, hp.fl]))⟩, ⟨16, 19, [], (fun _ v => SV v 1), (fun _ v => .row v 1 61 16 (v8s [hp.root.1].flatten))⟩, ⟨17, 20, [16], (fun _ v => SV v 16), (fun _ v => .row v 16 5 1 (v8s [hp.root.1].flatten))⟩, ⟨22, 25, [], (fun _ v => SV v 1), (fun _ v => .row v 1 5 1 (v8s [of8 hp.ht]))⟩] := List.mem_cons_of_mem _ (List.mem_cons_of_mem _ (List.mem_cons_of_mem _ (List.mem_cons_self ..)))
    obtain ⟨v19, h19⟩ := Option.isSome_iff_exists.1 (hd 16 zz38)
    exact TOpP.weakL (L' := [(19, v19)]) (get_one (slots_mk h19 _ (apartB_spec (by rfl)) m19)) (t_callP1 Tryd.hb77 rfl fun w h => shorts v19 [hp.root.1] w (seenR h (List.mem_append_left _ (ents_mk h19 _ m19))) (all_one hp.root.2) (show 1 ≤ 1000 from zz17))
   ·
    obtain rfl := Option.some.inj ho
    show TOpP _ _ _ _ _ _ Value (fun v => SV v 1) (fun v => v) (fun v => Mem _ _ (.row v 1 5 1 (v8s [of8 hp.ht]) :: _) _)
    exact TOpP.weakL (fun t u hh => slots_base t hh _ zz27) (t_bsV (v8s [of8 hp.ht]) Tryd.underlying32 Tryd.ti5 rfl rfl zz17 zz17 rfl (v8s_one _))
  ·
   intro σ hσ hall
   obtain ⟨b6, q6⟩ := Option.isSome_iff_exists.1 (hall _ (List.mem_cons_self ..))
   obtain ⟨b10, q10⟩ := Option.isSome_iff_exists.1 (hall _ (List.mem_cons_of_mem _ (List.mem_cons_self ..)))
   obtain ⟨b15, q15⟩ := Option.isSome_iff_exists.1 (hall _ (List.mem_cons_of_mem _ (List.mem_cons_of_mem _ (List.mem_cons_self ..))))
   obtain ⟨b19, q19⟩ := Option.isSome_iff_exists.1 (hall _ (List.mem_cons_of_mem _ (List.mem_cons_of_mem _ (List.mem_cons_of_mem _ (List.mem_cons_self ..)))))
   obtain ⟨b20, q20⟩ := Option.isSome_iff_exists.1 (hall _ (List.mem_cons_of_mem _ (List.mem_cons_of_mem _ (List.mem_cons_of_mem _ (List.mem_cons_of_mem _ (List.mem_cons_self ..))))))
   obtain ⟨b25, q25⟩ := Option.isSome_iff_exists.1 (hall _ (List.mem_cons_of_mem _ (List.mem_cons_of_mem _ (List.mem_cons_of_mem _ (List.mem_cons_of_mem _ (List.mem_cons_of_mem _ (List.mem_cons_self ..)))))))
   have p6 := (hσ _ (List.mem_cons_self ..) b6 q6).2
   try dsimp only at p6
   have p10 := (hσ _ (List.mem_cons_of_mem _ (List.mem_cons_self ..)) b10 q10).2
   try dsimp only at p10
   have p15 := (hσ _ (List.mem_cons_of_mem _ (List.mem_cons_of_mem _ (List.mem_cons_self ..))) b15 q15).2
   try dsimp only at p15
   have p19 := (hσ _ (List.mem_cons_of_mem _ (List.mem_cons_of_mem _ (List.mem_cons_of_mem _ (List.mem_cons_self ..)))) b19 q19).2
   try dsimp only at p19
   have p20 := (hσ _ (List.mem_cons_of_mem _ (List.mem_cons_of_mem _ (List.mem_cons_of_mem _ (List.mem_cons_of_mem _ (List.mem_cons_self ..))))) b20 q20).2
   try dsimp only at p20
   have p25 := (hσ _ (List.mem_cons_of_mem _ (List.mem_cons_of_mem _ (List.mem_cons_of_mem _ (List.mem_cons_of_mem _ (List.mem_cons_of_mem _ (List.mem_cons_self ..)))))) b25 q25).2
   try dsimp only at p25
   try dsimp only at q6 q10 q15 q19 q20 q25
   simp only [mkEnts, mkSlots, q6, q10, q15, q19, q20, q25, List.cons_append, List.nil_append, List.map_cons, List.map_nil, Asg.v, Option.getD_some]
   refine wpd_tp 23 rfl zz6 trivial (t_bsV [b6, b10, b15, b20, b25] Tryd.underlying160 Tryd.ti32 rfl rfl zz17 zz17 rfl (by intro u hu; simp only [List.mem_cons, List.not_mem_nil, or_false] at hu; rcases hu with rfl | rfl | rfl | rfl | rfl <;> exact SV.one zz47)) rfl (fun _ => (fun w h => .inr (h.sub SubC.h SubC.h))) (fun b26 p26 => ?_)
   refine wpd_tp 24 rfl zz6 trivial (t_callP1 Tryd.hb73 rfl fun w h => by
     have q := joinB b26 [(b6, numK 4 hp.to.toNat), (b10, numK 4 hp.sy.toNat), (b15, [hp.cnt, hp.fl]), (b20, [hp.root.1].flatten), (b25, [of8 hp.ht])] w ⟨h.seenV, fun q hq => by
     simp only [List.mem_cons, List.not_mem_nil, or_false] at hq
     rcases hq with rfl | rfl | rfl | rfl | rfl <;> exact Seen.re8 h.seenV⟩ (by rw [headFlat, headB_len]; decide)
     rwa [headFlat, headB_len] at q) rfl (fun _ => (fun w h => .inr (h.sub SubC.h SubC.h))) (fun b27 p27 => ?_)
   refine wpd_p 25 rfl zz6 trivial (q_pure rfl) rfl (fun w h => .inr (h.sub SubC.h SubC.h)) ?_
   refine wpd_done zz6 ?_
   refine ex_then <| wpc_ret ?_
   refine ret1 (.inl rfl) rfl rfl ?_
   exact fun w1 h2 => ⟨b27, p27, rfl, h2.below, h2.made SubC.h .nil⟩
end Go.Proofs.YtjpfhkjmjnjggaaDoor
namespace Go.Proofs.YtjpfhkjmjnjggaaDoor
open Go Go.PL Go.RowKit
def rest0 (p : Pth) : List UInt8 := [p.pf, of8 p.pl] ++ (numK 8 p.pa.toNat ++ numK 8 p.pb.toNat)
def tailH (h : Hop) : List UInt8 := numK 4 (of64 h.ix).toNat ++ (h.chs.flatten ++ h.ps.flatten)
def restF (p : Pth) : Nat → List UInt8
  | 0 => rest0 p
  | i + 1 => sumF ((headB (p.hs.getD i Hop.z) ++ restF p i) ++ tailH (p.hs.getD i Hop.z))
def msgB (p : Pth) (i : Nat) : List UInt8 := headB (p.hs.getD i Hop.z) ++ restF p i
def msgs (p : Pth) : List (Nat × List UInt8) := (List.range p.hs.length).map fun i => (i, msgB p i)
theorem adL_one (a b : UInt64) : ∀ u ∈ adL a b, u.oneCell' = true := by
  intro u hu
  simp only [adL, List.mem_cons, List.not_mem_nil, or_false] at hu
  rcases hu with rfl | rfl <;> rfl
theorem adL_len (a b : UInt64) : (adL a b).length = 2 := rfl
theorem rest0_len (p : Pth) : (rest0 p).length = 18 := by simp [rest0, numK_len]
theorem restF_len (p : Pth) (i : Nat) : (restF p i).length ≤ 32 := by
  cases i with
  | zero => rw [restF, rest0_len]; decide
  | succ n => rw [restF, sumF_length]; exact Nat.le_refl _
theorem msgs_take {p : Pth} {i : Nat} (hi : i < p.hs.length) : (msgs p).take i ++ [(i, msgB p i)] = (msgs p).take (i + 1) := by
  rw [List.take_add_one, msgs, List.getElem?_map, List.getElem?_range hi]
  rfl
theorem msgs_pre {p : Pth} {i : Nat} (hi : i < p.hs.length) : ((msgs p).take i ++ [(i, msgB p i)]) <+: msgs p := by rw [msgs_take hi]; exact List.take_prefix _ _
theorem msgs_len (p : Pth) : (msgs p).length = p.hs.length := by rw [msgs, List.length_map, List.length_range]
theorem msgs_all (p : Pth) : (msgs p).take p.hs.length = msgs p := List.take_of_length_le (by rw [msgs_len]; exact Nat.le_refl _)
theorem flat_len16 {l : List (List UInt8)} (h : ∀ x ∈ l, x.length = 16) : l.flatten.length = l.length * 16 := by
  have q := flat_takeL h (Nat.le_refl _)
  rwa [List.take_length] at q
theorem tailH_len {h : Hop} (h1 : ∀ x ∈ h.chs, x.length = 16) (h2 : ∀ x ∈ h.ps, x.length = 16) : (tailH h).length = 4 + (h.chs.length * 16 + h.ps.length * 16) := by
  rw [tailH, List.length_append, numK_len, List.length_append, flat_len16 h1, flat_len16 h2]
theorem flatK_3 (a b c : Value × List UInt8) : flatK [a, b, c] [a, b, c].length = a.2 ++ (b.2 ++ c.2) := by simp [flatK]
theorem flatK_4 (a b c d : Value × List UInt8) : flatK [a, b, c, d] [a, b, c, d].length = a.2 ++ (b.2 ++ (c.2 ++ d.2)) := by simp [flatK]
def encM (x : Nat × List UInt8) (v : Value) : Array Value := #[.int .i64 ((x.1 : Nat) : Int), v]
def AtM (T : List Nat) (x : Nat × List UInt8) (v : Value) (w : World) : Prop := RowAt T (.row v x.2.length 5 1 (v8s x.2)) w
def InvM (p : Pth) (w : World) : Prop := p.seen w.cell? ∧ Glb w
theorem restRow {v : Value} {xs : List UInt8} (w : World) (h : (Ent.row v xs.length 5 1 (v8s xs)).at w) : Seen w.cell? v xs.length 1 (v8s xs) := (Mem.startR w h).seenV
theorem restBlk {b : Nat} {xs : List UInt8} (hl : xs.length = 32) (w : World) (h : (Ent.blk b 113 (v8s xs)).at w) : Seen w.cell? (arv b 32) xs.length 1 (v8s xs) := by
  have q : Seen w.cell? (arv b 32) 32 1 (v8s xs) := (Mem.start1 w h).seenA zz17 (by rw [v8s_length, hl])
  rw [hl]; exact q
theorem messages (p : Pth) (w : World) (hp : p.sv)  :
    Calls Tryd.prog 49 [.agg p.c.toArray].toArray w (Gives w (fun pp : Nat => .func (.func 72) #[] #[.pointer (some ⟨pp, 0, none⟩)]) (fun pp => [.blk pp 29 p.c]) (fun _ => [])) := by
  haveI := hp.one
  refine enter (m := 4) (R := Mem w [] [] []) Tryd.func49 rfl rfl (Nat.le_of_ble_eq_true rfl) (Mem.start w) ?_
  refine wpc_seq <| wpc_region ?_
  refine wpl_t (t_box rfl p.c rfl) rfl (fun b1 => ?_)
  refine wpl_q (q_pure rfl) rfl <| wpl_nil <| ex_then <| wpc_seq <| wpc_region ?_
  refine wpl_q (q_fn (us := []) (vs := [.pointer (some ⟨b1, 0, none⟩)]) rfl rfl) rfl ?_
  refine wpl_q (q_pure rfl) rfl <| wpl_nil <| ex_then <| wpc_ret ?_
  refine ret1 (.inl rfl) rfl rfl ?_
  exact fun w h => ⟨b1, rfl, h.below, h.made SubC.h .nil⟩
end Go.Proofs.YtjpfhkjmjnjggaaDoor
namespace Go.Proofs.YtjpfhkjmjnjggaaDoor
open Go Go.PL Go.RowKit
theorem messages1 (yl : Nat) (pp : Nat) (p : Pth) (J : List Nat → List (Nat × List UInt8) → World → Prop) (K : World → Prop) (w : World)  (hst : StabJ J) (hinv : ∀ T pre w1, J T pre w1 → InvM p w1) (hsk : StabK K) (hy : YieldS Tryd.prog yl encM AtM (msgs p) J K) (hJ0 : J [pp] [] w) (hpp : w.heap[pp]? = some (.cells p.c.toArray 29 (0, 0))) (hlim : ∀ h ∈ p.hs, h.chs.length ≤ 100 ∧ h.ps.length ≤ 100) :
    Calls Tryd.prog 72 [.func (.yield yl) #[] #[], .pointer (some ⟨pp, 0, none⟩)].toArray w (IterPost J K (msgs p)) := by
  obtain ⟨pf, pa, pb, pl, hv, hs⟩ := p
  have hp := (hinv _ _ _ hJ0).1
  have hh : Seen w.cell? hv hs.length 24 (hcs hs) := hp.1
  have svh := hh.sv
  have lh := svh.le
  simp only [maxLen] at lh
  change ∀ h ∈ hs, h.chs.length ≤ 100 ∧ h.ps.length ≤ 100 at hlim
  refine enter (m := 65) (R := Mem w [pp] [.blk pp 29 [.int .u8 (pf.toNat : Int), .int .u64 (pa.toNat : Int), .int .u64 (pb.toNat : Int), .int .i64 pl, hv]] []) Tryd.func72 rfl rfl (Nat.le_of_ble_eq_true rfl) (Mem.start1 w hpp) ?_
  refine wpc_seq <| wpc_region <| wpl_q (q_field Tryd.underlying29 rfl Tryd.ti26 rfl rfl _ rfl) rfl <| wpl_q (q_field Tryd.underlying26 rfl Tryd.ti24 rfl rfl _ rfl) rfl ?_
  refine wpl_q (q_ldP Tryd.underlying24 rfl Tryd.ti24 rfl (adL pa pb) rfl zz0) rfl ?_
  refine wpl_t (t_alloc Tryd.ti24 [.int .u64 0, .int .u64 0] rfl) rfl (fun b3 => ?_)
  refine wpl_t0 (t_stA Tryd.ti24 rfl rfl (by first | exact LenC.h | exact adL_len _ _ | (rw [v8s_length]; exact sumF_length _)) (by first | exact OneC.h | exact v8s_one _ | exact adL_one _ _) (by first | exact LenC.h | rfl)) (fun _ => ?_)
  refine wpl_nil <| ex_then <| wpc_seq ?_
  refine wpc_draw 17 zz6 (fun _ h => h.drew) ?_
  refine wpd_p 0 rfl zz6 trivial (q_field Tryd.underlying29 rfl Tryd.ti26 rfl rfl _ rfl) rfl sk0 ?_
  refine wpd_p 1 rfl zz6 trivial (q_field Tryd.underlying26 rfl Tryd.ti5 rfl rfl _ rfl) rfl sk0 ?_
  refine wpd_q 2 rfl zz6 trivial (q_ld Tryd.underlying5 rfl rfl (by first | exact v8s_get zz7 | rfl)) rfl (fun _ h => h) ?_
  refine wpd_p 3 rfl zz6 trivial (q_field Tryd.underlying29 rfl Tryd.ti26 rfl rfl _ rfl) rfl sk0 ?_
  refine wpd_p 4 rfl zz6 trivial (q_field Tryd.underlying26 rfl Tryd.ti3 rfl rfl _ rfl) rfl sk0 ?_
  refine wpd_q 5 rfl zz6 trivial (q_ld Tryd.underlying3 rfl rfl zz33) rfl (fun _ h => h) ?_
  refine wpd_p 6 rfl zz6 trivial (q8_conv Tryd.underlying3 Tryd.underlying5 rfl) rfl sk0 ?_
  refine wpd_p 8 rfl zz6 trivial (q_field Tryd.underlying24 rfl Tryd.ti22 rfl rfl _ rfl) rfl sk0 ?_
  refine wpd_q 9 rfl zz6 trivial (q_ld Tryd.underlying22 rfl rfl zz34) rfl (fun _ h => h) ?_
  refine wpd_p 11 rfl zz6 trivial (q_field Tryd.underlying24 rfl Tryd.ti22 rfl rfl _ rfl) rfl sk0 ?_
  refine wpd_q 12 rfl zz6 trivial (q_ld Tryd.underlying22 rfl rfl zz34) rfl (fun _ h => h) ?_
  refine wpd_makers (lf := #[true, true, true, true, true, true, true, true, true, true, true, true, true, true, false, false, false]) [0, 1, 2, 3, 4, 5, 6, 8, 9, 11, 12] [⟨7, 19, [], (fun _ v => SV v 2), (fun _ v => .row v 2 5 1 (v8s [pf, of8 pl]))⟩, ⟨10, 22, [], (fun _ v => SV v 8), (fun _ v => .row v 8 5 1 (v8s (numK 8 pa.toNat)))⟩, ⟨13, 25, [], (fun _ v => SV v 8), (fun _ v => .row v 8 5 1 (v8s (numK 8 pb.toNat)))⟩] 3 rfl zz6 zz35 (fun σ w h => h.sub (sub_app _ _) (Sub.refl _)) ?_ ?_
  ·
   intro m hm o ho σ hσ hd
   simp only [List.mem_cons, List.not_mem_nil, or_false] at hm
   rcases hm with rfl | rfl | rfl
   ·
    obtain rfl := Option.some.inj ho
    show TOpP _ _ _ _ _ _ Value (fun v => SV v 2) (fun v => v) (fun v => Mem _ _ (.row v 2 5 1 (v8s [pf, of8 pl]) :: _) _)
    exact TOpP.weakL (fun t u hh => slots_base t hh _ zz35) (t_bsV (v8s [pf, of8 pl]) Tryd.underlying32 Tryd.ti5 rfl rfl zz17 zz17 rfl (v8s_one _))
   ·
    obtain rfl := Option.some.inj ho
    show TOpP _ _ _ _ _ _ Value (fun v => SV v 8) (fun v => v) (fun v => Mem _ _ (.row v 8 5 1 (v8s (numK 8 pa.toNat)) :: _) _)
    exact TOpP.weakL (fun t u hh => slots_base t hh _ zz35) (t_callP1 Tryd.hb74 rfl fun w h => (fun w => wordB pa 8 w zz17) w)
   ·
    obtain rfl := Option.some.inj ho
    show TOpP _ _ _ _ _ _ Value (fun v => SV v 8) (fun v => v) (fun v => Mem _ _ (.row v 8 5 1 (v8s (numK 8 pb.toNat)) :: _) _)
    exact TOpP.weakL (fun t u hh => slots_base t hh _ zz35) (t_callP1 Tryd.hb74 rfl fun w h => (fun w => wordB pb 8 w zz17) w)
  ·
   intro σ hσ hall
   obtain ⟨b19, q19⟩ := Option.isSome_iff_exists.1 (hall _ (List.mem_cons_self ..))
   obtain ⟨b22, q22⟩ := Option.isSome_iff_exists.1 (hall _ (List.mem_cons_of_mem _ (List.mem_cons_self ..)))
   obtain ⟨b25, q25⟩ := Option.isSome_iff_exists.1 (hall _ (List.mem_cons_of_mem _ (List.mem_cons_of_mem _ (List.mem_cons_self ..))))
   have p19 := (hσ _ (List.mem_cons_self ..) b19 q19).2
   try dsimp only at p19
   have p22 := (hσ _ (List.mem_cons_of_mem _ (List.mem_cons_self ..)) b22 q22).2
   try dsimp only at p22
   have p25 := (hσ _ (List.mem_cons_of_mem _ (List.mem_cons_of_mem _ (List.mem_cons_self ..))) b25 q25).2
   try dsimp only at p25
   try dsimp only at q19 q22 q25
   simp only [mkEnts, mkSlots, q19, q22, q25, List.cons_append, List.nil_append, List.map_cons, List.map_nil, Asg.v, Option.getD_some]
   refine wpd_tp 14 rfl zz6 trivial (t_bsV [b19, b22, b25] Tryd.underlying160 Tryd.ti32 rfl rfl zz17 zz17 rfl (by intro u hu; simp only [List.mem_cons, List.not_mem_nil, or_false] at hu; rcases hu with rfl | rfl | rfl <;> exact SV.one zz47)) rfl (fun _ => (fun w h => .inr (h.sub SubC.h SubC.h))) (fun b26 p26 => ?_)
   refine wpd_tp 15 rfl zz6 trivial (t_callP1 Tryd.hb73 rfl fun w h => by
     have q := joinB b26 [(b19, [pf, of8 pl]), (b22, numK 8 pa.toNat), (b25, numK 8 pb.toNat)] w ⟨h.seenV, fun q hq => by
     simp only [List.mem_cons, List.not_mem_nil, or_false] at hq
     rcases hq with rfl | rfl | rfl <;> exact Seen.re8 h.seenV⟩ (by rw [flatK_3]; simp [numK_len])
     rw [flatK_3] at q
     exact q) rfl (fun _ => (fun w h => .inr (h.sub SubC.h SubC.h))) (fun b27 p27 => ?_)
   refine wpd_p 16 rfl zz6 trivial (q_pure rfl) rfl (fun w h => .inr (h.sub SubC.h SubC.h)) ?_
   refine wpd_done zz6 ?_
   refine ex_then <| wpc_seq <| wpc_region <| wpl_q (q_field Tryd.underlying29 rfl Tryd.ti27 rfl rfl _ rfl) rfl <| wpl_q (q_ld Tryd.underlying27 rfl rfl rfl) rfl ?_
   refine wpl_q (q_lenW Tryd.underlying27 rfl zz4) rfl ?_
   refine wpl_q (q_pure rfl) rfl <| wpl_nil <| ex_then <| wpc_block ?_
   refine wpc_loopc (ι := { x : Nat × Value × World × List Nat × Ent // (x.1 ≤ hs.length) ∧ (SV x.2.1 (restF ⟨pf, pa, pb, pl, hv, hs⟩ x.1).length) ∧ (J x.2.2.2.1 ((msgs ⟨pf, pa, pb, pl, hv, hs⟩).take x.1) x.2.2.1) ∧ (∀ w, x.2.2.2.2.at w → Seen w.cell? x.2.1 (restF ⟨pf, pa, pb, pl, hv, hs⟩ x.1).length 1 (v8s (restF ⟨pf, pa, pb, pl, hv, hs⟩ x.1))) }) [(0, _), (29, _), (30, _)] (fun x Lc => (31, .int .i64 ((x.1.1 : Nat) : Int)) :: (4, x.1.2.1) :: Lc) (fun x => Mem x.1.2.2.1 x.1.2.2.2.1 [x.1.2.2.2.2] []) (fun x => hs.length - x.1.1) ⟨(0, b27, w, [pp], .row b27 (rest0 ⟨pf, pa, pb, pl, hv, hs⟩).length 5 1 (v8s (rest0 ⟨pf, pa, pb, pl, hv, hs⟩))), ⟨Nat.zero_le _, p27, hJ0, fun w h => restRow w h⟩⟩ zz12 ?_ ?_
   ·
    exact fun w h => (show Mem _ [pp] (.row b27 (rest0 ⟨pf, pa, pb, pl, hv, hs⟩).length 5 1 (v8s (rest0 ⟨pf, pa, pb, pl, hv, hs⟩)) :: _) _ w from h).sub (.keep .nil) .nil
   ·
    rintro ⟨⟨i, rv, wb, T, rE⟩, ⟨hi0, hi1, hi2, hi3⟩⟩; try dsimp only
    have hi0 : i ≤ hs.length := hi0; have hi1 : SV rv (restF ⟨pf, pa, pb, pl, hv, hs⟩ i).length := hi1; have hi2 : J T ((msgs ⟨pf, pa, pb, pl, hv, hs⟩).take i) wb := hi2; have hi3 : ∀ w, rE.at w → Seen w.cell? rv (restF ⟨pf, pa, pb, pl, hv, hs⟩ i).length 1 (v8s (restF ⟨pf, pa, pb, pl, hv, hs⟩ i)) := hi3
    have hsee : ∀ {M : List Ent} {S : List Fact} {w : World}, Mem wb T M S w → InvM ⟨pf, pa, pb, pl, hv, hs⟩ w := fun h => hinv _ _ _ (hst _ _ _ _ _ hi2 (h.sub .nil .nil) (nums_lt h))
    have hrl := restF_len ⟨pf, pa, pb, pl, hv, hs⟩ i
    refine wpc_seq <| wpc_region <| wpl_q (q_pure rfl) rfl <| wpl_nil <| ex_then <| wpc_seq ?_
    refine wpc_cond rfl (fun hc32 => ?_) (fun hc32 => ?_)
    ·
     simp only [decide_eq_true_eq] at hc32
     have hil : i < hs.length := by omega
     have hsi : ((hs.getD i Hop.z)).seen wb.cell? := (hinv _ _ _ hi2).1.2 _ (getD_memO hil)
     haveI := hsi.sv.one
     have hlm := hlim _ (getD_memO hil)
     refine wpc_skip <| ex_then <| wpc_seq <| wpc_block <| wpc_seq <| wpc_region <| wpl_q (q_pure rfl) rfl ?_
     refine wpl_q (q_idxW Tryd.underlying27 Tryd.ti68 rfl rfl zz4 zz2) rfl ?_
     refine wpl_q (q_ldWN Tryd.underlying68 rfl Tryd.ti68 rfl (fun w h => (hsee h).1.1) (hs.getD i Hop.z).c (cat_part Hop.c_length Hop.z hil) (Hop.c_length _)) rfl ?_
     refine wpl_t (t_alloc Tryd.ti68 Hop.z.c rfl) rfl (fun b6 => ?_)
     refine wpl_q (q_pure rfl) rfl ?_
     refine wpl_t0 (t_stA Tryd.ti68 rfl rfl (by first | exact LenC.h | exact adL_len _ _ | (rw [v8s_length]; exact sumF_length _)) (by first | exact OneC.h | exact v8s_one _ | exact adL_one _ _) (by first | exact LenC.h | rfl)) (fun _ => ?_)
     refine wpl_nil <| ex_then <| wpc_seq <| wpc_region <| wpl_q (q_ldN Tryd.underlying68 rfl Tryd.ti68 rfl LenC.h) rfl ?_
     refine wpl_tp (t_callP1 Tryd.hb75 rfl fun w h => head (hs.getD i Hop.z) w hsi.sv) rfl (fun b37 p37 => ?_)
     refine wpl_q (q_pure rfl) rfl ?_
     refine wpl_tp (t_bsV [b37, rv] Tryd.underlying160 Tryd.ti32 rfl rfl zz17 zz17 rfl (by intro u hu; simp only [List.mem_cons, List.not_mem_nil, or_false] at hu; rcases hu with rfl | rfl <;> exact SV.one zz47)) rfl (fun b39 p39 => ?_)
     refine wpl_tp (t_callP1 Tryd.hb73 rfl fun w h => by
       have q := joinB b39 [(b37, (headB (hs.getD i Hop.z))), (rv, (restF ⟨pf, pa, pb, pl, hv, hs⟩ i))] w ⟨h.seenV, fun q hq => by
       simp only [List.mem_cons, List.not_mem_nil, or_false] at hq
       rcases hq with rfl | rfl
       · have q : Seen w.cell? b37 27 1 (v8s (headB (hs.getD i Hop.z))) := h.seen_row zz5
         exact Seen.re8 q
       · exact hi3 w (h.own rE zz5)⟩ (by rw [flatK_2, List.length_append, headB_len]; show 27 + (restF ⟨pf, pa, pb, pl, hv, hs⟩ i).length ≤ 100000; omega)
       rw [flatK_2] at q
       exact q) rfl (fun b40 p40 => ?_)
     refine wpl_q (q_pure rfl) rfl <| wpl_nil <| ex_then <| wpc_seq <| wpc_seq ?_
     refine wpc_region_y ?_
     refine wil_q (q_pure rfl) rfl ?_
     refine wil_q (q_pure rfl) rfl ?_
     refine wil_q (q_pure rfl) rfl ?_
     refine wil_yieldS ((i, msgB ⟨pf, pa, pb, pl, hv, hs⟩ i)) (b40) rfl rfl hst hy hi2 (msgs_pre (p := ⟨pf, pa, pb, pl, hv, hs⟩) hil) rfl (fun w h => h.rowAt zz5) rfl ?_ ?_
     ·
      intro u44 hu44
      have hsee2 : ∀ {M : List Ent} {S : List Fact} {w : World}, Mem u44 (nums (.row b40 ((headB (hs.getD i Hop.z)) ++ (restF ⟨pf, pa, pb, pl, hv, hs⟩ i)).length 5 1 (v8s ((headB (hs.getD i Hop.z)) ++ (restF ⟨pf, pa, pb, pl, hv, hs⟩ i))) :: .row b39 2 32 1 [b37, rv] :: .row b37 27 5 1 (v8s (headB (hs.getD i Hop.z))) :: .blk b6 68 (hs.getD i Hop.z).c :: [rE])) M S w → InvM ⟨pf, pa, pb, pl, hv, hs⟩ w := fun h => hinv _ _ _ (hst _ _ _ _ _ hu44 (h.sub .nil .nil) (nums_lt h))
      refine wil_q (q_pure rfl) rfl ?_
      refine wil_nil ?_
      refine ex_then ?_
      refine wpc_cond_f rfl ?_
      refine wpc_skip <| ex_then <| wpc_seq ?_
      refine wpc_draw 18 zz6 (fun _ h => h.drew) ?_
      refine wpd_p 0 rfl zz6 trivial (q_pure rfl) rfl sk0 ?_
      refine wpd_p 1 rfl zz6 trivial (q_field Tryd.underlying68 rfl Tryd.ti66 rfl rfl _ rfl) rfl sk0 ?_
      refine wpd_p 2 rfl zz6 trivial (q_field Tryd.underlying66 rfl Tryd.ti3 rfl rfl _ rfl) rfl sk0 ?_
      refine wpd_q 3 rfl zz6 trivial (q_ld Tryd.underlying3 rfl rfl (Hop.c_ix _)) rfl (fun _ h => h) ?_
      refine wpd_p 4 rfl zz6 trivial (q64_conv Tryd.underlying3 Tryd.underlying22 rfl) rfl sk0 ?_
      refine wpd_p 6 rfl zz6 trivial (q_field Tryd.underlying68 rfl Tryd.ti66 rfl rfl _ rfl) rfl sk0 ?_
      refine wpd_p 7 rfl zz6 trivial (q_field Tryd.underlying66 rfl Tryd.ti64 rfl rfl _ rfl) rfl sk0 ?_
      refine wpd_q 8 rfl zz6 trivial (q_ld Tryd.underlying64 rfl rfl (Hop.c_cv _)) rfl (fun _ h => h) ?_
      refine wpd_p 10 rfl zz6 trivial (q_field Tryd.underlying68 rfl Tryd.ti66 rfl rfl _ rfl) rfl sk0 ?_
      refine wpd_p 11 rfl zz6 trivial (q_field Tryd.underlying66 rfl Tryd.ti64 rfl rfl _ rfl) rfl sk0 ?_
      refine wpd_q 12 rfl zz6 trivial (q_ld Tryd.underlying64 rfl rfl (Hop.c_pv _)) rfl (fun _ h => h) ?_
      refine wpd_two 5 17 zz6 ?_ ?_
      ·
       refine wpa_tp 5 rfl trivial (t_callP1 Tryd.hb74 rfl fun w h => wordB (of64 (hs.getD i Hop.z).ix) 4 w zz17) rfl (fun _ => (fun w h => .inr (h.sub SubC.h SubC.h))) (fun b51 p51 => ?_)
       refine wpd_two 9 17 zz6 ?_ ?_
       ·
        refine wpa_tp 9 rfl trivial (t_callP1 Tryd.hb77 rfl fun w h => shorts (hs.getD i Hop.z).cv (hs.getD i Hop.z).chs w ((hsee2 h).1.2 _ (getD_memO hil)).1 hsi.2.1 zz13) rfl (fun _ => (fun w h => .inr (h.sub SubC.h SubC.h))) (fun b55 p55 => ?_)
        refine wpd_two 13 17 zz6 ?_ ?_
        ·
         refine wpa_tp 13 rfl trivial (t_callP1 Tryd.hb77 rfl fun w h => shorts (hs.getD i Hop.z).pv (hs.getD i Hop.z).ps w ((hsee2 h).1.2 _ (getD_memO hil)).2.2.1 hsi.2.2.2 zz13) rfl (fun _ => (fun w h => .inr (h.sub SubC.h SubC.h))) (fun b59 p59 => ?_)
         refine wpd_two 14 17 zz6 ?_ ?_
         ·
          refine wpa_tp 14 rfl trivial (t_bsV [b40, b51, b55, b59] Tryd.underlying160 Tryd.ti32 rfl rfl zz17 zz17 rfl zz28) rfl (fun _ => (fun w h => .inr (h.sub SubC.h SubC.h))) (fun b60 p60 => ?_)
          refine wpd_two 15 17 zz6 ?_ ?_
          ·
           refine wpa_tp 15 rfl trivial (t_callP1 Tryd.hb73 rfl fun w h => by
             have q := joinB b60 [(b40, ((headB (hs.getD i Hop.z)) ++ (restF ⟨pf, pa, pb, pl, hv, hs⟩ i))), (b51, numK 4 (of64 (hs.getD i Hop.z).ix).toNat), (b55, (hs.getD i Hop.z).chs.flatten), (b59, (hs.getD i Hop.z).ps.flatten)] w ⟨h.seenV, fun q hq => by
             simp only [List.mem_cons, List.not_mem_nil, or_false] at hq
             rcases hq with rfl | rfl | rfl | rfl
             · exact h.seen_row zz5
             · have q : Seen w.cell? b51 4 1 (v8s (numK 4 (of64 (hs.getD i Hop.z).ix).toNat)) := h.seen_row zz5
               exact Seen.re8 q
             · have q : Seen w.cell? b55 ((hs.getD i Hop.z).chs.length * 16) 1 (v8s (hs.getD i Hop.z).chs.flatten) := h.seen_row zz5
               exact Seen.re8 q
             · have q : Seen w.cell? b59 ((hs.getD i Hop.z).ps.length * 16) 1 (v8s (hs.getD i Hop.z).ps.flatten) := h.seen_row zz5
               exact Seen.re8 q⟩ zz18
             rw [flatK_4] at q
             exact q) rfl (fun _ => (fun w h => .inr (h.sub SubC.h SubC.h))) (fun b61 p61 => ?_)
           refine wpd_two 16 17 zz6 ?_ ?_
           ·
            refine wpa_t 16 rfl trivial (t_pur Tryd.hb76 rfl fun w h => sumW b61 (((headB (hs.getD i Hop.z)) ++ (restF ⟨pf, pa, pb, pl, hv, hs⟩ i)) ++ (tailH (hs.getD i Hop.z))) w h.seenV (hsee2 h).2) rfl (fun _ => (fun w h => .inr (h.sub SubC.h SubC.h))) (fun b62 => ?_)
            refine wpd_t 17 rfl zz6 trivial (t_alloc Tryd.ti113 (v8s (List.replicate 32 0)) rfl) rfl (fun _ => (fun w h => .inr (h.sub SubC.h SubC.h))) (fun b8 => ?_)
            refine wpd_t0 18 rfl zz6 trivial (t_stA Tryd.ti113 rfl rfl zz46 (v8s_one _) zz39) (fun _ => skk rfl) (fun _ => ?_)
            refine wpd_done zz6 ?_
            refine ex_then <| wpc_region <| wpl_q (q_arAll Tryd.underlying113 Tryd.ti5 rfl rfl) rfl <| wpl_q (q_pure rfl) rfl <| wpl_nil <| ex_block <| ex_then <| wpc_region ?_
            refine wpl_q (q_addN (b := 1) rfl rfl zz2) rfl ?_
            refine wpl_q (q_pure rfl) rfl <| wpl_nil ?_
            refine ex_again ⟨(i + 1, arv b8 32, u44, nums (.row b40 ((headB (hs.getD i Hop.z)) ++ (restF ⟨pf, pa, pb, pl, hv, hs⟩ i)).length 5 1 (v8s ((headB (hs.getD i Hop.z)) ++ (restF ⟨pf, pa, pb, pl, hv, hs⟩ i))) :: .row b39 2 32 1 [b37, rv] :: .row b37 27 5 1 (v8s (headB (hs.getD i Hop.z))) :: .blk b6 68 (hs.getD i Hop.z).c :: [rE]), .blk b8 113 (v8s (sumF (((headB (hs.getD i Hop.z)) ++ (restF ⟨pf, pa, pb, pl, hv, hs⟩ i)) ++ (tailH (hs.getD i Hop.z)))))), ⟨zz41, zz24, zz22, fun w h => zz19⟩⟩ ?_ ?_ ?_
            ·
             exact zz12
            ·
             exact fun w h => h.sel
            ·
             (show hs.length - (i + 1) < hs.length - i); omega
           ·
            refine wpa_t 17 rfl trivial (t_alloc Tryd.ti113 (v8s (List.replicate 32 0)) rfl) rfl (fun _ => (fun w h => .inr (h.sub SubC.h SubC.h))) (fun b8 => ?_)
            refine wpd_t 16 rfl zz6 trivial (t_pur Tryd.hb76 rfl fun w h => sumW b61 (((headB (hs.getD i Hop.z)) ++ (restF ⟨pf, pa, pb, pl, hv, hs⟩ i)) ++ (tailH (hs.getD i Hop.z))) w h.seenV (hsee2 h).2) rfl (fun _ => (fun w h => .inr (h.sub SubC.h SubC.h))) (fun b62 => ?_)
            refine wpd_t0 18 rfl zz6 trivial (t_stA Tryd.ti113 rfl rfl zz46 (v8s_one _) zz39) (fun _ => skk rfl) (fun _ => ?_)
            refine wpd_done zz6 ?_
            refine ex_then <| wpc_region <| wpl_q (q_arAll Tryd.underlying113 Tryd.ti5 rfl rfl) rfl <| wpl_q (q_pure rfl) rfl <| wpl_nil <| ex_block <| ex_then <| wpc_region ?_
            refine wpl_q (q_addN (b := 1) rfl rfl zz2) rfl ?_
            refine wpl_q (q_pure rfl) rfl <| wpl_nil ?_
            refine ex_again ⟨(i + 1, arv b8 32, u44, nums (.row b40 ((headB (hs.getD i Hop.z)) ++ (restF ⟨pf, pa, pb, pl, hv, hs⟩ i)).length 5 1 (v8s ((headB (hs.getD i Hop.z)) ++ (restF ⟨pf, pa, pb, pl, hv, hs⟩ i))) :: .row b39 2 32 1 [b37, rv] :: .row b37 27 5 1 (v8s (headB (hs.getD i Hop.z))) :: .blk b6 68 (hs.getD i Hop.z).c :: [rE]), .blk b8 113 (v8s (sumF (((headB (hs.getD i Hop.z)) ++ (restF ⟨pf, pa, pb, pl, hv, hs⟩ i)) ++ (tailH (hs.getD i Hop.z)))))), ⟨zz41, zz24, zz22, fun w h => zz19⟩⟩ ?_ ?_ ?_
            ·
             exact zz12
            ·
             exact fun w h => h.sel
            ·
             (show hs.length - (i + 1) < hs.length - i); omega
          ·
           refine wpa_t 17 rfl trivial (t_alloc Tryd.ti113 (v8s (List.replicate 32 0)) rfl) rfl (fun _ => (fun w h => .inr (h.sub SubC.h SubC.h))) (fun b8 => ?_)
           refine wpd_tp 15 rfl zz6 trivial (t_callP1 Tryd.hb73 rfl fun w h => by
             have q := joinB b60 [(b40, ((headB (hs.getD i Hop.z)) ++ (restF ⟨pf, pa, pb, pl, hv, hs⟩ i))), (b51, numK 4 (of64 (hs.getD i Hop.z).ix).toNat), (b55, (hs.getD i Hop.z).chs.flatten), (b59, (hs.getD i Hop.z).ps.flatten)] w ⟨h.seenV, fun q hq => by
             simp only [List.mem_cons, List.not_mem_nil, or_false] at hq
             rcases hq with rfl | rfl | rfl | rfl
             · exact h.seen_row zz5
             · have q : Seen w.cell? b51 4 1 (v8s (numK 4 (of64 (hs.getD i Hop.z).ix).toNat)) := h.seen_row zz5
               exact Seen.re8 q
             · have q : Seen w.cell? b55 ((hs.getD i Hop.z).chs.length * 16) 1 (v8s (hs.getD i Hop.z).chs.flatten) := h.seen_row zz5
               exact Seen.re8 q
             · have q : Seen w.cell? b59 ((hs.getD i Hop.z).ps.length * 16) 1 (v8s (hs.getD i Hop.z).ps.flatten) := h.seen_row zz5
               exact Seen.re8 q⟩ zz18
             rw [flatK_4] at q
             exact q) rfl (fun _ => (fun w h => .inr (h.sub SubC.h SubC.h))) (fun b61 p61 => ?_)
           refine wpd_t 16 rfl zz6 trivial (t_pur Tryd.hb76 rfl fun w h => sumW b61 (((headB (hs.getD i Hop.z)) ++ (restF ⟨pf, pa, pb, pl, hv, hs⟩ i)) ++ (tailH (hs.getD i Hop.z))) w h.seenV (hsee2 h).2) rfl (fun _ => (fun w h => .inr (h.sub SubC.h SubC.h))) (fun b62 => ?_)
           refine wpd_t0 18 rfl zz6 trivial (t_stA Tryd.ti113 rfl rfl zz46 (v8s_one _) zz39) (fun _ => skk rfl) (fun _ => ?_)
           refine wpd_done zz6 ?_
           refine ex_then <| wpc_region <| wpl_q (q_arAll Tryd.underlying113 Tryd.ti5 rfl rfl) rfl <| wpl_q (q_pure rfl) rfl <| wpl_nil <| ex_block <| ex_then <| wpc_region ?_
           refine wpl_q (q_addN (b := 1) rfl rfl zz2) rfl ?_
           refine wpl_q (q_pure rfl) rfl <| wpl_nil ?_
           refine ex_again ⟨(i + 1, arv b8 32, u44, nums (.row b40 ((headB (hs.getD i Hop.z)) ++ (restF ⟨pf, pa, pb, pl, hv, hs⟩ i)).length 5 1 (v8s ((headB (hs.getD i Hop.z)) ++ (restF ⟨pf, pa, pb, pl, hv, hs⟩ i))) :: .row b39 2 32 1 [b37, rv] :: .row b37 27 5 1 (v8s (headB (hs.getD i Hop.z))) :: .blk b6 68 (hs.getD i Hop.z).c :: [rE]), .blk b8 113 (v8s (sumF (((headB (hs.getD i Hop.z)) ++ (restF ⟨pf, pa, pb, pl, hv, hs⟩ i)) ++ (tailH (hs.getD i Hop.z)))))), ⟨zz41, zz24, zz22, fun w h => zz19⟩⟩ ?_ ?_ ?_
           ·
            exact zz12
           ·
            exact fun w h => h.sel
           ·
            (show hs.length - (i + 1) < hs.length - i); omega
         ·
          refine wpa_t 17 rfl trivial (t_alloc Tryd.ti113 (v8s (List.replicate 32 0)) rfl) rfl (fun _ => (fun w h => .inr (h.sub SubC.h SubC.h))) (fun b8 => ?_)
          refine wpd_tp 14 rfl zz6 trivial (t_bsV [b40, b51, b55, b59] Tryd.underlying160 Tryd.ti32 rfl rfl zz17 zz17 rfl zz28) rfl (fun _ => (fun w h => .inr (h.sub SubC.h SubC.h))) (fun b60 p60 => ?_)
          refine wpd_tp 15 rfl zz6 trivial (t_callP1 Tryd.hb73 rfl fun w h => by
            have q := joinB b60 [(b40, ((headB (hs.getD i Hop.z)) ++ (restF ⟨pf, pa, pb, pl, hv, hs⟩ i))), (b51, numK 4 (of64 (hs.getD i Hop.z).ix).toNat), (b55, (hs.getD i Hop.z).chs.flatten), (b59, (hs.getD i Hop.z).ps.flatten)] w ⟨h.seenV, fun q hq => by
            simp only [List.mem_cons, List.not_mem_nil, or_false] at hq
            rcases hq with rfl | rfl | rfl | rfl
            · exact h.seen_row zz5
            · have q : Seen w.cell? b51 4 1 (v8s (numK 4 (of64 (hs.getD i Hop.z).ix).toNat)) := h.seen_row zz5
              exact Seen.re8 q
            · have q : Seen w.cell? b55 ((hs.getD i Hop.z).chs.length * 16) 1 (v8s (hs.getD i Hop.z).chs.flatten) := h.seen_row zz5
              exact Seen.re8 q
            · have q : Seen w.cell? b59 ((hs.getD i Hop.z).ps.length * 16) 1 (v8s (hs.getD i Hop.z).ps.flatten) := h.seen_row zz5
              exact Seen.re8 q⟩ zz18
            rw [flatK_4] at q
            exact q) rfl (fun _ => (fun w h => .inr (h.sub SubC.h SubC.h))) (fun b61 p61 => ?_)
          refine wpd_t 16 rfl zz6 trivial (t_pur Tryd.hb76 rfl fun w h => sumW b61 (((headB (hs.getD i Hop.z)) ++ (restF ⟨pf, pa, pb, pl, hv, hs⟩ i)) ++ (tailH (hs.getD i Hop.z))) w h.seenV (hsee2 h).2) rfl (fun _ => (fun w h => .inr (h.sub SubC.h SubC.h))) (fun b62 => ?_)
          refine wpd_t0 18 rfl zz6 trivial (t_stA Tryd.ti113 rfl rfl zz46 (v8s_one _) zz39) (fun _ => skk rfl) (fun _ => ?_)
          refine wpd_done zz6 ?_
          refine ex_then <| wpc_region <| wpl_q (q_arAll Tryd.underlying113 Tryd.ti5 rfl rfl) rfl <| wpl_q (q_pure rfl) rfl <| wpl_nil <| ex_block <| ex_then <| wpc_region ?_
          refine wpl_q (q_addN (b := 1) rfl rfl zz2) rfl ?_
          refine wpl_q (q_pure rfl) rfl <| wpl_nil ?_
          refine ex_again ⟨(i + 1, arv b8 32, u44, nums (.row b40 ((headB (hs.getD i Hop.z)) ++ (restF ⟨pf, pa, pb, pl, hv, hs⟩ i)).length 5 1 (v8s ((headB (hs.getD i Hop.z)) ++ (restF ⟨pf, pa, pb, pl, hv, hs⟩ i))) :: .row b39 2 32 1 [b37, rv] :: .row b37 27 5 1 (v8s (headB (hs.getD i Hop.z))) :: .blk b6 68 (hs.getD i Hop.z).c :: [rE]), .blk b8 113 (v8s (sumF (((headB (hs.getD i Hop.z)) ++ (restF ⟨pf, pa, pb, pl, hv, hs⟩ i)) ++ (tailH (hs.getD i Hop.z)))))), ⟨zz41, zz24, zz22, fun w h => zz19⟩⟩ ?_ ?_ ?_
          ·
           exact zz12
          ·
           exact fun w h => h.sel
          ·
           (show hs.length - (i + 1) < hs.length - i); omega
        ·
         refine wpa_t 17 rfl trivial (t_alloc Tryd.ti113 (v8s (List.replicate 32 0)) rfl) rfl (fun _ => (fun w h => .inr (h.sub SubC.h SubC.h))) (fun b8 => ?_)
         refine wpd_tp 13 rfl zz6 trivial (t_callP1 Tryd.hb77 rfl fun w h => shorts (hs.getD i Hop.z).pv (hs.getD i Hop.z).ps w ((hsee2 h).1.2 _ (getD_memO hil)).2.2.1 hsi.2.2.2 zz13) rfl (fun _ => (fun w h => .inr (h.sub SubC.h SubC.h))) (fun b59 p59 => ?_)
         refine wpd_tp 14 rfl zz6 trivial (t_bsV [b40, b51, b55, b59] Tryd.underlying160 Tryd.ti32 rfl rfl zz17 zz17 rfl zz28) rfl (fun _ => (fun w h => .inr (h.sub SubC.h SubC.h))) (fun b60 p60 => ?_)
         refine wpd_tp 15 rfl zz6 trivial (t_callP1 Tryd.hb73 rfl fun w h => by
           have q := joinB b60 [(b40, ((headB (hs.getD i Hop.z)) ++ (restF ⟨pf, pa, pb, pl, hv, hs⟩ i))), (b51, numK 4 (of64 (hs.getD i Hop.z).ix).toNat), (b55, (hs.getD i Hop.z).chs.flatten), (b59, (hs.getD i Hop.z).ps.flatten)] w ⟨h.seenV, fun q hq => by
           simp only [List.mem_cons, List.not_mem_nil, or_false] at hq
           rcases hq with rfl | rfl | rfl | rfl
           · exact h.seen_row zz5
           · have q : Seen w.cell? b51 4 1 (v8s (numK 4 (of64 (hs.getD i Hop.z).ix).toNat)) := h.seen_row zz5
             exact Seen.re8 q
           · have q : Seen w.cell? b55 ((hs.getD i Hop.z).chs.length * 16) 1 (v8s (hs.getD i Hop.z).chs.flatten) := h.seen_row zz5
             exact Seen.re8 q
           · have q : Seen w.cell? b59 ((hs.getD i Hop.z).ps.length * 16) 1 (v8s (hs.getD i Hop.z).ps.flatten) := h.seen_row zz5
             exact Seen.re8 q⟩ zz18
           rw [flatK_4] at q
           exact q) rfl (fun _ => (fun w h => .inr (h.sub SubC.h SubC.h))) (fun b61 p61 => ?_)
         refine wpd_t 16 rfl zz6 trivial (t_pur Tryd.hb76 rfl fun w h => sumW b61 (((headB (hs.getD i Hop.z)) ++ (restF ⟨pf, pa, pb, pl, hv, hs⟩ i)) ++ (tailH (hs.getD i Hop.z))) w h.seenV (hsee2 h).2) rfl (fun _ => (fun w h => .inr (h.sub SubC.h SubC.h))) (fun b62 => ?_)
         refine wpd_t0 18 rfl zz6 trivial (t_stA Tryd.ti113 rfl rfl zz46 (v8s_one _) zz39) (fun _ => skk rfl) (fun _ => ?_)
         refine wpd_done zz6 ?_
         refine ex_then <| wpc_region <| wpl_q (q_arAll Tryd.underlying113 Tryd.ti5 rfl rfl) rfl <| wpl_q (q_pure rfl) rfl <| wpl_nil <| ex_block <| ex_then <| wpc_region ?_
         refine wpl_q (q_addN (b := 1) rfl rfl zz2) rfl ?_
         refine wpl_q (q_pure rfl) rfl <| wpl_nil ?_
         refine ex_again ⟨(i + 1, arv b8 32, u44, nums (.row b40 ((headB (hs.getD i Hop.z)) ++ (restF ⟨pf, pa, pb, pl, hv, hs⟩ i)).length 5 1 (v8s ((headB (hs.getD i Hop.z)) ++ (restF ⟨pf, pa, pb, pl, hv, hs⟩ i))) :: .row b39 2 32 1 [b37, rv] :: .row b37 27 5 1 (v8s (headB (hs.getD i Hop.z))) :: .blk b6 68 (hs.getD i Hop.z).c :: [rE]), .blk b8 113 (v8s (sumF (((headB (hs.getD i Hop.z)) ++ (restF ⟨pf, pa, pb, pl, hv, hs⟩ i)) ++ (tailH (hs.getD i Hop.z)))))), ⟨zz41, zz24, zz22, fun w h => zz19⟩⟩ ?_ ?_ ?_
         ·
          exact zz12
         ·
          exact fun w h => h.sel
         ·
          (show hs.length - (i + 1) < hs.length - i); omega
       ·
        refine wpa_t 17 rfl trivial (t_alloc Tryd.ti113 (v8s (List.replicate 32 0)) rfl) rfl (fun _ => (fun w h => .inr (h.sub SubC.h SubC.h))) (fun b8 => ?_)
        refine wpd_tp 9 rfl zz6 trivial (t_callP1 Tryd.hb77 rfl fun w h => shorts (hs.getD i Hop.z).cv (hs.getD i Hop.z).chs w ((hsee2 h).1.2 _ (getD_memO hil)).1 hsi.2.1 zz13) rfl (fun _ => (fun w h => .inr (h.sub SubC.h SubC.h))) (fun b55 p55 => ?_)
        refine wpd_tp 13 rfl zz6 trivial (t_callP1 Tryd.hb77 rfl fun w h => shorts (hs.getD i Hop.z).pv (hs.getD i Hop.z).ps w ((hsee2 h).1.2 _ (getD_memO hil)).2.2.1 hsi.2.2.2 zz13) rfl (fun _ => (fun w h => .inr (h.sub SubC.h SubC.h))) (fun b59 p59 => ?_)
        refine wpd_tp 14 rfl zz6 trivial (t_bsV [b40, b51, b55, b59] Tryd.underlying160 Tryd.ti32 rfl rfl zz17 zz17 rfl zz28) rfl (fun _ => (fun w h => .inr (h.sub SubC.h SubC.h))) (fun b60 p60 => ?_)
        refine wpd_tp 15 rfl zz6 trivial (t_callP1 Tryd.hb73 rfl fun w h => by
          have q := joinB b60 [(b40, ((headB (hs.getD i Hop.z)) ++ (restF ⟨pf, pa, pb, pl, hv, hs⟩ i))), (b51, numK 4 (of64 (hs.getD i Hop.z).ix).toNat), (b55, (hs.getD i Hop.z).chs.flatten), (b59, (hs.getD i Hop.z).ps.flatten)] w ⟨h.seenV, fun q hq => by
          simp only [List.mem_cons, List.not_mem_nil, or_false] at hq
          rcases hq with rfl | rfl | rfl | rfl
          · exact h.seen_row zz5
          · have q : Seen w.cell? b51 4 1 (v8s (numK 4 (of64 (hs.getD i Hop.z).ix).toNat)) := h.seen_row zz5
            exact Seen.re8 q
          · have q : Seen w.cell? b55 ((hs.getD i Hop.z).chs.length * 16) 1 (v8s (hs.getD i Hop.z).chs.flatten) := h.seen_row zz5
            exact Seen.re8 q
          · have q : Seen w.cell? b59 ((hs.getD i Hop.z).ps.length * 16) 1 (v8s (hs.getD i Hop.z).ps.flatten) := h.seen_row zz5
            exact Seen.re8 q⟩ zz18
          rw [flatK_4] at q
          exact q) rfl (fun _ => (fun w h => .inr (h.sub SubC.h SubC.h))) (fun b61 p61 => ?_)
        refine wpd_t 16 rfl zz6 trivial (t_pur Tryd.hb76 rfl fun w h => sumW b61 (((headB (hs.getD i Hop.z)) ++ (restF ⟨pf, pa, pb, pl, hv, hs⟩ i)) ++ (tailH (hs.getD i Hop.z))) w h.seenV (hsee2 h).2) rfl (fun _ => (fun w h => .inr (h.sub SubC.h SubC.h))) (fun b62 => ?_)
        refine wpd_t0 18 rfl zz6 trivial (t_stA Tryd.ti113 rfl rfl zz46 (v8s_one _) zz39) (fun _ => skk rfl) (fun _ => ?_)
        refine wpd_done zz6 ?_
        refine ex_then <| wpc_region <| wpl_q (q_arAll Tryd.underlying113 Tryd.ti5 rfl rfl) rfl <| wpl_q (q_pure rfl) rfl <| wpl_nil <| ex_block <| ex_then <| wpc_region ?_
        refine wpl_q (q_addN (b := 1) rfl rfl zz2) rfl ?_
        refine wpl_q (q_pure rfl) rfl <| wpl_nil ?_
        refine ex_again ⟨(i + 1, arv b8 32, u44, nums (.row b40 ((headB (hs.getD i Hop.z)) ++ (restF ⟨pf, pa, pb, pl, hv, hs⟩ i)).length 5 1 (v8s ((headB (hs.getD i Hop.z)) ++ (restF ⟨pf, pa, pb, pl, hv, hs⟩ i))) :: .row b39 2 32 1 [b37, rv] :: .row b37 27 5 1 (v8s (headB (hs.getD i Hop.z))) :: .blk b6 68 (hs.getD i Hop.z).c :: [rE]), .blk b8 113 (v8s (sumF (((headB (hs.getD i Hop.z)) ++ (restF ⟨pf, pa, pb, pl, hv, hs⟩ i)) ++ (tailH (hs.getD i Hop.z)))))), ⟨zz41, zz24, zz22, fun w h => zz19⟩⟩ ?_ ?_ ?_
        ·
         exact zz12
        ·
         exact fun w h => h.sel
        ·
         (show hs.length - (i + 1) < hs.length - i); omega
      ·
       refine wpa_t 17 rfl trivial (t_alloc Tryd.ti113 (v8s (List.replicate 32 0)) rfl) rfl (fun _ => (fun w h => .inr (h.sub SubC.h SubC.h))) (fun b8 => ?_)
       refine wpd_tp 5 rfl zz6 trivial (t_callP1 Tryd.hb74 rfl fun w h => wordB (of64 (hs.getD i Hop.z).ix) 4 w zz17) rfl (fun _ => (fun w h => .inr (h.sub SubC.h SubC.h))) (fun b51 p51 => ?_)
       refine wpd_tp 9 rfl zz6 trivial (t_callP1 Tryd.hb77 rfl fun w h => shorts (hs.getD i Hop.z).cv (hs.getD i Hop.z).chs w ((hsee2 h).1.2 _ (getD_memO hil)).1 hsi.2.1 zz13) rfl (fun _ => (fun w h => .inr (h.sub SubC.h SubC.h))) (fun b55 p55 => ?_)
       refine wpd_tp 13 rfl zz6 trivial (t_callP1 Tryd.hb77 rfl fun w h => shorts (hs.getD i Hop.z).pv (hs.getD i Hop.z).ps w ((hsee2 h).1.2 _ (getD_memO hil)).2.2.1 hsi.2.2.2 zz13) rfl (fun _ => (fun w h => .inr (h.sub SubC.h SubC.h))) (fun b59 p59 => ?_)
       refine wpd_tp 14 rfl zz6 trivial (t_bsV [b40, b51, b55, b59] Tryd.underlying160 Tryd.ti32 rfl rfl zz17 zz17 rfl zz28) rfl (fun _ => (fun w h => .inr (h.sub SubC.h SubC.h))) (fun b60 p60 => ?_)
       refine wpd_tp 15 rfl zz6 trivial (t_callP1 Tryd.hb73 rfl fun w h => by
         have q := joinB b60 [(b40, ((headB (hs.getD i Hop.z)) ++ (restF ⟨pf, pa, pb, pl, hv, hs⟩ i))), (b51, numK 4 (of64 (hs.getD i Hop.z).ix).toNat), (b55, (hs.getD i Hop.z).chs.flatten), (b59, (hs.getD i Hop.z).ps.flatten)] w ⟨h.seenV, fun q hq => by
         simp only [List.mem_cons, List.not_mem_nil, or_false] at hq
         rcases hq with rfl | rfl | rfl | rfl
         · exact h.seen_row zz5
         · have q : Seen w.cell? b51 4 1 (v8s (numK 4 (of64 (hs.getD i Hop.z).ix).toNat)) := h.seen_row zz5
           exact Seen.re8 q
         · have q : Seen w.cell? b55 ((hs.getD i Hop.z).chs.length * 16) 1 (v8s (hs.getD i Hop.z).chs.flatten) := h.seen_row zz5
           exact Seen.re8 q
         · have q : Seen w.cell? b59 ((hs.getD i Hop.z).ps.length * 16) 1 (v8s (hs.getD i Hop.z).ps.flatten) := h.seen_row zz5
           exact Seen.re8 q⟩ zz18
         rw [flatK_4] at q
         exact q) rfl (fun _ => (fun w h => .inr (h.sub SubC.h SubC.h))) (fun b61 p61 => ?_)
       refine wpd_t 16 rfl zz6 trivial (t_pur Tryd.hb76 rfl fun w h => sumW b61 (((headB (hs.getD i Hop.z)) ++ (restF ⟨pf, pa, pb, pl, hv, hs⟩ i)) ++ (tailH (hs.getD i Hop.z))) w h.seenV (hsee2 h).2) rfl (fun _ => (fun w h => .inr (h.sub SubC.h SubC.h))) (fun b62 => ?_)
       refine wpd_t0 18 rfl zz6 trivial (t_stA Tryd.ti113 rfl rfl zz46 (v8s_one _) zz39) (fun _ => skk rfl) (fun _ => ?_)
       refine wpd_done zz6 ?_
       refine ex_then <| wpc_region <| wpl_q (q_arAll Tryd.underlying113 Tryd.ti5 rfl rfl) rfl <| wpl_q (q_pure rfl) rfl <| wpl_nil <| ex_block <| ex_then <| wpc_region ?_
       refine wpl_q (q_addN (b := 1) rfl rfl zz2) rfl ?_
       refine wpl_q (q_pure rfl) rfl <| wpl_nil ?_
       refine ex_again ⟨(i + 1, arv b8 32, u44, nums (.row b40 ((headB (hs.getD i Hop.z)) ++ (restF ⟨pf, pa, pb, pl, hv, hs⟩ i)).length 5 1 (v8s ((headB (hs.getD i Hop.z)) ++ (restF ⟨pf, pa, pb, pl, hv, hs⟩ i))) :: .row b39 2 32 1 [b37, rv] :: .row b37 27 5 1 (v8s (headB (hs.getD i Hop.z))) :: .blk b6 68 (hs.getD i Hop.z).c :: [rE]), .blk b8 113 (v8s (sumF (((headB (hs.getD i Hop.z)) ++ (restF ⟨pf, pa, pb, pl, hv, hs⟩ i)) ++ (tailH (hs.getD i Hop.z)))))), ⟨zz41, zz24, zz22, fun w h => zz19⟩⟩ ?_ ?_ ?_
       ·
        exact zz12
       ·
        exact fun w h => h.sel
       ·
        (show hs.length - (i + 1) < hs.length - i); omega
     ·
      intro u44 hu44
      refine wil_q (q_pure rfl) rfl ?_
      refine wil_nil ?_
      refine ex_then ?_
      refine wpc_cond_t rfl ?_
      refine wpc_ret ?_
      refine ex_then_ret ?_
      refine ex_block_ret ?_
      refine ex_then_ret ?_
      refine ex_then_ret ?_
      refine ex_block_ret ?_
      refine ret0 (.inl rfl) rfl ?_
      exact fun w h => iter_stop hsk hu44 h
    ·
     simp only [decide_eq_false_iff_not] at hc32
     obtain rfl : i = hs.length := by omega
     rw [msgs_all ⟨pf, pa, pb, pl, hv, hs⟩] at hi2
     refine wpc_exit ?_
     refine ex_then_exit ?_
     refine ex_then_exit ?_
     refine ex_block_hit ?_
     refine ret0 (.inr rfl) rfl ?_
     exact fun w h => iter_done hst hi2 h
end Go.Proofs.YtjpfhkjmjnjggaaDoor
namespace Go.Proofs.YtjpfhkjmjnjggaaDoor
open Go Go.PL Go.RowKit
theorem msgs_mem {p : Pth} {x : Nat × List UInt8} (h : x ∈ msgs p) : x.2 = msgB p x.1 ∧ x.1 < p.hs.length := by
  simp only [msgs, List.mem_map, List.mem_range] at h
  obtain ⟨i, hi, rfl⟩ := h
  exact ⟨rfl, hi⟩
theorem msgs_at {p : Pth} {j : Nat} (h : j < p.hs.length) : (j, msgB p j) ∈ msgs p := List.mem_map.2 ⟨j, List.mem_range.2 h, rfl⟩
theorem pre_mem {α : Type} {pre xs : List α} {x : α} (h : (pre ++ [x]) <+: xs) : x ∈ xs := h.subset zz38
abbrev SmP (p : Pth) : Prop := ∀ h ∈ p.hs, h.chs.length ≤ 100 ∧ h.ps.length ≤ 100
theorem msgs_it (p : Pth) (pp : Nat) (w : World) (hpp : w.heap[pp]? = some (.cells p.c.toArray 29 (0, 0))) (hlim : SmP p) : IterStop Tryd.prog 72 #[.pointer (some ⟨pp, 0, none⟩)] encM AtM (InvM p) (msgs p) [pp] w :=
  fun l J K hst hinv hsk hy hJ0 => messages1 l pp p J K w hst hinv hsk hy hJ0 hpp hlim
theorem message_ (p : Pth) (j : Nat) (w : World) (hp : p.seen w.cell?) (hj : j < p.hs.length) (hlim : SmP p) (hG : Glb w) :
    Calls Tryd.prog 38 [.agg p.c.toArray, .int .i64 ((j : Nat) : Int)].toArray w (GivesP w (fun v => SV v (msgB p j).length) (fun v => v) (fun v => [.row v (msgB p j).length 5 1 (v8s (msgB p j))]) (fun _ => [])) := by
  obtain ⟨pf, pa, pb, pl, hv, hs⟩ := p
  have hh : Seen w.cell? hv hs.length 24 (hcs hs) := hp.1
  have svh := hh.sv
  have lh := svh.le
  simp only [maxLen] at lh
  refine enterN (m := 15) (R := Mem w [] [] []) Tryd.func38 rfl rfl (Nat.le_of_ble_eq_true rfl) (Mem.start w) ?_
  refine wpc_seq <| wpc_region ?_
  refine wpl_t (t_box rfl [.int .u8 (pf.toNat : Int), .int .u64 (pa.toNat : Int), .int .u64 (pb.toNat : Int), .int .i64 pl, hv] rfl) rfl (fun b2 => ?_)
  refine wpl_t (t_box rfl [.int .i64 ((j : Nat) : Int)] rfl) rfl (fun b3 => ?_)
  refine wpl_t (t_alloc Tryd.ti32 [.slice none 0 0] rfl) rfl (fun b4 => ?_)
  refine wpl_nil <| ex_then <| wpc_seq <| wpc_seq <| wpc_region <| wpl_q (q_ldN Tryd.underlying29 rfl Tryd.ti29 rfl LenC.h) rfl ?_
  refine wpl_t (t_call (N := fun pq => [.blk pq 29 [.int .u8 (pf.toNat : Int), .int .u64 (pa.toNat : Int), .int .u64 (pb.toNat : Int), .int .i64 pl, hv]]) (T := fun _ => []) Tryd.hb49 rfl fun w h => messages ⟨pf, pa, pb, pl, hv, hs⟩ w svh) rfl (fun b8 => ?_)
  refine wpl_nil <| ex_then <| wpc_block ?_
  refine wpc_mono (R' := Mem w [] ([.blk b8 29 [.int .u8 (pf.toNat : Int), .int .u64 (pa.toNat : Int), .int .u64 (pb.toNat : Int), .int .i64 pl, hv]] ++ [.blk b4 32 [.slice none 0 0], .blk b3 3 [.int .i64 ((j : Nat) : Int)], .blk b2 29 [.int .u8 (pf.toNat : Int), .int .u64 (pa.toNat : Int), .int .u64 (pb.toNat : Int), .int .i64 pl, hv]]) []) (fun w h => h) ?_
  refine wpc_rangeG (encs := encM) (At := AtM) (Inv := (InvM ⟨pf, pa, pb, pl, hv, hs⟩)) (xs := (msgs ⟨pf, pa, pb, pl, hv, hs⟩)) (ρ := Value) (β := Unit) [.blk b8 29 [.int .u8 (pf.toNat : Int), .int .u64 (pa.toNat : Int), .int .u64 (pb.toNat : Int), .int .i64 pl, hv]] (fun _ : Unit => [.blk b4 32 [.slice none 0 0], .blk b3 3 [.int .i64 ((j : Nat) : Int)], .blk b2 29 [.int .u8 (pf.toNat : Int), .int .u64 (pa.toNat : Int), .int .u64 (pb.toNat : Int), .int .i64 pl, hv]]) (fun pre _ => ∀ x ∈ pre, x.1 ≠ j) () (fun r => SV r (msgB ⟨pf, pa, pb, pl, hv, hs⟩ j).length) (fun _ => .ret) (fun r => [.blk b4 32 [r], .blk b3 3 [.int .i64 ((j : Nat) : Int)], .blk b2 29 [.int .u8 (pf.toNat : Int), .int .u64 (pa.toNat : Int), .int .u64 (pb.toNat : Int), .int .i64 pl, hv]]) (fun r => [.row r (msgB ⟨pf, pa, pb, pl, hv, hs⟩ j).length 5 1 (v8s (msgB ⟨pf, pa, pb, pl, hv, hs⟩ j))]) (fun x i _ => []) (fun x i b => [(2, .pointer (some ⟨b2, 0, none⟩)), (3, .pointer (some ⟨b3, 0, none⟩)), (4, .pointer (some ⟨b4, 0, none⟩)), (5, .int .i64 ((x.1 : Nat) : Int)), (6, i)]) rfl Tryd.hb72 (fun x hx => by cases hx) (fun w h k hk => by rw [show k = b8 by simpa [nums, Ent.num] using hk]; exact (h.new (.blk b8 29 [.int .u8 (pf.toNat : Int), .int .u64 (pa.toNat : Int), .int .u64 (pb.toNat : Int), .int .i64 pl, hv]) zz38 b8 rfl).resolve_right zz38) (fun w h => msgs_it ⟨pf, pa, pb, pl, hv, hs⟩ b8 w (h.own (.blk b8 29 [.int .u8 (pf.toNat : Int), .int .u64 (pa.toNat : Int), .int .u64 (pb.toNat : Int), .int .i64 pl, hv]) zz38) hlim) (fun _ _ _ _ h => ⟨hp.old h, glob h hG⟩) (fun _ _ _ _ _ h hk => RowAt.keep h hk) (fun _ _ => rfl) zz17 ?_ ?_ ?_ ?_
  ·
   intro l x i w1 K hK
   refine wic_seq ?_
   refine wic_region ?_
   refine wil_q (q_pure rfl) rfl ?_
   refine wil_nil ?_
   refine eix_then ?_
   refine wic_region ?_
   refine wil_q (q_pure rfl) rfl ?_
   refine wil_nil ?_
   exact fun a w hs h => hK () a w (hs.weaken (subs_get zz12)) h
  ·
   intro l pre x i s b w1 T hgs hpre hm hat hT
   obtain ⟨hx2, hx1⟩ := msgs_mem (pre_mem hpre)
   have hat : RowAt T (.row i x.2.length 5 1 (v8s x.2)) w1 := hat
   show WPCI _ _ _ _ (Mem w1 (nums [.blk b4 32 [.slice none 0 0], .blk b3 3 [.int .i64 ((j : Nat) : Int)], .blk b2 29 [.int .u8 (pf.toNat : Int), .int .u64 (pa.toNat : Int), .int .u64 (pb.toNat : Int), .int .i64 pl, hv]]) [.blk b4 32 [.slice none 0 0], .blk b3 3 [.int .i64 ((j : Nat) : Int)], .blk b2 29 [.int .u8 (pf.toNat : Int), .int .u64 (pa.toNat : Int), .int .u64 (pb.toNat : Int), .int .i64 pl, hv]] []) _ _
   refine wic_block ?_
   refine wic_seq ?_
   refine wic_region ?_
   refine wil_q (q_pure rfl) rfl ?_
   refine wil_q (q_ld Tryd.underlying3 rfl rfl zz33) rfl ?_
   refine wil_q (q_pure rfl) rfl ?_
   refine wil_nil ?_
   refine eix_then ?_
   refine wic_cond rfl (fun hc13 => ?_) (fun hc13 => ?_)
   ·
    have hxq : ((x.1 : Nat) : Int) = ((j : Nat) : Int) := by simpa using hc13
    have hxj : x.1 = j := by omega
    have hsi : SV i (msgB ⟨pf, pa, pb, pl, hv, hs⟩ j).length := by rw [← hxj, ← hx2]; exact (Mem.startR w1 hat.1).seenV.sv
    refine wic_seq ?_
    refine wic_region ?_
    refine wil_q (q_pure rfl) rfl ?_
    refine wil_t0 (t_st1 Tryd.ti32 rfl rfl (SV.one zz4) zz7 _ rfl) (fun _ => ?_)
    refine wil_nil ?_
    refine eix_then ?_
    refine wic_ret ?_
    refine ex_block_ret ?_
    refine ex_roundR ?_
    exact fun w h => ⟨i, hsi, rfl, h.sub zz8 .nil, by rw [← hxj, ← hx2]; exact hat.gain⟩
   ·
    have hxq : ¬ ((x.1 : Nat) : Int) = ((j : Nat) : Int) := by simpa using hc13
    have hne : ¬ x.1 = j := by omega
    refine wic_skip ?_
    refine ex_block ?_
    refine ex_roundN ?_
    exact fun w h => ⟨(), fun y hy => by rcases List.mem_append.1 hy with hy | hy; exact hgs y hy; rw [List.mem_singleton] at hy; subst hy; exact hne, h.sub zz8 .nil⟩
  ·
   intro D s hgs
   exact absurd rfl (hgs _ (msgs_at (p := ⟨pf, pa, pb, pl, hv, hs⟩) hj))
  ·
   intro D r hr
   have hr : SV r (msgB ⟨pf, pa, pb, pl, hv, hs⟩ j).length := hr
   refine wpc_weaken (R1 := Mem w [] [.obj D (.deferred (some [])), .blk b4 32 [r], .blk b3 3 [.int .i64 ((j : Nat) : Int)], .blk b2 29 [.int .u8 (pf.toNat : Int), .int .u64 (pa.toNat : Int), .int .u64 (pb.toNat : Int), .int .i64 pl, hv], .row r (msgB ⟨pf, pa, pb, pl, hv, hs⟩ j).length 5 1 (v8s (msgB ⟨pf, pa, pb, pl, hv, hs⟩ j))] []) (L1 := [(2, .pointer (some ⟨b2, 0, none⟩)), (3, .pointer (some ⟨b3, 0, none⟩)), (4, .pointer (some ⟨b4, 0, none⟩))]) zz12 (fun w h => h) ?_
   refine wpc_ret ?_
   refine ex_block_ret ?_
   refine ex_then_ret ?_
   refine ex_markN (.inl rfl) .here ?_
   refine retv1 (.inl rfl) rfl (rv_one Tryd.underlying32 rfl rfl (fun w h => h.cell_blk zz5 rfl)) ?_
   exact fun w h => ⟨r, hr, rfl, h.below, h.made zz8 .nil⟩
end Go.Proofs.YtjpfhkjmjnjggaaDoor
namespace Go.Proofs.YtjpfhkjmjnjggaaDoor
open Go Go.PL Go.RowKit
def msgE (p : Pth) (i : Int) : Int := if chkP p ≠ 0 then chkP p else if i < 0 ∨ (p.hs.length : Int) ≤ i then 2 else 0
def msgV (p : Pth) (i : Int) : List UInt8 := if msgE p i = 0 then msgB p i.toNat else []
theorem msgE_chk {p : Pth} {i : Int} (h : chkP p ≠ 0) : msgE p i = chkP p := if_pos h
theorem msgE_arg {p : Pth} {i : Int} (h : chkP p = 0) (h2 : i < 0 ∨ (p.hs.length : Int) ≤ i) : msgE p i = 2 := (if_neg (by simp [h])).trans (if_pos h2)
theorem msgE_ok {p : Pth} {i : Int} (h : chkP p = 0) (h1 : ¬ i < 0) (h2 : ¬ (p.hs.length : Int) ≤ i) : msgE p i = 0 := (if_neg (by simp [h])).trans (if_neg zz13)
theorem msgV_no {p : Pth} {i : Int} (h : msgE p i ≠ 0) : msgV p i = [] := if_neg h
theorem msgV_ok {p : Pth} {j : Nat} (h : msgE p (j : Int) = 0) : msgV p (j : Int) = msgB p j := if_pos h
theorem msgE_inv {p : Pth} {i : Int} (h : msgE p i = 0) : ∃ j : Nat, i = (j : Int) ∧ j < p.hs.length := by
  unfold msgE at h
  split at h
  · rename_i hk; exact absurd h hk
  · split at h
    · cases h
    · rename_i h2
      rw [not_or] at h2
      exact ⟨i.toNat, zz13, zz13⟩
theorem nilRow0 {w0 w : World} {Ln : List Nat} {M : List Ent} {S : List Fact} {p : Pth} {i : Int} (h : Mem w0 Ln M S w) (hn : msgE p i ≠ 0) : Mem w0 Ln (.row (.slice none 0 0) (msgV p i).length 5 1 (v8s (msgV p i)) :: M) S w := by
  rw [msgV_no hn]; exact h.nilRow 5 1
theorem hopMessage (p : Pth) (i : Int) (w : World) (hp : p.seen w.cell?) (hlim : SmP p) (hG : Glb w) :
    Calls Tryd.prog 13 [.agg p.c.toArray, .int .i64 i].toArray w (GivesP w (fun v => SV v (msgV p i).length) (fun v => .tuple #[v, .int .i64 (msgE p i)]) (fun v => [.row v (msgV p i).length 5 1 (v8s (msgV p i))]) (fun _ => [])) := by
  obtain ⟨pf, pa, pb, pl, hv, hs⟩ := p
  have hh : Seen w.cell? hv hs.length 24 (hcs hs) := hp.1
  have svh := hh.sv
  have lh := svh.le
  simp only [maxLen] at lh
  refine enter (m := 28) (R := Mem w [] [] []) Tryd.func13 rfl rfl (Nat.le_of_ble_eq_true rfl) (Mem.start w) ?_
  refine wpc_seq <| wpc_region ?_
  refine wpl_t (t_box rfl [.int .u8 (pf.toNat : Int), .int .u64 (pa.toNat : Int), .int .u64 (pb.toNat : Int), .int .i64 pl, hv] rfl) rfl (fun b2 => ?_)
  refine wpl_q (q_pure rfl) rfl <| wpl_q (q_pure rfl) rfl <| wpl_nil <| ex_then <| wpc_seq <| wpc_region <| wpl_q (q_ldN Tryd.underlying29 rfl Tryd.ti29 rfl LenC.h) rfl ?_
  refine wpl_t (t_pur Tryd.hb17 rfl fun w h => hopCheck ⟨pf, pa, pb, pl, hv, hs⟩ w (hp.old h)) rfl (fun b8 => ?_)
  refine wpl_q (q_pure rfl) rfl <| wpl_nil <| ex_then ?_
  refine wpc_cutc ({ x : Int // (x = msgE ⟨pf, pa, pb, pl, hv, hs⟩ i) }) [(1, .int .i64 i), (2, .pointer (some ⟨b2, 0, none⟩))] (fun x Lc => (6, .int .i64 x.1) :: Lc) (fun x => Mem w [] [.blk b2 29 [.int .u8 (pf.toNat : Int), .int .u64 (pa.toNat : Int), .int .u64 (pb.toNat : Int), .int .i64 pl, hv]] []) ?_ ?_
  ·
   refine wpc_seq <| wpc_region <| wpl_q (q_pure rfl) rfl <| wpl_q (q_pure rfl) rfl <| wpl_q (q_pure rfl) rfl ?_
   refine wpl_bool2 11 10 rfl rfl (fun hb11 => ?_) (fun hb11 => ?_)
   ·
    have hk0 : chkP ⟨pf, pa, pb, pl, hv, hs⟩ = 0 := by simpa using hb11
    refine wpl_on rfl rfl <| wpl_q (q_pure rfl) rfl <| wpl_on rfl rfl <| wpl_q (q_pure rfl) rfl <| wpl_on rfl rfl <| wpl_q (q_pure rfl) rfl ?_
    refine wpl_bool2 14 13 rfl rfl (fun hb14 => ?_) (fun hb14 => ?_)
    ·
     have hX : 2 = msgE ⟨pf, pa, pb, pl, hv, hs⟩ i := (msgE_arg hk0 (.inl (by simpa using hb14))).symm
     refine wpl_off rfl rfl rfl rfl <| wpl_off rfl rfl rfl rfl <| wpl_off rfl rfl rfl rfl <| wpl_off rfl rfl rfl rfl <| wpl_off rfl rfl rfl rfl <| wpl_on rfl rfl <| wpl_q (q_pure rfl) rfl <| wpl_q (q_pure rfl) rfl <| wpl_nil <| ex_then ?_
     refine wpc_cond_t rfl ?_
     refine wpc_region <| wpl_q (q_pure rfl) rfl <| wpl_nil ?_
     refine ex_mid ⟨2, hX⟩ ?_ ?_
     ·
      exact zz12
     ·
      exact fun w h => by first | exact h | exact h.sub SubC.h SubC.h | exact h.sub zz8 zz8
    ·
     have hn1 : ¬ i < 0 := by simpa using hb14
     refine wpl_on rfl rfl <| wpl_q (q_pure rfl) rfl <| wpl_on rfl rfl <| wpl_q (q_field Tryd.underlying29 rfl Tryd.ti27 rfl rfl _ rfl) rfl <| wpl_on rfl rfl <| wpl_q (q_ld Tryd.underlying27 rfl rfl rfl) rfl <| wpl_on rfl rfl ?_
     refine wpl_q (q_lenW Tryd.underlying27 rfl zz4) rfl ?_
     refine wpl_on rfl rfl <| wpl_q (q_pure rfl) rfl <| wpl_on rfl rfl <| wpl_q (q_pure rfl) rfl <| wpl_q (q_pure rfl) rfl <| wpl_nil <| ex_then ?_
     refine wpc_cond rfl (fun hc21 => ?_) (fun hc21 => ?_)
     ·
      have hX : 2 = msgE ⟨pf, pa, pb, pl, hv, hs⟩ i := (msgE_arg hk0 (.inr (by simpa using hc21))).symm
      refine wpc_region <| wpl_q (q_pure rfl) rfl <| wpl_nil ?_
      refine ex_mid ⟨2, hX⟩ ?_ ?_
      ·
       exact zz12
      ·
       exact fun w h => by first | exact h | exact h.sub SubC.h SubC.h | exact h.sub zz8 zz8
     ·
      have hn2 : ¬ (hs.length : Int) ≤ i := by simpa using hc21
      have hX : chkP ⟨pf, pa, pb, pl, hv, hs⟩ = msgE ⟨pf, pa, pb, pl, hv, hs⟩ i := hk0.trans (msgE_ok (p := ⟨pf, pa, pb, pl, hv, hs⟩) hk0 hn1 hn2).symm
      refine wpc_skip ?_
      refine ex_mid ⟨chkP ⟨pf, pa, pb, pl, hv, hs⟩, hX⟩ ?_ ?_
      ·
       exact zz12
      ·
       exact fun w h => by first | exact h | exact h.sub SubC.h SubC.h | exact h.sub zz8 zz8
   ·
    have hk : chkP ⟨pf, pa, pb, pl, hv, hs⟩ ≠ 0 := by simpa using hb11
    have hX : chkP ⟨pf, pa, pb, pl, hv, hs⟩ = msgE ⟨pf, pa, pb, pl, hv, hs⟩ i := (msgE_chk hk).symm
    refine wpl_off rfl rfl rfl rfl <| wpl_off rfl rfl rfl rfl <| wpl_off rfl rfl rfl rfl <| wpl_off rfl rfl rfl rfl <| wpl_off rfl rfl rfl rfl <| wpl_off rfl rfl rfl rfl <| wpl_off rfl rfl rfl rfl <| wpl_off rfl rfl rfl rfl <| wpl_off rfl rfl rfl rfl <| wpl_q (q_pure rfl) rfl <| wpl_nil <| ex_then ?_
    refine wpc_cond_f rfl ?_
    refine wpc_skip ?_
    refine ex_mid ⟨chkP ⟨pf, pa, pb, pl, hv, hs⟩, hX⟩ ?_ ?_
    ·
     exact zz12
    ·
     exact fun w h => by first | exact h | exact h.sub SubC.h SubC.h | exact h.sub zz8 zz8
  ·
   rintro ⟨e, hi0⟩; try dsimp only
   have hi0 : e = msgE ⟨pf, pa, pb, pl, hv, hs⟩ i := hi0
   refine wpc_seq <| wpc_seq <| wpc_region <| wpl_q (q_pure rfl) rfl <| wpl_q (q_pure rfl) rfl <| wpl_nil <| ex_then ?_
   refine wpc_cond rfl (fun hc23 => ?_) (fun hc23 => ?_)
   ·
    have hE0 : msgE ⟨pf, pa, pb, pl, hv, hs⟩ i ≠ 0 := by rw [← hi0]; simpa using hc23
    refine wpc_seq <| wpc_region <| wpl_q (q_pure rfl) rfl <| wpl_q (q_pure rfl) rfl <| wpl_q (q_pure rfl) rfl <| wpl_nil <| ex_then <| wpc_ret ?_
    refine ex_then_ret ?_
    refine ret2 (.inl rfl) rfl rfl rfl ?_
    exact fun w h => ⟨.slice none 0 0, by rw [msgV_no hE0]; exact SV.nil, by rw [hi0], h.below, (nilRow0 h hE0).made SubC.h .nil⟩
   ·
    have hE : msgE ⟨pf, pa, pb, pl, hv, hs⟩ i = 0 := by rw [← hi0]; simpa using hc23
    obtain ⟨j, rfl, hj⟩ := msgE_inv hE
    refine wpc_skip <| ex_then <| wpc_seq <| wpc_region <| wpl_q (q_ldN Tryd.underlying29 rfl Tryd.ti29 rfl LenC.h) rfl <| wpl_q (q_pure rfl) rfl ?_
    refine wpl_tp (t_callP1 Tryd.hb38 rfl fun w h => message_ ⟨pf, pa, pb, pl, hv, hs⟩ j w (hp.old h) hj hlim (glob h hG)) rfl (fun b27 p27 => ?_)
    refine wpl_q (q_pure rfl) rfl <| wpl_q (q_pure rfl) rfl <| wpl_nil <| ex_then <| wpc_ret ?_
    refine ret2 (.inl rfl) rfl rfl rfl ?_
    exact fun w h => ⟨b27, by rw [msgV_ok hE]; exact p27, by rw [hE], h.below, by rw [msgV_ok hE]; exact h.made SubC.h .nil⟩
end Go.Proofs.YtjpfhkjmjnjggaaDoor
namespace Go.Proofs.YtjpfhkjmjnjggaaDoor
open Go Go.PL Go.RowKit
theorem t_copyA {P : Program} {Q : Exit → Act → World → Prop} {n : Cx} {L : Slots} {w0 : World} {Ln : List Nat} {M : List Ent} {S : List Fact} {dT sT e : TypeId} {x y : Operand} {v u : Value} {m mu : Nat} {xs vs : List Value} {f : Ent → List Ent} {z : Value} {by_ : Nat} (hu : P.underlying dT = some (.slice e)) (he : TyI P e z 1 by_)
    [hr : ReplV M v m e 1 xs f] (hx : ev L x = some v) (hy : ev L y = some u)
    (hsrc : ∀ w, Mem w0 Ln M S w → Seen w.cell? u mu 1 vs) (h1 : ∀ v ∈ vs, v.oneCell' = true) (q : Nat) (hq : min mu m = q) (ys : List Value) (hys : vs.take q ++ xs.drop q = ys) :
    TOp P Q n (Mem w0 Ln M S) L (.call { callee := .builtin .copy, args := #[x, y], argTypes := #[dT, sT] }) Unit (fun _ => .int .i64 (q : Nat)) (fun _ => Mem w0 Ln (f (.row v m e 1 ys)) S) := by
  by_cases hm0 : m = 0
  · intro d ty pos af g a w K hs hm hk
    obtain ⟨i, hi, hz, hsz, _⟩ := he.info
    have hown : w.ownsRow 0 e 1 v m xs := hm.own _ (hr.out (.blk 0 0 [])).mem
    have hxl : xs = [] := List.length_eq_zero_iff.1 (by rw [hown.1, hm0])
    have q0 : q = 0 := by omega
    subst q0 hxl
    obtain rfl : ys = [] := by rw [← hys]; simp
    obtain ⟨ad, dc, rfl⟩ : ∃ ad dc, v = .slice ad m dc := by
      rcases hown.2 with ⟨h, h0⟩ | ⟨gb, cap, cur, hv, _⟩
      · exact ⟨none, 0, by rw [h, h0]⟩
      · exact ⟨_, _, hv⟩
    obtain ⟨q1, ad2, scap, rfl, q3, q4, q5⟩ := hsrc w hm
    have r1 := run_copy_none (P := P) w dT sT ty e ad ad2 m dc mu scap hu (by simp [hi, hsz]) (by show min mu m = 0; omega)
    have r2 : Mem w0 Ln (f (.row (.slice ad m dc) m e 1 [])) S w := hm.turn (hr.out _) rfl rfl rfl (Nat.le_refl _) (fun _ _ _ => rfl) hown (fun k hk => .inl hk)
    have hrun : (execOp a.eval ⟨d, .call { callee := .builtin .copy, args := #[x, y], argTypes := #[dT, sT] }, ty, pos, af, g⟩).run P w = .ok (.value (.int .i64 ((0 : Nat) : Int))) w := by
      simp only [execOp, resolve, invoke, builtin, Sem.run_bind, Sem.run_pure, Result.andThen_ok, List.map_toArray, List.map_cons, List.map_nil, hs.eval hx, hs.eval hy, r1]
      rfl
    unfold Oper.wp
    rw [hrun]
    exact hk () _ r2
  · exact t_copyW hu he v hx (fun g cap hv => ⟨cap, hv⟩) (l := 0) (dl := m) zz13 zz13 hy hsrc h1 q hq ys (by rw [List.take_zero, List.nil_append, Nat.zero_add]; exact hys)
def mulHi (x y : UInt64) : UInt64 := (((sr64 x 32 * sr64 y 32) + sr64 (sr64 x 32 * (y &&& 4294967295) + sr64 ((x &&& 4294967295) * (y &&& 4294967295)) 32) 32) + sr64 (((sr64 x 32 * (y &&& 4294967295) + sr64 ((x &&& 4294967295) * (y &&& 4294967295)) 32) &&& 4294967295) + ((x &&& 4294967295) * sr64 y 32)) 32)
theorem mul_small : ∀ n < 256, mulHi (of64 ((1 : Nat) : Int)) (of64 ((n : Nat) : Int)) = 0 ∧ (of64 ((1 : Nat) : Int) * of64 ((n : Nat) : Int)).toNat = n := by decide
theorem mul64 (x : UInt64) (y : UInt64) (w : World)   :
    Calls Tryd.prog 90 [.int .u64 x.toNat, .int .u64 y.toNat].toArray w (Pur w (.tuple #[.int .u64 ((mulHi x y).toNat : Int), .int .u64 ((x * y).toNat : Int)])) := by
  refine enter (m := 51) (R := Mem w [] [] []) Tryd.func90 rfl rfl (Nat.le_of_ble_eq_true rfl) (Mem.start w) ?_
  refine wpc_seq <| wpc_region <| wpl_q (q_pure rfl) rfl <| wpl_q (q_pure rfl) rfl <| wpl_nil <| ex_then <| wpc_seq <| wpc_region <| wpl_q (q_pure rfl) rfl ?_
  refine wpl_q (q64_and (b := (4294967295 : UInt64)) rfl rfl) rfl ?_
  refine wpl_q (q_pure rfl) rfl <| wpl_nil <| ex_then <| wpc_seq <| wpc_region <| wpl_q (q_pure rfl) rfl ?_
  refine wpl_q (q64_shr rfl rfl zz30 32 rfl) rfl ?_
  refine wpl_q (q_pure rfl) rfl <| wpl_nil <| ex_then <| wpc_seq <| wpc_region <| wpl_q (q_pure rfl) rfl ?_
  refine wpl_q (q64_and (b := (4294967295 : UInt64)) rfl rfl) rfl ?_
  refine wpl_q (q_pure rfl) rfl <| wpl_nil <| ex_then <| wpc_seq <| wpc_region <| wpl_q (q_pure rfl) rfl ?_
  refine wpl_q (q64_shr rfl rfl zz30 32 rfl) rfl ?_
  refine wpl_q (q_pure rfl) rfl <| wpl_nil <| ex_then <| wpc_seq <| wpc_region <| wpl_q (q_pure rfl) rfl <| wpl_q (q_pure rfl) rfl <| wpl_q (q64_mul rfl rfl) rfl <| wpl_q (q_pure rfl) rfl <| wpl_nil <| ex_then <| wpc_seq ?_
  refine wpc_region <| wpl_q (q_pure rfl) rfl <| wpl_q (q_pure rfl) rfl <| wpl_q (q64_mul rfl rfl) rfl <| wpl_q (q_pure rfl) rfl ?_
  refine wpl_q (q64_shr rfl rfl zz30 32 rfl) rfl ?_
  refine wpl_q (q64_add rfl rfl) rfl <| wpl_q (q_pure rfl) rfl <| wpl_nil <| ex_then <| wpc_seq <| wpc_region <| wpl_q (q_pure rfl) rfl ?_
  refine wpl_q (q64_and (b := (4294967295 : UInt64)) rfl rfl) rfl ?_
  refine wpl_q (q_pure rfl) rfl <| wpl_nil <| ex_then <| wpc_seq <| wpc_region <| wpl_q (q_pure rfl) rfl ?_
  refine wpl_q (q64_shr rfl rfl zz30 32 rfl) rfl ?_
  refine wpl_q (q_pure rfl) rfl <| wpl_nil <| ex_then <| wpc_seq <| wpc_region <| wpl_q (q_pure rfl) rfl <| wpl_q (q_pure rfl) rfl <| wpl_q (q_pure rfl) rfl <| wpl_q (q64_mul rfl rfl) rfl <| wpl_q (q64_add rfl rfl) rfl <| wpl_q (q_pure rfl) rfl <| wpl_nil ?_
  refine ex_then <| wpc_seq <| wpc_region <| wpl_q (q_pure rfl) rfl <| wpl_q (q_pure rfl) rfl <| wpl_q (q64_mul rfl rfl) rfl <| wpl_q (q_pure rfl) rfl <| wpl_q (q64_add rfl rfl) rfl <| wpl_q (q_pure rfl) rfl ?_
  refine wpl_q (q64_shr rfl rfl zz30 32 rfl) rfl ?_
  refine wpl_q (q64_add rfl rfl) rfl <| wpl_q (q_pure rfl) rfl <| wpl_nil <| ex_then <| wpc_seq <| wpc_region <| wpl_q (q_pure rfl) rfl <| wpl_q (q_pure rfl) rfl <| wpl_q (q64_mul rfl rfl) rfl <| wpl_q (q_pure rfl) rfl <| wpl_nil <| ex_then ?_
  refine wpc_ret ?_
  refine ret2 (.inl rfl) rfl rfl rfl ?_
  exact fun w h => ⟨rfl, h.below⟩
theorem mul (x : UInt64) (y : UInt64) (w : World)   :
    Calls Tryd.prog 60 [.int .u64 x.toNat, .int .u64 y.toNat].toArray w (Pur w (.tuple #[.int .u64 ((mulHi x y).toNat : Int), .int .u64 ((x * y).toNat : Int)])) := by
  refine enter (m := 30) (R := Mem w [] [] []) Tryd.func60 rfl rfl (Nat.le_of_ble_eq_true rfl) (Mem.start w) ?_
  refine wpc_seq <| wpc_region <| wpl_q (q_pure rfl) rfl <| wpl_q (q_pure rfl) rfl <| wpl_nil <| ex_then <| wpc_seq ?_
  refine wpc_cond_f rfl ?_
  refine wpc_skip <| ex_then <| wpc_seq <| wpc_region <| wpl_q (q_pure rfl) rfl <| wpl_q (q_pure rfl) rfl ?_
  refine wpl_t (t_pur Tryd.hb90 rfl fun w h => mul64 x y w) rfl (fun b25 => ?_)
  refine wpl_q (q_pure rfl) rfl <| wpl_q (q_pure rfl) rfl <| wpl_q (q_pure rfl) rfl <| wpl_q (q_pure rfl) rfl <| wpl_q (q_pure rfl) rfl <| wpl_nil <| ex_then <| wpc_seq <| wpc_region <| wpl_q (q_pure rfl) rfl <| wpl_q (q_pure rfl) rfl <| wpl_q (q_pure rfl) rfl ?_
  refine wpl_q (q_pure rfl) rfl <| wpl_nil <| ex_then <| wpc_ret ?_
  refine ret2 (.inl rfl) rfl rfl rfl ?_
  exact fun w h => ⟨rfl, h.below⟩
end Go.Proofs.YtjpfhkjmjnjggaaDoor
namespace Go.Proofs.YtjpfhkjmjnjggaaDoor
open Go Go.PL Go.RowKit
theorem rep_snoc (x : UInt32) (a b : Nat) : List.replicate a x ++ List.replicate b x = List.replicate (a + b) x := by rw [List.replicate_append_replicate]
def fillF (x : UInt32) (n k : Nat) : List UInt32 := List.replicate k x ++ List.replicate (n - k) 0
theorem fillF_take (x : UInt32) (n k : Nat) : (fillF x n k).take k = List.replicate k x := by rw [fillF, List.take_left' List.length_replicate]
theorem fillF_drop (x : UInt32) (n k q : Nat) : (fillF x n k).drop (k + q) = List.replicate (n - (k + q)) 0 := by
  rw [fillF, ← List.drop_drop, List.drop_left' List.length_replicate, List.drop_replicate]; congr 1; omega
theorem fillF_next (x : UInt32) {n k q : Nat} (hq : q ≤ k) : (fillF x n k).take k ++ (List.replicate k x).take q ++ (fillF x n k).drop (k + q) = fillF x n (k + q) := by
  rw [fillF_take, fillF_drop, List.take_replicate, Nat.min_eq_left hq, rep_snoc]; rfl
theorem fill0 (x : UInt32) (n : Nat) : (v32s [x]).take (min 1 n) ++ (v32s (List.replicate n 0)).drop (min 1 n) = v32s (fillF x n (min 1 n)) := by
  rw [v32s_take, v32s_drop, ← v32s_append, fillF, List.drop_replicate]
  congr 2
  cases n with
  | zero => rfl
  | succ n => rw [Nat.min_eq_left zz13]; rfl
theorem fillN (x : UInt32) {n k : Nat} (hk : k < n) : (v32s (fillF x n k)).take k ++ (v32s (((fillF x n k).drop 0).take (k - 0))).take (min k (n - k)) ++ (v32s (fillF x n k)).drop (k + min k (n - k)) = v32s (fillF x n (k + min k (n - k))) := by
  rw [List.drop_zero, Nat.sub_zero, v32s_take, v32s_take, v32s_drop, ← v32s_append, ← v32s_append, fillF_take, ← fillF_next x (show min k (n - k) ≤ k from zz13), fillF_take]
theorem Seen.slv32 {r : Rd} {v : Value} {m : Nat} {bs : List UInt32} (h : Seen r v m 1 (v32s bs)) (l k : Nat) (h1 : l ≤ k) (h2 : k ≤ m) : Seen r (slv v l k 1) (k - l) 1 (v32s ((bs.drop l).take (k - l))) := by
  have := Go.PL.Seen.slv h l k h1 h2
  rwa [Nat.mul_one, Nat.mul_one, v32s_drop, v32s_take] at this
theorem slv_form {v : Value} {g cap k n : Nat} (hs : SV v n) (hv : v = .slice (some ⟨g, 0, none⟩) n cap) (hk : k < n) : ∃ dc, slv v k n 1 = .slice (some ⟨g, k, none⟩) (n - k) dc := by
  obtain ⟨a, c, rfl, h1, _⟩ := hs
  cases hv
  refine ⟨cap - k, ?_⟩
  have : ¬ cap = k := by omega
  simp [slv, sliced, Addr.add, this]
  intro h; exact h.symm
theorem fillF_all (x : UInt32) (n : Nat) : fillF x n n = List.replicate n x := by rw [fillF, Nat.sub_self, List.replicate_zero, List.append_nil]
theorem repeat_ (cv : Value) (sy : UInt32) (n : Nat) (w : World) (hcv : Seen w.cell? cv 1 1 (v32s [sy])) (hn : n < 256) :
    Calls Tryd.prog 41 [cv, .int .i64 ((n : Nat) : Int)].toArray w (GivesP w (fun v => SV v n) (fun v => v) (fun v => [.row v n 49 1 (v32s (List.replicate n sy))]) (fun _ => [])) := by
  have scv := hcv.sv
  refine enter (m := 48) (R := Mem w [] [] []) Tryd.func41 rfl rfl (Nat.le_of_ble_eq_true rfl) (Mem.start w) ?_
  refine wpc_seq <| wpc_region <| wpl_q (q_pure rfl) rfl <| wpl_nil <| ex_then <| wpc_seq <| wpc_seq <| wpc_region <| wpl_q (q_pure rfl) rfl <| wpl_q (q_pure rfl) rfl <| wpl_nil <| ex_then ?_
  refine wpc_cond rfl (fun hc10 => ?_) (fun hc10 => ?_)
  ·
   simp only [decide_eq_true_eq] at hc10; omega
  ·
   have hms := mul_small n hn
   refine wpc_skip <| ex_then <| wpc_seq <| wpc_region <| wpl_q (q_pure rfl) rfl ?_
   refine wpl_q (q_lenW Tryd.underlying38 rfl zz4) rfl ?_
   refine wpl_q (q64_conv Tryd.underlying3 Tryd.underlying116 rfl) rfl <| wpl_q (q_pure rfl) rfl <| wpl_q (q64_conv Tryd.underlying3 Tryd.underlying116 rfl) rfl ?_
   refine wpl_t (t_pur Tryd.hb60 rfl fun w h => mul (of64 ((1 : Nat) : Int)) (of64 ((n : Nat) : Int)) w) rfl (fun b18 => ?_)
   refine wpl_q (q_pure rfl) rfl <| wpl_q (q_pure rfl) rfl <| wpl_q (q_pure rfl) rfl <| wpl_q (q_pure rfl) rfl <| wpl_q (q_pure rfl) rfl <| wpl_nil <| ex_then <| wpc_seq <| wpc_seq <| wpc_region <| wpl_q (q_pure rfl) rfl <| wpl_q (q_pure rfl) rfl ?_
   refine wpl_q (q_pure rfl) rfl ?_
   refine wpl_bool2 23 22 rfl rfl (fun hb23 => ?_) (fun hb23 => ?_)
   ·
    rw [hms.1] at hb23; exact absurd hb23 zz17
   ·
    refine wpl_on rfl rfl <| wpl_q (q_pure rfl) rfl <| wpl_on rfl rfl <| wpl_q (q_pure rfl) rfl <| wpl_q (q_pure rfl) rfl <| wpl_nil <| ex_then ?_
    refine wpc_cond rfl (fun hc26 => ?_) (fun hc26 => ?_)
    ·
     have q : (9223372036854775807 : Int) < (((of64 ((1 : Nat) : Int) * of64 ((n : Nat) : Int)).toNat : Nat) : Int) := of_decide_eq_true hc26
     rw [hms.2] at q
     omega
    ·
     refine wpc_skip <| ex_then <| wpc_seq <| wpc_region <| wpl_q (q_pure rfl) rfl ?_
     refine wpl_q (q64_intN Tryd.underlying116 Tryd.underlying3 rfl (by rw [hms.2]; omega)) rfl ?_
     refine wpl_re 29 rfl (congrArg (Value.int .i64) (show (((of64 ((1 : Nat) : Int) * of64 ((n : Nat) : Int)).toNat : Nat) : Int) = ((n : Nat) : Int) from by rw [hms.2])) ?_
     refine wpl_tp (t_mkW Tryd.underlying38 Tryd.ti49 rfl rfl zz2 zz2 zz2 _ rfl (mk32 _)) rfl (fun b30 p30 => ?_)
     refine wpl_q (q_pure rfl) rfl <| wpl_nil <| ex_then <| wpc_seq <| wpc_region <| wpl_q (q_pure rfl) rfl <| wpl_q (q_pure rfl) rfl ?_
     refine wpl_t (t_copyA Tryd.underlying38 Tryd.ti49 rfl rfl (fun w h => h.seen_old hcv) (v32s_one _) (min 1 n) rfl (v32s (fillF sy n (min 1 n))) (fill0 sy n)) rfl (fun b33 => ?_)
     refine wpl_q (q_pure rfl) rfl <| wpl_nil <| ex_then <| wpc_seq <| wpc_block ?_
     refine wpc_loopc (ι := { x : Nat // (x ≤ n) ∧ (n = 0 ∨ 0 < x) }) [(7, _)] (fun x Lc => (8, .int .i64 ((x.1 : Nat) : Int)) :: Lc) (fun x => Mem w [] [.row b30 n 49 1 (v32s (fillF sy n x.1))] []) (fun x => n - x.1) ⟨min 1 n, ⟨zz13, zz13⟩⟩ zz12 ?_ ?_
     ·
      exact fun w h => h
     ·
      rintro ⟨k, ⟨hi0, hi1⟩⟩; try dsimp only
      have hi0 : k ≤ n := hi0; have hi1 : n = 0 ∨ 0 < k := hi1
      refine wpc_seq <| wpc_seq <| wpc_region <| wpl_q (q_pure rfl) rfl <| wpl_q (q_pure rfl) rfl ?_
      refine wpl_q (q_lenW Tryd.underlying38 rfl zz4) rfl ?_
      refine wpl_q (q_pure rfl) rfl <| wpl_nil <| ex_then ?_
      refine wpc_cond rfl (fun hc37 => ?_) (fun hc37 => ?_)
      ·
       simp only [decide_eq_true_eq] at hc37
       have hk : k < n := by omega
       have hk0 : 0 < k := by omega
       refine wpc_skip <| ex_then <| wpc_block ?_
       refine wpc_draw 7 zz6 (fun _ h => h.drew) ?_
       refine wpd_p 0 rfl zz6 trivial (q_pure rfl) rfl sk0 ?_
       refine wpd_p 1 rfl zz6 trivial (q_pure rfl) rfl sk0 ?_
       refine wpd_p 2 rfl zz6 trivial (q_pure rfl) rfl sk0 ?_
       refine wpd_p 3 rfl zz6 trivial (q_slWl Tryd.underlying38 Tryd.ti49 rfl rfl zz4 zz13) rfl sk0 ?_
       refine wpd_p 4 rfl zz6 trivial (q_pure rfl) rfl sk0 ?_
       refine wpd_p 5 rfl zz6 trivial (q_pure rfl) rfl sk0 ?_
       refine wpd_p 6 rfl zz6 trivial (q_slWh Tryd.underlying38 Tryd.ti49 rfl rfl zz4 zz13) rfl sk0 ?_
       refine wpd_t 7 rfl zz6 trivial (t_copyW (v := b30) (m := n) (l := k) (dl := n - k) Tryd.underlying38 Tryd.ti49 (slv b30 k n 1) rfl (fun g cap hv => slv_form p30 hv hk) zz13 zz13 rfl (fun w h => Seen.slv32 (h.seenV (m := n)) 0 k (Nat.zero_le _) zz13) (v32s_one _) (min k (n - k)) (by rw [Nat.sub_zero]) (v32s (fillF sy n (k + min k (n - k)))) (fillN sy hk)) rfl (fun _ => skk rfl) (fun b45 => ?_)
       refine wpd_p 8 rfl zz6 trivial (q_addN rfl rfl zz2) rfl (skk rfl) ?_
       refine wpd_p 9 rfl zz6 trivial (q_pure rfl) rfl (skk rfl) ?_
       refine wpd_done zz6 ?_
       refine ex_block ?_
       refine ex_again ⟨k + min k (n - k), ⟨by show k + min k (n - k) ≤ n; omega, by show n = 0 ∨ 0 < k + min k (n - k); omega⟩⟩ ?_ ?_ ?_
       ·
        exact zz12
       ·
        exact fun w h => by first | exact h | exact h.sub SubC.h SubC.h | exact h.sub zz8 zz8
       ·
        (show n - (k + min k (n - k)) < n - k); omega
      ·
       simp only [decide_eq_false_iff_not] at hc37
       obtain rfl : k = n := by omega
       rw [fillF_all]
       refine wpc_exit ?_
       refine ex_then_exit ?_
       refine ex_then_exit ?_
       refine ex_block_hit ?_
       refine ex_then <| wpc_seq <| wpc_region <| wpl_q (q_pure rfl) rfl <| wpl_q (q_pure rfl) rfl <| wpl_nil <| ex_then <| wpc_ret ?_
       refine ret1 (.inl rfl) rfl rfl ?_
       exact fun w h => ⟨b30, p30, rfl, h.below, h.made SubC.h .nil⟩
end Go.Proofs.YtjpfhkjmjnjggaaDoor
namespace Go.Proofs.YtjpfhkjmjnjggaaDoor
open Go Go.PL Go.RowKit
theorem ex_mark0 {P : Program} {fn : Func} {post : Ending → World → Prop} {m : Nat} {e : Exit} {L : Slots} {R : World → Prop} (he : e = .ret ∨ e = .normal)
    (h : EX (bodyPost P fn post) e ⟨m, []⟩ R L) : EX (NPQ (bodyPostM Fence.wide 0 P fn post)) e ⟨m, []⟩ R L := fun a w hs hr => by
  have h1 := h a w hs hr
  have hd : a.defers = [] := hs.defers
  rcases he with rfl | rfl
  · obtain ⟨_, v, hv, hp⟩ := h1
    show LeavesInM _ _ _ _ _ _ a.defers _ _
    rw [hd]
    exact ⟨v, hv, hp⟩
  · obtain ⟨_, v, hv, hp⟩ := h1
    show LeavesInM _ _ _ _ _ _ a.defers _ _
    rw [hd]
    exact ⟨v, hv, hp⟩
abbrev HopS := { h : Hop // h.sv }
def HopS.z : HopS := ⟨Hop.z, SV.nil, SV.nil⟩
def HopS.c (h : HopS) : List Value := h.1.c
theorem HopS.c_length (h : HopS) : h.c.length = 24 := h.1.c_length
instance lenC_hops {h : HopS} : LenC h.1.c 24 := ⟨h.1.c_length⟩
instance oneC_hops {h : HopS} : OneC h.1.c := h.2.one
def hopsS (l : List Hop) (hl : ∀ h ∈ l, h.sv) : List HopS := l.attach.map fun h => ⟨h.1, hl h.1 h.2⟩
theorem hopsS_val (l : List Hop) (hl : ∀ h ∈ l, h.sv) : (hopsS l hl).map (·.1) = l := by
  rw [hopsS, List.map_map]
  exact List.attach_map_subtype_val l
def hcS (l : List HopS) : List Value := (l.map HopS.c).flatten
theorem hopsS_cells (l : List Hop) (hl : ∀ h ∈ l, h.sv) : hcS (hopsS l hl) = hcs l := by
  show ((hopsS l hl).map HopS.c).flatten = _
  rw [show (HopS.c : HopS → List Value) = Hop.c ∘ (·.1) from rfl, ← List.map_map, hopsS_val]
theorem hopsS_len (l : List Hop) (hl : ∀ h ∈ l, h.sv) : (hopsS l hl).length = l.length := by rw [hopsS, List.length_map, List.length_attach]
def backL (l : List HopS) : List (Nat × HopS) := ((List.range l.length).map fun i => (i, l.getD i HopS.z)).reverse
theorem backL_len (l : List HopS) : (backL l).length = l.length := by rw [backL, List.length_reverse, List.length_map, List.length_range]
theorem back_take {l : List HopS} {m : Nat} (h : m < l.length) : (backL l).take (l.length - (m + 1)) ++ [(m, l.getD m HopS.z)] = (backL l).take (l.length - m) := by
  rw [show l.length - m = (l.length - (m + 1)) + 1 from zz13, List.take_add_one]
  congr 1
  have e : (backL l)[l.length - (m + 1)]? = some (m, l.getD m HopS.z) := by
    rw [backL, List.getElem?_reverse (by rw [List.length_map, List.length_range]; omega), List.length_map, List.length_range, List.getElem?_map, show l.length - 1 - (l.length - (m + 1)) = m from zz13, List.getElem?_range h]
    rfl
  rw [e]; rfl
theorem back_pre {l : List HopS} {m : Nat} (h : m < l.length) : ((backL l).take (l.length - (m + 1)) ++ [(m, l.getD m HopS.z)]) <+: backL l := by rw [back_take h]; exact List.take_prefix _ _
theorem back_all (l : List HopS) : (backL l).take (l.length - 0) = backL l := List.take_of_length_le (by rw [backL_len]; omega)
def encBk (x : Nat × HopS) (_ : Unit) : Array Value := #[.int .i64 ((x.1 : Nat) : Int), .agg x.2.1.c.toArray]
def AtBk (_ : List Nat) (_ : Nat × HopS) (_ : Unit) (_ : World) : Prop := True
theorem backward (hv : Value) (n : Nat) (w : World) (svh : SV hv n)  :
    Calls Tryd.prog 40 [hv].toArray w (Gives w (fun pp : Nat => .func (.func 59) #[] #[.pointer (some ⟨pp, 0, none⟩)]) (fun pp => [.blk pp 27 [hv]]) (fun _ => [])) := by
  refine enter (m := 4) (R := Mem w [] [] []) Tryd.func40 rfl rfl (Nat.le_of_ble_eq_true rfl) (Mem.start w) ?_
  refine wpc_seq <| wpc_region ?_
  refine wpl_t (t_box rfl [hv] svh.cells) rfl (fun b1 => ?_)
  refine wpl_q (q_pure rfl) rfl <| wpl_nil <| ex_then <| wpc_seq <| wpc_region ?_
  refine wpl_q (q_fn (us := []) (vs := [.pointer (some ⟨b1, 0, none⟩)]) rfl rfl) rfl ?_
  refine wpl_q (q_pure rfl) rfl <| wpl_nil <| ex_then <| wpc_ret ?_
  refine ret1 (.inl rfl) rfl rfl ?_
  exact fun w h => ⟨b1, rfl, h.below, h.made SubC.h .nil⟩
end Go.Proofs.YtjpfhkjmjnjggaaDoor
namespace Go.Proofs.YtjpfhkjmjnjggaaDoor
open Go Go.PL Go.RowKit
theorem backward1 (yl : Nat) (pb : Nat) (hv : Value) (l : List HopS) (J : List Nat → List (Nat × HopS) → World → Prop) (K : World → Prop) (w : World)  (hst : StabJ J) (hinv : ∀ T pre w1, J T pre w1 → Seen w1.cell? hv l.length 24 (hcS l)) (hsk : StabK K) (hy : YieldS Tryd.prog yl encBk AtBk (backL l) J K) (hJ0 : J [pb] [] w) (hpb : w.heap[pb]? = some (.cells #[hv] 27 (0, 0))) :
    Calls Tryd.prog 59 [.func (.yield yl) #[] #[], .pointer (some ⟨pb, 0, none⟩)].toArray w (IterPost J K (backL l)) := by
  have svh := (hinv _ _ _ hJ0).sv
  have lh := svh.le
  simp only [maxLen] at lh
  refine enter (m := 19) (R := Mem w [pb] [.blk pb 27 [hv]] []) Tryd.func59 rfl rfl (Nat.le_of_ble_eq_true rfl) (Mem.start1 w hpb) ?_
  refine wpc_seq <| wpc_region <| wpl_q (q_ld Tryd.underlying27 rfl rfl rfl) rfl ?_
  refine wpl_q (q_lenW Tryd.underlying27 rfl zz4) rfl ?_
  first | refine wpl_q (qop_eq (q_pure rfl) (congrArg (Value.int .i64) (wk_i64 zz13 zz13))) rfl ?_ | refine wpl_q (q_pure rfl) rfl ?_
  refine wpl_q (q_pure rfl) rfl <| wpl_nil <| ex_then <| wpc_block ?_
  refine wpc_loopc (ι := { x : Nat × World × List Nat // (x.1 ≤ l.length) ∧ (J x.2.2 ((backL l).take (l.length - x.1)) x.2.1) }) [(0, _), (1, _)] (fun x Lc => (3, .int .i64 (((x.1.1 : Nat) : Int) - 1)) :: Lc) (fun x => Mem x.1.2.1 x.1.2.2 [.blk pb 27 [hv]] []) (fun x => x.1.1) ⟨(l.length, w, [pb]), ⟨Nat.le_refl _, by rw [Nat.sub_self, List.take_zero]; exact hJ0⟩⟩ zz12 ?_ ?_
  ·
   exact fun w h => h
  ·
   rintro ⟨⟨s, wb, T⟩, ⟨hi0, hi1⟩⟩; try dsimp only
   have hi0 : s ≤ l.length := hi0; have hi1 : J T ((backL l).take (l.length - s)) wb := hi1
   have hsee : ∀ {M : List Ent} {S : List Fact} {w : World}, Mem wb T M S w → Seen w.cell? hv l.length 24 (hcS l) := fun h => hinv _ _ _ (hst _ _ _ _ _ hi1 (h.sub .nil .nil) (nums_lt h))
   refine wpc_seq <| wpc_seq <| wpc_region <| wpl_q (q_pure rfl) rfl <| wpl_q (q_pure rfl) rfl <| wpl_nil <| ex_then ?_
   refine wpc_cond rfl (fun hc8 => ?_) (fun hc8 => ?_)
   ·
    simp only [decide_eq_true_eq, ge_iff_le] at hc8
    obtain ⟨m, rfl⟩ : ∃ m, s = m + 1 := ⟨s - 1, zz13⟩
    have hml : m < l.length := by omega
    refine wpc_re 3 rfl (congrArg (Value.int .i64) (show (((m + 1 : Nat) : Int) - 1) = ((m : Nat) : Int) from zz13)) ?_
    refine wpc_skip <| ex_then <| wpc_seq <| wpc_block <| wpc_seq ?_
    refine wpc_region_y ?_
    refine wil_q (q_pure rfl) rfl ?_
    refine wil_q (q_pure rfl) rfl ?_
    refine wil_q (q_ld Tryd.underlying27 rfl rfl rfl) rfl ?_
    refine wil_q (q_pure rfl) rfl ?_
    refine wil_q (q_idxW Tryd.underlying27 Tryd.ti68 rfl rfl zz4 zz2) rfl ?_
    refine wil_q (q_ldWN Tryd.underlying68 rfl Tryd.ti68 rfl (fun w h => hsee h) (l.getD m HopS.z).1.c (cat_part HopS.c_length HopS.z hml) (HopS.c_length _)) rfl ?_
    refine wil_yieldS ((m, (l.getD m HopS.z))) (()) rfl rfl hst hy hi1 (back_pre hml) rfl (fun _ _ => trivial) rfl ?_ ?_
    ·
     intro u17 hu17
     refine wil_q (q_pure rfl) rfl ?_
     refine wil_nil ?_
     refine ex_then ?_
     refine wpc_cond_f rfl ?_
     refine wpc_skip <| ex_block <| ex_then <| wpc_region <| wpl_q (q_pure rfl) rfl ?_
     first | refine wpl_q (qop_eq (q_pure rfl) (congrArg (Value.int .i64) (wk_i64 zz13 zz13))) rfl ?_ | refine wpl_q (q_pure rfl) rfl ?_
     refine wpl_q (q_pure rfl) rfl <| wpl_nil ?_
     refine ex_again ⟨(m, u17, nums [.blk pb 27 [hv]]), ⟨by show m ≤ l.length; omega, by show J _ ((backL l).take (l.length - m)) u17; rw [← back_take hml]; exact hu17⟩⟩ ?_ ?_ ?_
     ·
      exact zz12
     ·
      exact fun w h => h
     ·
      show m < m + 1; omega
    ·
     intro u17 hu17
     refine wil_q (q_pure rfl) rfl ?_
     refine wil_nil ?_
     refine ex_then ?_
     refine wpc_cond_t rfl ?_
     refine wpc_ret ?_
     refine ex_block_ret ?_
     refine ex_then_ret ?_
     refine ex_then_ret ?_
     refine ex_block_ret ?_
     refine ret0 (.inl rfl) rfl ?_
     exact fun w h => iter_stop hsk hu17 h
   ·
    simp only [decide_eq_false_iff_not, ge_iff_le] at hc8
    obtain rfl : s = 0 := by omega
    rw [back_all] at hi1
    refine wpc_exit ?_
    refine ex_then_exit ?_
    refine ex_then_exit ?_
    refine ex_block_hit ?_
    refine ret0 (.inr rfl) rfl ?_
    exact fun w h => iter_done hst hi1 h
end Go.Proofs.YtjpfhkjmjnjggaaDoor
namespace Go.Proofs.YtjpfhkjmjnjggaaDoor
open Go Go.PL Go.RowKit
theorem back_it (hv : Value) (l : List HopS) (pb : Nat) (w : World) (hpb : w.heap[pb]? = some (.cells #[hv] 27 (0, 0))) : IterStop Tryd.prog 59 #[.pointer (some ⟨pb, 0, none⟩)] encBk AtBk (fun w => Seen w.cell? hv l.length 24 (hcS l)) (backL l) [pb] w :=
  fun yl J K hst hinv hsk hy hJ0 => backward1 yl pb hv l J K w hst hinv hsk hy hJ0 hpb
def sysG (hs : List Hop) : Nat → List UInt32
  | 0 => []
  | k + 1 => sysG hs k ++ List.replicate (hs.getD (hs.length - 1 - k) Hop.z).cnt.toNat (hs.getD (hs.length - 1 - k) Hop.z).sy
def sysR (hs : List Hop) : List UInt32 := sysG hs hs.length
def sysE (p : Pth) : Int := if chkP p ≠ 0 then chkP p else if 30 < (sysR p.hs).length then 4 else 0
def sysV (p : Pth) : List UInt32 := if sysE p = 0 then sysR p.hs else []
theorem sysG_len (hs : List Hop) : ∀ k, (sysG hs k).length ≤ 255 * k
  | 0 => Nat.le_refl _
  | k + 1 => by
    have := sysG_len hs k
    have h := (hs.getD (hs.length - 1 - k) Hop.z).cnt.toNat_lt
    rw [sysG, List.length_append, List.length_replicate]; omega
theorem sysE_chk {p : Pth} (h : chkP p ≠ 0) : sysE p = chkP p := if_pos h
theorem sysE_many {p : Pth} (h : chkP p = 0) (h2 : 30 < (sysR p.hs).length) : sysE p = 4 := (if_neg (by simp [h])).trans (if_pos h2)
theorem sysE_ok {p : Pth} (h : chkP p = 0) (h2 : ¬ 30 < (sysR p.hs).length) : sysE p = 0 := (if_neg (by simp [h])).trans (if_neg h2)
theorem sysV_no {p : Pth} (h : sysE p ≠ 0) : sysV p = [] := if_neg h
theorem sysV_ok {p : Pth} (h : sysE p = 0) : sysV p = sysR p.hs := if_pos h
theorem nilRowS {w0 w : World} {Ln : List Nat} {M : List Ent} {S : List Fact} {p : Pth} (h : Mem w0 Ln M S w) (hn : sysE p ≠ 0) : Mem w0 Ln (.row (.slice none 0 0) (sysV p).length 49 1 (v32s (sysV p)) :: M) S w := by
  rw [sysV_no hn]; exact h.nilRow 49 1
theorem back_get {l : List HopS} {pre : List (Nat × HopS)} {x : Nat × HopS} (h : (pre ++ [x]) <+: backL l) : pre.length < l.length ∧ x.2 = l.getD (l.length - 1 - pre.length) HopS.z := by
  have hl := h.length_le
  rw [backL_len, List.length_append, List.length_singleton] at hl
  refine ⟨zz13, ?_⟩
  obtain ⟨t, ht⟩ := h
  have e : (backL l)[pre.length]? = some x := by rw [← ht]; simp
  rw [backL, List.getElem?_reverse (by rw [List.length_map, List.length_range]; omega), List.length_map, List.length_range, List.getElem?_map, List.getElem?_range zz13] at e
  cases e; rfl
theorem hopsS_get (l : List Hop) (hl : ∀ h ∈ l, h.sv) (i : Nat) (hi : i < l.length) : ((hopsS l hl).getD i HopS.z).1 = l.getD i Hop.z := by
  have e := hopsS_val l hl
  have q : ((hopsS l hl).map (·.1))[i]? = l[i]? := by rw [e]
  rw [List.getElem?_map] at q
  rw [List.getD_eq_getElem?_getD, List.getD_eq_getElem?_getD, ← q]
  have : i < (hopsS l hl).length := by rw [hopsS_len]; exact hi
  rw [List.getElem?_eq_getElem this]; rfl
theorem sys_next {hs : List Hop} {hl : ∀ h ∈ hs, h.sv} {pre : List (Nat × HopS)} {x : Nat × HopS} (h : (pre ++ [x]) <+: backL (hopsS hs hl)) : sysG hs pre.length ++ List.replicate x.2.1.cnt.toNat x.2.1.sy = sysG hs (pre ++ [x]).length := by
  obtain ⟨h1, h2⟩ := back_get h
  rw [hopsS_len] at h1 h2
  rw [List.length_append, List.length_singleton, sysG, h2, hopsS_get _ _ _ zz13]
end Go.Proofs.YtjpfhkjmjnjggaaDoor
namespace Go.Proofs.YtjpfhkjmjnjggaaDoor
open Go Go.PL Go.RowKit
theorem eqk : EqC Tryd.prog 3 63 true 17 (fun cs => cs.length = 17 ∧ ((((cs.drop 0).take 16).length = 16 ∧ ∀ i, i < 16 → IntCell .u8 ((((cs.drop 0).take 16).drop (i * 1)).take 1)) ∧ (IntCell .i64 ((cs.drop (0 + 16)).take 1) ∧ True))) :=
by
  refine eqc_struct Tryd.underlying63 Tryd.ti63 zz6 ?_
  refine EqFs.cons (sz := 16) (W := fun c => c.length = 16 ∧ ∀ i, i < 16 → IntCell .u8 ((c.drop (i * 1)).take 1)) (W' := fun cs => IntCell .i64 ((cs.drop (0 + 16)).take 1) ∧ True) zz6 rfl eq8_61 ?_
  refine EqFs.cons (sz := 1) (W := IntCell .i64) (W' := fun _ => True) zz6 rfl (eqc_up (dp' := 2) (eqc_int Tryd.underlying3 Tryd.ti3) zz17) ?_
  exact EqFs.nil _
theorem wkey {xs : List UInt8} (a : Int) (h : xs.length = 16) : (v8s xs ++ [Value.int .i64 a]).length = 17 ∧ (((((v8s xs ++ [Value.int .i64 a]).drop 0).take 16).length = 16 ∧ ∀ i, i < 16 → IntCell .u8 (((((v8s xs ++ [Value.int .i64 a]).drop 0).take 16).drop (i * 1)).take 1)) ∧ (IntCell .i64 (((v8s xs ++ [Value.int .i64 a]).drop (0 + 16)).take 1) ∧ True)) := by
  refine ⟨key_len xs a h, ?_, ⟨a, ?_⟩, trivial⟩
  · rw [key_root xs a h]; exact w8s h
  · rw [List.drop_left' (by rw [v8s_length, h])]; rfl
def Hop.eqv (a b : Hop) : Prop := a.sy = b.sy ∧ a.cnt = b.cnt ∧ a.fl = b.fl ∧ a.to = b.to ∧ (a.root.1 = b.root.1 ∧ a.ht = b.ht) ∧ (a.ix = b.ix ∧ a.chs = b.chs ∧ a.ps = b.ps)
instance {a b : Hop} : Decidable (a.eqv b) := by unfold Hop.eqv; exact inferInstance
def HsEqv (l k : List Hop) : Prop := l.length = k.length ∧ ∀ i, i < l.length → Hop.eqv (l.getD i Hop.z) (k.getD i Hop.z)
instance {a b : List Hop} : Decidable (HsEqv a b) := by unfold HsEqv; exact inferInstance
def Pth.eqv (p q : Pth) : Prop := (p.pf = q.pf ∧ p.pa = q.pa ∧ p.pb = q.pb ∧ p.pl = q.pl) ∧ HsEqv p.hs q.hs
instance {a b : Pth} : Decidable (a.eqv b) := by unfold Pth.eqv; exact inferInstance
theorem same_step32 (xs ys : List UInt32) (i : Nat) (h : xs.take i = ys.take i) (h1 : i < xs.length) (h2 : i < ys.length) (h3 : xs.getD i 0 = ys.getD i 0) : xs.take (i + 1) = ys.take (i + 1) := by
  rw [List.take_add_one, List.take_add_one, h, List.getElem?_eq_getElem h1, List.getElem?_eq_getElem h2]
  rw [List.getD_eq_getElem?_getD, List.getD_eq_getElem?_getD, List.getElem?_eq_getElem h1, List.getElem?_eq_getElem h2] at h3
  rw [show xs[i] = ys[i] from h3]
theorem refSameSystems (av : Value) (xs : List UInt32) (bv : Value) (ys : List UInt32) (w : World) (hav : Seen w.cell? av xs.length 1 (v32s xs)) (hbv : Seen w.cell? bv ys.length 1 (v32s ys))  :
    Calls Tryd.prog 20 [av, bv].toArray w (Pur w (.bool (decide (xs = ys)))) := by
  have sav := hav.sv
  have lav := sav.le
  simp only [maxLen] at lav
  have sbv := hbv.sv
  have lbv := sbv.le
  simp only [maxLen] at lbv
  refine enter (m := 26) (R := Mem w [] [] []) Tryd.func20 rfl rfl (Nat.le_of_ble_eq_true rfl) (Mem.start w) ?_
  refine wpc_seq <| wpc_region <| wpl_q (q_pure rfl) rfl <| wpl_nil <| ex_then <| wpc_seq <| wpc_seq <| wpc_region <| wpl_q (q_pure rfl) rfl ?_
  refine wpl_q (q_lenW Tryd.underlying38 rfl zz4) rfl ?_
  refine wpl_q (q_pure rfl) rfl ?_
  refine wpl_q (q_lenW Tryd.underlying38 rfl zz4) rfl ?_
  refine wpl_q (q_pure rfl) rfl <| wpl_nil <| ex_then ?_
  refine wpc_cond rfl (fun hc10 => ?_) (fun hc10 => ?_)
  ·
   simp only [bne_iff_ne, ne_eq, decide_eq_true_eq, Bool.not_eq_true', decide_eq_false_iff_not] at hc10
   have hne : xs ≠ ys := fun e => hc10 (by rw [e])
   refine wpc_seq <| wpc_region <| wpl_q (q_pure rfl) rfl <| wpl_nil <| ex_then <| wpc_ret ?_
   refine ex_then_ret ?_
   refine ret1 (.inl rfl) rfl rfl ?_
   exact fun w h => ⟨by simp [hne], h.below⟩
  ·
   simp only [bne_eq_false_iff_eq, Bool.not_eq_false', decide_eq_true_eq] at hc10
   have hl : xs.length = ys.length := by omega
   refine wpc_skip <| ex_then <| wpc_seq <| wpc_seq <| wpc_region <| wpl_q (q_pure rfl) rfl <| wpl_nil <| ex_then <| wpc_block ?_
   refine wpc_loopc (ι := { x : Nat // (x ≤ xs.length) ∧ (xs.take x = ys.take x) }) [(0, _), (1, _)] (fun x Lc => (5, .int .i64 ((x.1 : Nat) : Int)) :: Lc) (fun x => Mem w [] [] []) (fun x => xs.length - x.1) ⟨0, ⟨Nat.zero_le _, rfl⟩⟩ zz12 ?_ ?_
   ·
    exact fun w h => h
   ·
    rintro ⟨i, ⟨hi0, hi1⟩⟩; try dsimp only
    have hi0 : i ≤ xs.length := hi0; have hi1 : xs.take i = ys.take i := hi1
    refine wpc_seq <| wpc_seq <| wpc_region <| wpl_q (q_pure rfl) rfl <| wpl_q (q_pure rfl) rfl ?_
    refine wpl_q (q_lenW Tryd.underlying38 rfl zz4) rfl ?_
    refine wpl_q (q_pure rfl) rfl <| wpl_nil <| ex_then ?_
    refine wpc_cond rfl (fun hc14 => ?_) (fun hc14 => ?_)
    ·
     simp only [decide_eq_true_eq] at hc14
     have hix : i < xs.length := by omega
     have hiy : i < ys.length := by omega
     refine wpc_skip <| ex_then <| wpc_seq <| wpc_block <| wpc_seq ?_
     refine wpc_draw 9 zz6 (fun _ h => h.drew) ?_
     refine wpd_p 0 rfl zz6 trivial (q_pure rfl) rfl sk0 ?_
     refine wpd_p 1 rfl zz6 trivial (q_pure rfl) rfl sk0 ?_
     refine wpd_p 2 rfl zz6 trivial (q_idxW1 Tryd.underlying38 Tryd.ti49 rfl rfl zz4 zz2) rfl sk0 ?_
     refine wpd_q 3 rfl zz6 trivial (q_ldW Tryd.underlying49 rfl rfl (fun w h => zz9) (by first | exact v32s_get zz7 | rfl)) rfl (fun _ h => h) ?_
     refine wpd_p 4 rfl zz6 trivial (q_pure rfl) rfl sk0 ?_
     refine wpd_p 5 rfl zz6 trivial (q_pure rfl) rfl sk0 ?_
     refine wpd_p 6 rfl zz6 trivial (q_idxW1 Tryd.underlying38 Tryd.ti49 rfl rfl zz4 zz2) rfl sk0 ?_
     refine wpd_q 7 rfl zz6 trivial (q_ldW Tryd.underlying49 rfl rfl (fun w h => zz9) (by first | exact v32s_get zz7 | rfl)) rfl (fun _ h => h) ?_
     refine wpd_p 8 rfl zz6 trivial (q32_neq rfl rfl) rfl sk0 ?_
     refine wpd_done zz6 ?_
     refine ex_then ?_
     refine wpc_cond rfl (fun hc25 => ?_) (fun hc25 => ?_)
     ·
      have hq25 : ¬ xs.getD i 0 = ys.getD i 0 := by simpa using hc25
      have hne : xs ≠ ys := fun e => hq25 (by rw [e])
      refine wpc_seq <| wpc_region <| wpl_q (q_pure rfl) rfl <| wpl_nil <| ex_then <| wpc_ret ?_
      refine ex_block_ret ?_
      refine ex_then_ret ?_
      refine ex_then_ret ?_
      refine ex_block_ret ?_
      refine ex_then_ret ?_
      refine ret1 (.inl rfl) rfl rfl ?_
      exact fun w h => ⟨by simp [hne], h.below⟩
     ·
      have hq25 : xs.getD i 0 = ys.getD i 0 := by simpa using hc25
      refine wpc_skip <| ex_block <| ex_then <| wpc_region <| wpl_q (q_pure rfl) rfl ?_
      refine wpl_q (q_addN (b := 1) rfl rfl zz2) rfl ?_
      refine wpl_q (q_pure rfl) rfl <| wpl_nil ?_
      refine ex_again ⟨i + 1, ⟨zz13, same_step32 xs ys i hi1 zz13 zz13 hq25⟩⟩ ?_ ?_ ?_
      ·
       exact zz12
      ·
       exact fun w h => by first | exact h | exact h.sub SubC.h SubC.h | exact h.sub zz8 zz8
      ·
       (show xs.length - (i + 1) < xs.length - i); omega
    ·
     simp only [decide_eq_false_iff_not] at hc14
     obtain rfl : i = xs.length := by omega
     have heq : xs = ys := by rw [List.take_length, hl, List.take_length] at hi1; exact hi1
     refine wpc_exit ?_
     refine ex_then_exit ?_
     refine ex_then_exit ?_
     refine ex_block_hit ?_
     refine ex_then <| wpc_seq <| wpc_region <| wpl_q (q_pure rfl) rfl <| wpl_nil <| ex_then <| wpc_ret ?_
     refine ret1 (.inl rfl) rfl rfl ?_
     exact fun w h => ⟨by simp [heq], h.below⟩
end Go.Proofs.YtjpfhkjmjnjggaaDoor
namespace Go.Proofs.YtjpfhkjmjnjggaaDoor
open Go Go.PL Go.RowKit
instance lenC_pthz : LenC Pth.z.c 5 := ⟨rfl⟩
def hopsF (qs : List Hop) : Fact := ⟨fun r => ∀ h ∈ qs, h.seen r, fun _ _ hr h q hq => (h q hq).mono hr⟩
theorem hopsF_at {w0 w : World} {Ln : List Nat} {M : List Ent} {S : List Fact} (h : Mem w0 Ln M S w) {qs : List Hop} (hs : hopsF qs ∈ S) : ∀ q ∈ qs, q.seen w.cell? := h.fact hs
def Hop.re (h : Hop) (x : Value × Value) : Hop := { h with cv := x.1, pv := x.2 }
theorem Hop.re_set (h : Hop) (x : Value × Value) : h.c.take 21 ++ [.int .i64 h.ix, x.1, x.2] ++ h.c.drop (21 + 3) = (h.re x).c := by
  have e : h.c = (.int .u32 (h.sy.toNat : Int) :: .int .u8 (h.cnt.toNat : Int) :: .int .u8 (h.fl.toNat : Int) :: .int .u32 (h.to.toNat : Int) :: (v8s h.root.1 ++ [.int .i64 h.ht])) ++ [.int .i64 h.ix, h.cv, h.pv] := by simp [Hop.c]
  have l : (.int .u32 (h.sy.toNat : Int) :: .int .u8 (h.cnt.toNat : Int) :: .int .u8 (h.fl.toNat : Int) :: .int .u32 (h.to.toNat : Int) :: (v8s h.root.1 ++ [Value.int .i64 h.ht])).length = 21 := by simp [v8s_length, h.root.2]
  rw [e, List.take_left' l, List.drop_of_length_le (by rw [List.length_append, l]; exact Nat.le_refl _)]
  simp [Hop.c, Hop.re]
theorem twin_fact {r : Rd} {qs : List Hop} {h : Hop} {x : Value × Value} (h1 : ∀ q ∈ qs, q.seen r) (h2 : Seen r x.1 h.chs.length 16 (v8s h.chs.flatten)) (h3 : Seen r x.2 h.ps.length 16 (v8s h.ps.flatten)) (ha : ∀ y ∈ h.chs, y.length = 16) (hb : ∀ y ∈ h.ps, y.length = 16) : ∀ q ∈ qs ++ [h.re x], q.seen r := fun q hq => by
  rcases List.mem_append.1 hq with hq | hq
  · exact h1 q hq
  · rw [List.mem_singleton] at hq; subst hq
    exact ⟨h2, ha, h3, hb⟩
theorem eqv_re (h : Hop) (x : Value × Value) : h.eqv (h.re x) := ⟨rfl, rfl, rfl, rfl, ⟨rfl, rfl⟩, rfl, rfl, rfl⟩
theorem getD_app {qs : List Hop} {a : Hop} {i : Nat} (h : qs.length = i) : (qs ++ [a]).getD i Hop.z = a := by
  rw [List.getD_eq_getElem?_getD, List.getElem?_append_right zz13, h, Nat.sub_self]; rfl
theorem getD_left {qs : List Hop} {a : Hop} {i j : Nat} (h : qs.length = i) (hj : j < i) : (qs ++ [a]).getD j Hop.z = qs.getD j Hop.z := by
  rw [List.getD_eq_getElem?_getD, List.getD_eq_getElem?_getD, List.getElem?_append_left zz13]
theorem hcs_snoc (qs : List Hop) (a : Hop) : hcs qs ++ a.c = hcs (qs ++ [a]) := cat_snoc Hop.c qs a
theorem built_pre (f : UInt8) (a b : UInt64) (n : Int) : Tryd.prog.built 29 [(0, .agg (pfL f a b n).toArray)] = some #[.int .u8 (f.toNat : Int), .int .u64 (a.toNat : Int), .int .u64 (b.toNat : Int), .int .i64 n, .slice none 0 0] := by kernel_rfl
theorem refTwin42 (p : Pth) (w : World) (hp : p.seen w.cell?) (hlim : SmP p) (hn35 : p.hs.length ≤ 35) :
    Calls Tryd.prog 12 [.agg p.c.toArray].toArray w (GivesP w (fun x : Value × List Hop => SV x.1 p.hs.length ∧ HsEqv p.hs x.2) (fun x => .agg (Pth.mk p.pf p.pa p.pb p.pl x.1 x.2).c.toArray) (fun x => [.row x.1 p.hs.length 68 24 (hcs x.2)]) (fun x => [hopsF x.2])) := by
  obtain ⟨pf, pa, pb, pl, hv, hs⟩ := p
  have hh : Seen w.cell? hv hs.length 24 (hcs hs) := hp.1
  have hq : ∀ h ∈ hs, h.seen w.cell? := hp.2
  have svh := hh.sv
  have lh := svh.le
  simp only [maxLen] at lh
  have hn35 : hs.length ≤ 35 := hn35
  refine enter (m := 32) (R := Mem w [] [] []) Tryd.func12 rfl rfl (Nat.le_of_ble_eq_true rfl) (Mem.start w) ?_
  refine wpc_seq <| wpc_region ?_
  refine wpl_t (t_box rfl [.int .u8 (pf.toNat : Int), .int .u64 (pa.toNat : Int), .int .u64 (pb.toNat : Int), .int .i64 pl, hv] rfl) rfl (fun b1 => ?_)
  refine wpl_t (t_alloc Tryd.ti29 Pth.z.c rfl) rfl (fun b2 => ?_)
  refine wpl_nil <| ex_then <| wpc_seq <| wpc_region <| wpl_q (q_field Tryd.underlying29 rfl Tryd.ti26 rfl rfl _ rfl) rfl ?_
  refine wpl_q (q_ldP Tryd.underlying26 rfl Tryd.ti26 rfl (pfL pf pa pb pl) rfl zz0) rfl ?_
  refine wpl_q (q_build (cs := [.int .u8 (pf.toNat : Int), .int .u64 (pa.toNat : Int), .int .u64 (pb.toNat : Int), .int .i64 pl, .slice none 0 0]) rfl (built_pre pf pa pb pl)) rfl ?_
  refine wpl_t (t_alloc Tryd.ti29 Pth.z.c rfl) rfl (fun b3 => ?_)
  refine wpl_t0 (t_stA Tryd.ti29 rfl rfl LenC.h OneC.h LenC.h) (fun _ => ?_)
  refine wpl_nil <| ex_then <| wpc_seq <| wpc_seq <| wpc_region <| wpl_q (q_pure rfl) rfl <| wpl_nil <| ex_then <| wpc_block ?_
  refine wpc_loopc (ι := { x : Nat × Value × List Hop // (x.1 ≤ hs.length) ∧ (SV x.2.1 x.1) ∧ (x.2.2.length = x.1) ∧ (∀ j, j < x.1 → Hop.eqv (hs.getD j Hop.z) (x.2.2.getD j Hop.z)) }) [(1, _), (2, _), (3, _)] (fun x Lc => (4, .int .i64 ((x.1.1 : Nat) : Int)) :: Lc) (fun x => Mem w [] [.row x.1.2.1 x.1.1 68 24 (hcs x.1.2.2), .blk b3 29 [.int .u8 (pf.toNat : Int), .int .u64 (pa.toNat : Int), .int .u64 (pb.toNat : Int), .int .i64 pl, x.1.2.1], .blk b2 29 Pth.z.c, .blk b1 29 [.int .u8 (pf.toNat : Int), .int .u64 (pa.toNat : Int), .int .u64 (pb.toNat : Int), .int .i64 pl, hv]] [hopsF x.1.2.2]) (fun x => hs.length - x.1.1) ⟨(0, .slice none 0 0, []), ⟨Nat.zero_le _, SV.nil, rfl, fun j hj => zz13⟩⟩ zz12 ?_ ?_
  ·
   exact fun w h => Mem.imp (h.nilRow 68 24) (fun r _ t ht => zz48)
  ·
   rintro ⟨⟨i, v, qs⟩, ⟨hi0, hi1, hi2, hi3⟩⟩; try dsimp only
   have hi0 : i ≤ hs.length := hi0; have hi1 : SV v i := hi1; have hi2 : qs.length = i := hi2; have hi3 : ∀ j, j < i → Hop.eqv (hs.getD j Hop.z) (qs.getD j Hop.z) := hi3
   refine wpc_seq <| wpc_seq <| wpc_region <| wpl_q (q_pure rfl) rfl <| wpl_q (q_field Tryd.underlying29 rfl Tryd.ti27 rfl rfl _ rfl) rfl <| wpl_q (q_ld Tryd.underlying27 rfl rfl rfl) rfl ?_
   refine wpl_q (q_lenW Tryd.underlying27 rfl zz4) rfl ?_
   refine wpl_q (q_pure rfl) rfl <| wpl_nil <| ex_then ?_
   refine wpc_cond rfl (fun hc13 => ?_) (fun hc13 => ?_)
   ·
    simp only [decide_eq_true_eq] at hc13
    have hil : i < hs.length := by omega
    have hsi := hq _ (getD_memO hil)
    haveI := hsi.sv.one
    have hlm : (hs.getD i Hop.z).chs.length ≤ 100 ∧ (hs.getD i Hop.z).ps.length ≤ 100 := hlim _ (getD_memO hil)
    refine wpc_skip <| ex_then <| wpc_seq <| wpc_block <| wpc_seq <| wpc_region <| wpl_q (q_field Tryd.underlying29 rfl Tryd.ti27 rfl rfl _ rfl) rfl <| wpl_q (q_ld Tryd.underlying27 rfl rfl rfl) rfl <| wpl_q (q_pure rfl) rfl ?_
    refine wpl_q (q_idxW Tryd.underlying27 Tryd.ti68 rfl rfl zz4 zz2) rfl ?_
    refine wpl_q (q_ldWN Tryd.underlying68 rfl Tryd.ti68 rfl (fun w h => h.seen_old hh) (hs.getD i Hop.z).c (cat_part Hop.c_length Hop.z hil) (Hop.c_length _)) rfl ?_
    refine wpl_t (t_alloc Tryd.ti68 Hop.z.c rfl) rfl (fun b5 => ?_)
    refine wpl_t0 (t_stA Tryd.ti68 rfl rfl LenC.h OneC.h LenC.h) (fun _ => ?_)
    refine wpl_nil <| ex_then <| wpc_seq <| wpc_region <| wpl_q (q_field Tryd.underlying68 rfl Tryd.ti66 rfl rfl _ rfl) rfl <| wpl_q (q_ldP Tryd.underlying66 rfl Tryd.ti66 rfl (hs.getD i Hop.z).sig (Hop.c_sig _) rfl) rfl ?_
    refine wpl_tp (t_callP2 Tryd.hb37 rfl fun w h => refTwin7 (hs.getD i Hop.z).cv (hs.getD i Hop.z).pv (hs.getD i Hop.z).chs (hs.getD i Hop.z).ps (hs.getD i Hop.z).ix w (hsi.old h).1 (hsi.old h).2.1 (hsi.old h).2.2.1 (hsi.old h).2.2.2 zz13 zz13) rfl (fun b23 p23 => ?_)
    haveI : OneC (((hs.getD i Hop.z).re b23)).c := Hop.sv.one ⟨p23.1, p23.2⟩
    refine wpl_q (q_field Tryd.underlying68 rfl Tryd.ti66 rfl rfl _ rfl) rfl ?_
    refine wpl_t0 (t_stP Tryd.ti66 rfl rfl zz0 (OneC.cons rfl (OneC.cons (SV.one p23.1) (OneC.cons (SV.one p23.2) oneC_nil))).h (by rw [Hop.c_length]; exact Nat.le_refl _) ((hs.getD i Hop.z).re b23).c (Hop.re_set _ _)) (fun _ => ?_)
    refine wpl_nil <| ex_then <| wpc_region <| wpl_q (q_field Tryd.underlying29 rfl Tryd.ti27 rfl rfl _ rfl) rfl <| wpl_q (q_ld Tryd.underlying27 rfl rfl rfl) rfl <| wpl_q (q_ldN Tryd.underlying68 rfl Tryd.ti68 rfl LenC.h) rfl ?_
    refine wpl_tp (t_bsG [.agg ((hs.getD i Hop.z).re b23).c.toArray] ((hs.getD i Hop.z).re b23).c Tryd.underlying27 Tryd.ti68 rfl zz17 rfl zz17 zz17 rfl (by intro v hv; rw [List.mem_singleton] at hv; subst hv; exact Hop.c_length _) (List.append_nil _)) rfl (fun b28 p28 => ?_)
    refine wpl_tp (t_apW Tryd.underlying27 Tryd.ti68 rfl zz17 rfl rfl (fun w h => zz9) OneC.h zz2 zz2 (hcs (qs ++ [((hs.getD i Hop.z).re b23)])) (hcs_snoc _ _)) rfl (fun b29 p29 => ?_)
    refine wpl_q (q_field Tryd.underlying29 rfl Tryd.ti27 rfl rfl _ rfl) rfl ?_
    refine wpl_t0 (t_st1 Tryd.ti27 rfl rfl (SV.one zz4) zz7 [.int .u8 (pf.toNat : Int), .int .u64 (pa.toNat : Int), .int .u64 (pb.toNat : Int), .int .i64 pl, b29] rfl) (fun _ => ?_)
    refine wpl_nil <| ex_block <| ex_then <| wpc_region <| wpl_q (q_pure rfl) rfl ?_
    refine wpl_q (q_addN (b := 1) rfl rfl zz2) rfl ?_
    refine wpl_q (q_pure rfl) rfl <| wpl_nil ?_
    refine ex_again ⟨(i + 1, b29, qs ++ [((hs.getD i Hop.z).re b23)]), ⟨zz41, p29, by show (qs ++ [((hs.getD i Hop.z).re b23)]).length = i + 1; rw [List.length_append, hi2]; rfl, fun j hj => by
      dsimp only
      rcases Nat.lt_or_ge j i with h | h
      · rw [getD_left hi2 h]; exact hi3 j h
      · obtain rfl : j = i := (by have hj : j < i + 1 := hj; omega)
        rw [getD_app hi2]; exact eqv_re _ _⟩⟩ ?_ ?_ ?_
    ·
     exact zz12
    ·
     exact fun w h => by
       have h1 := h.sel (M' := .row b23.1 (hs.getD i Hop.z).chs.length 61 16 (v8s (hs.getD i Hop.z).chs.flatten) :: .row b23.2 (hs.getD i Hop.z).ps.length 61 16 (v8s (hs.getD i Hop.z).ps.flatten) :: [.row b29 (i + 1) 68 24 (hcs (qs ++ [((hs.getD i Hop.z).re b23)])), .blk b3 29 [.int .u8 (pf.toNat : Int), .int .u64 (pa.toNat : Int), .int .u64 (pb.toNat : Int), .int .i64 pl, b29], .blk b2 29 Pth.z.c, .blk b1 29 [.int .u8 (pf.toNat : Int), .int .u64 (pa.toNat : Int), .int .u64 (pb.toNat : Int), .int .i64 pl, hv]])
       have h2 := (h1.freezeRow .here).freezeRow .here
       exact h2.imp fun r hr t ht => by
         rw [List.mem_singleton] at ht
         subst ht
         exact twin_fact (hr (hopsF qs) zz38) (hr (Go.PL.seen b23.1 (hs.getD i Hop.z).chs.length 16 (v8s (hs.getD i Hop.z).chs.flatten)) zz38) (hr (Go.PL.seen b23.2 (hs.getD i Hop.z).ps.length 16 (v8s (hs.getD i Hop.z).ps.flatten)) zz38) hsi.2.1 hsi.2.2.2
    ·
     (show hs.length - (i + 1) < hs.length - i); omega
   ·
    simp only [decide_eq_false_iff_not] at hc13
    obtain rfl : i = hs.length := by omega
    have svv := hi1
    haveI : OneC [.int .u8 (pf.toNat : Int), .int .u64 (pa.toNat : Int), .int .u64 (pb.toNat : Int), .int .i64 pl, v] := Pth.sv.one (p := ⟨pf, pa, pb, pl, v, hs⟩) svv
    refine wpc_exit ?_
    refine ex_then_exit ?_
    refine ex_then_exit ?_
    refine ex_block_hit ?_
    refine ex_then <| wpc_seq <| wpc_region <| wpl_q (q_ldN Tryd.underlying29 rfl Tryd.ti29 rfl LenC.h) rfl ?_
    refine wpl_t0 (t_stA Tryd.ti29 rfl rfl LenC.h OneC.h LenC.h) (fun _ => ?_)
    refine wpl_nil <| ex_then <| wpc_ret ?_
    refine retv1 (.inl rfl) rfl (rv_agg Tryd.underlying29 rfl Tryd.ti29 rfl (fun w h => h.atB) zz0) ?_
    exact fun w h => ⟨(v, qs), ⟨svv, hi2.symm, hi3⟩, rfl, h.below, h.made zz8 zz8⟩
end Go.Proofs.YtjpfhkjmjnjggaaDoor
namespace Go.Proofs.YtjpfhkjmjnjggaaDoor
open Go Go.PL Go.RowKit
theorem systems (p : Pth) (w : World) (hp : p.seen w.cell?)  :
    Calls Tryd.prog 15 [.agg p.c.toArray].toArray w (GivesP w (fun v => SV v (sysV p).length) (fun v => .tuple #[v, .int .i64 (sysE p)]) (fun v => [.row v (sysV p).length 49 1 (v32s (sysV p))]) (fun _ => [])) := by
  obtain ⟨pf, pa, pb, pl, hv, hs⟩ := p
  have hh : Seen w.cell? hv hs.length 24 (hcs hs) := hp.1
  have svh := hh.sv
  have lh := svh.le
  simp only [maxLen] at lh
  refine enterN (m := 31) (R := Mem w [] [] []) Tryd.func15 rfl rfl (Nat.le_of_ble_eq_true rfl) (Mem.start w) ?_
  refine wpc_seq <| wpc_region ?_
  refine wpl_t (t_box rfl [.int .u8 (pf.toNat : Int), .int .u64 (pa.toNat : Int), .int .u64 (pb.toNat : Int), .int .i64 pl, hv] rfl) rfl (fun b1 => ?_)
  refine wpl_q (q_pure rfl) rfl <| wpl_q (q_pure rfl) rfl <| wpl_nil <| ex_then <| wpc_seq <| wpc_region <| wpl_q (q_ldN Tryd.underlying29 rfl Tryd.ti29 rfl LenC.h) rfl ?_
  refine wpl_t (t_pur Tryd.hb17 rfl fun w h => hopCheck ⟨pf, pa, pb, pl, hv, hs⟩ w (hp.old h)) rfl (fun b9 => ?_)
  refine wpl_q (q_pure rfl) rfl <| wpl_nil <| ex_then <| wpc_seq <| wpc_seq <| wpc_region <| wpl_q (q_pure rfl) rfl <| wpl_q (q_pure rfl) rfl <| wpl_nil <| ex_then ?_
  refine wpc_cond rfl (fun hc11 => ?_) (fun hc11 => ?_)
  ·
   have hk : chkP ⟨pf, pa, pb, pl, hv, hs⟩ ≠ 0 := by simpa using hc11
   have hE : sysE ⟨pf, pa, pb, pl, hv, hs⟩ = chkP ⟨pf, pa, pb, pl, hv, hs⟩ := sysE_chk hk
   have hE0 : sysE ⟨pf, pa, pb, pl, hv, hs⟩ ≠ 0 := by rw [hE]; exact hk
   refine wpc_seq <| wpc_region <| wpl_q (q_pure rfl) rfl <| wpl_q (q_pure rfl) rfl <| wpl_q (q_pure rfl) rfl <| wpl_nil <| ex_then <| wpc_ret ?_
   refine ex_then_ret ?_
   refine ex_mark0 (.inl rfl) ?_
   refine ret2 (.inl rfl) rfl rfl rfl ?_
   exact fun w h => ⟨.slice none 0 0, by rw [sysV_no hE0]; exact SV.nil, by rw [hE], h.below, (nilRowS h hE0).made SubC.h .nil⟩
  ·
   have hk0 : chkP ⟨pf, pa, pb, pl, hv, hs⟩ = 0 := by simpa using hc11
   have hn30 : hs.length ≤ 30 := (chk_inv hk0).1
   have hsv : ∀ h ∈ hs, h.sv := fun h hh1 => (hp.2 h hh1).sv
   refine wpc_skip <| ex_then <| wpc_seq <| wpc_region ?_
   refine wpl_t (t_alloc Tryd.ti38 [.slice none 0 0] rfl) rfl (fun b5 => ?_)
   refine wpl_nil <| ex_then <| wpc_seq <| wpc_seq <| wpc_region <| wpl_q (q_field Tryd.underlying29 rfl Tryd.ti27 rfl rfl _ rfl) rfl <| wpl_q (q_ld Tryd.underlying27 rfl rfl rfl) rfl ?_
   refine wpl_t (t_call (N := fun pq => [.blk pq 27 [hv]]) (T := fun _ => []) Tryd.hb40 rfl fun w h => backward hv hs.length w svh) rfl (fun b15 => ?_)
   refine wpl_nil <| ex_then <| wpc_block ?_
   refine wpc_mono (R' := Mem w [] ([.blk b15 27 [hv]] ++ (fun s : Value × List UInt32 => [.blk b5 38 [s.1], .row s.1 s.2.length 49 1 (v32s s.2), .blk b1 29 [.int .u8 (pf.toNat : Int), .int .u64 (pa.toNat : Int), .int .u64 (pb.toNat : Int), .int .i64 pl, hv]]) (.slice none 0 0, [])) []) (fun w1 h => (show Mem w [] [.row (.slice none 0 0) 0 49 1 [], .blk b15 27 [hv], .blk b5 38 [.slice none 0 0], .blk b1 29 [.int .u8 (pf.toNat : Int), .int .u64 (pa.toNat : Int), .int .u64 (pb.toNat : Int), .int .i64 pl, hv]] [] w1 from h.nilRow 49 1).sel (M' := [.blk b15 27 [hv], .blk b5 38 [.slice none 0 0], .row (.slice none 0 0) 0 49 1 [], .blk b1 29 [.int .u8 (pf.toNat : Int), .int .u64 (pa.toNat : Int), .int .u64 (pb.toNat : Int), .int .i64 pl, hv]])) ?_
   refine wpc_rangeS (encs := encBk) (At := AtBk) (Inv := (fun w => Seen w.cell? hv (hopsS hs hsv).length 24 (hcS (hopsS hs hsv)))) (xs := (backL (hopsS hs hsv))) (ρ := Unit) (β := Nat) [.blk b15 27 [hv]] (fun s : Value × List UInt32 => [.blk b5 38 [s.1], .row s.1 s.2.length 49 1 (v32s s.2), .blk b1 29 [.int .u8 (pf.toNat : Int), .int .u64 (pa.toNat : Int), .int .u64 (pb.toNat : Int), .int .i64 pl, hv]]) (fun pre s => SV s.1 s.2.length ∧ s.2 = sysG hs pre.length) (.slice none 0 0, []) (fun _ => False) (fun _ => .ret) (fun _ => []) (fun x _ b => [.blk b 68 x.2.1.c]) (fun x i b => [(5, .pointer (some ⟨b5, 0, none⟩)), (7, .pointer (some ⟨b, 0, none⟩))]) rfl Tryd.hb59 ⟨SV.nil, rfl⟩ (fun w h k hk => by rw [show k = b15 by simpa [nums, Ent.num] using hk]; exact (h.new (.blk b15 27 [hv]) zz38 b15 rfl).resolve_right zz38) (fun w h => back_it hv (hopsS hs hsv) b15 w (h.own (.blk b15 27 [hv]) zz38)) (fun _ _ _ _ h => by rw [hopsS_cells, hopsS_len]; exact h.seen_old hh) (fun _ _ _ _ _ _ _ => trivial) (fun _ _ => rfl) zz17 ?_ ?_ ?_ ?_
   ·
    intro l x i w1 K hK
    refine wic_region ?_
    refine wil_t (t_alloc Tryd.ti68 Hop.z.c rfl) rfl (fun b7 => ?_)
    refine wil_t0 (t_stA Tryd.ti68 rfl rfl LenC.h OneC.h LenC.h) (fun _ => ?_)
    refine wil_nil ?_
    exact fun a w hs h => hK b7 a w (hs.weaken (subs_get zz12)) h
   ·
    intro l pre x i s b w1 T hgs hpre hm hat hT
    obtain ⟨v, o⟩ := s
    obtain ⟨hg1, hg2⟩ := hgs
    have hg1 : SV v o.length := hg1
    have hg2 : o = sysG hs pre.length := hg2
    obtain ⟨hpl, _⟩ := back_get hpre
    rw [hopsS_len] at hpl
    have hsl := sysG_len hs pre.length
    rw [← hg2] at hsl
    have hcl := x.2.1.cnt.toNat_lt
    show WPCI _ _ _ _ (Mem w1 (nums [.blk b 68 x.2.1.c, .blk b5 38 [v], .row v o.length 49 1 (v32s o), .blk b1 29 [.int .u8 (pf.toNat : Int), .int .u64 (pa.toNat : Int), .int .u64 (pb.toNat : Int), .int .i64 pl, hv]]) [.blk b 68 x.2.1.c, .blk b5 38 [v], .row v o.length 49 1 (v32s o), .blk b1 29 [.int .u8 (pf.toNat : Int), .int .u64 (pa.toNat : Int), .int .u64 (pb.toNat : Int), .int .i64 pl, hv]] []) _ _
    refine wic_block ?_
    refine wic_draw 8 zz6 (fun _ h => h.drew) ?_
    refine wid_q 0 rfl zz6 trivial (q_ld Tryd.underlying38 rfl rfl rfl) rfl (fun _ h => h) ?_
    refine wid_p 1 rfl zz6 trivial (q_field Tryd.underlying68 rfl Tryd.ti49 rfl rfl _ rfl) rfl sk0 ?_
    refine wid_qB 2 [3, 7, 8] rfl zz6 trivial (q_ld Tryd.underlying49 rfl rfl (Hop.c_sy _)) rfl (fun _ h => h) ?_
    refine wid_p 4 rfl zz6 trivial (q_field Tryd.underlying68 rfl Tryd.ti5 rfl rfl _ rfl) rfl sk0 ?_
    refine wid_qB 5 [6, 7, 8] rfl zz6 trivial (q_ld Tryd.underlying5 rfl rfl (Hop.c_cnt _)) rfl (fun _ h => h) ?_
    refine wid_p 6 rfl zz6 trivial (q8_int Tryd.underlying5 Tryd.underlying3 rfl) rfl sk0 ?_
    refine wid_tp 3 rfl zz6 trivial (t_bsV (v32s [_]) Tryd.underlying38 Tryd.ti49 rfl rfl zz17 zz17 rfl (v32s_one _)) rfl (fun _ => (fun w h => .inr (h.sub SubC.h SubC.h))) (fun b21 p21 => ?_)
    refine wid_tp 7 rfl zz6 trivial (t_callP1 Tryd.hb41 rfl fun w h => repeat_ b21 x.2.1.sy x.2.1.cnt.toNat w h.seenV zz13) rfl (fun _ => (fun w h => .inr (h.sub SubC.h SubC.h))) (fun b25 p25 => ?_)
    refine wid_tp 8 rfl zz6 trivial (t_apW Tryd.underlying38 Tryd.ti49 rfl zz17 rfl rfl (fun w h => zz9) (v32s_one _) zz2 zz2 (v32s (o ++ (List.replicate x.2.1.cnt.toNat x.2.1.sy))) (v32s_append _ _).symm) rfl (fun _ => skk rfl) (fun b26 p26 => ?_)
    refine wid_t0 9 rfl zz6 trivial (t_st1 Tryd.ti38 rfl rfl (SV.one p26) zz7 [b26] rfl) (fun _ => skk rfl) (fun _ => ?_)
    refine wid_done zz6 ?_
    refine ex_block ?_
    refine ex_roundN ?_
    exact fun w h => ⟨(b26, o ++ (List.replicate x.2.1.cnt.toNat x.2.1.sy)), ⟨by show SV b26 (o ++ (List.replicate x.2.1.cnt.toNat x.2.1.sy)).length; rw [List.length_append, List.length_replicate]; exact p26, by show o ++ (List.replicate x.2.1.cnt.toNat x.2.1.sy) = _; rw [hg2]; exact sys_next hpre⟩, by
      show Mem _ _ [.blk b5 38 [b26], .row b26 (o ++ (List.replicate x.2.1.cnt.toNat x.2.1.sy)).length 49 1 (v32s (o ++ (List.replicate x.2.1.cnt.toNat x.2.1.sy))), .blk b1 29 [.int .u8 (pf.toNat : Int), .int .u64 (pa.toNat : Int), .int .u64 (pb.toNat : Int), .int .i64 pl, hv]] [] w
      rw [List.length_append, List.length_replicate]
      exact h.sel⟩
   ·
    intro D s hgs
    obtain ⟨v, o⟩ := s
    obtain ⟨hg1, hg2⟩ := hgs
    have hg1 : SV v o.length := hg1
    have hg3 : o = sysG hs (backL (hopsS hs hsv)).length := hg2
    rw [backL_len, hopsS_len] at hg3
    have hg2 : o = sysR hs := hg3
    refine ex_weaken (R1 := Mem w [] [.obj D (.deferred (some [])), .blk b5 38 [v], .row v o.length 49 1 (v32s o), .blk b1 29 [.int .u8 (pf.toNat : Int), .int .u64 (pa.toNat : Int), .int .u64 (pb.toNat : Int), .int .i64 pl, hv]] []) (L1 := [(5, .pointer (some ⟨b5, 0, none⟩))]) zz12 (fun w h => h) ?_
    refine ex_block <| ex_then <| wpc_seq <| wpc_seq <| wpc_region <| wpl_q (q_ld Tryd.underlying38 rfl rfl rfl) rfl ?_
    refine wpl_q (q_lenW Tryd.underlying38 rfl zz4) rfl ?_
    refine wpl_q (q_pure rfl) rfl <| wpl_nil <| ex_then ?_
    refine wpc_cond rfl (fun hc29 => ?_) (fun hc29 => ?_)
    ·
     simp only [decide_eq_true_eq] at hc29
     have hmn : 30 < o.length := by omega
     have hE : sysE ⟨pf, pa, pb, pl, hv, hs⟩ = 4 := sysE_many hk0 (by show 30 < (sysR hs).length; rw [← hg2]; exact hmn)
     have hE0 : sysE ⟨pf, pa, pb, pl, hv, hs⟩ ≠ 0 := by rw [hE]; decide
     refine wpc_seq <| wpc_region <| wpl_q (q_pure rfl) rfl <| wpl_q (q_pure rfl) rfl <| wpl_nil <| ex_then <| wpc_ret ?_
     refine ex_then_ret ?_
     refine ex_markN (.inl rfl) .here ?_
     refine ret2 (.inl rfl) rfl rfl rfl ?_
     exact fun w h => ⟨.slice none 0 0, by rw [sysV_no hE0]; exact SV.nil, by rw [hE], h.below, (nilRowS h hE0).made SubC.h .nil⟩
    ·
     simp only [decide_eq_false_iff_not] at hc29
     have hmn : ¬ 30 < o.length := by omega
     have hE : sysE ⟨pf, pa, pb, pl, hv, hs⟩ = 0 := sysE_ok hk0 (by show ¬ 30 < (sysR hs).length; rw [← hg2]; exact hmn)
     have hVo : o = sysV ⟨pf, pa, pb, pl, hv, hs⟩ := by rw [sysV_ok hE]; exact hg2
     refine wpc_skip <| ex_then <| wpc_seq <| wpc_region <| wpl_q (q_ld Tryd.underlying38 rfl rfl rfl) rfl <| wpl_q (q_pure rfl) rfl <| wpl_q (q_pure rfl) rfl <| wpl_nil <| ex_then <| wpc_ret ?_
     refine ex_markN (.inl rfl) .here ?_
     refine ret2 (.inl rfl) rfl rfl rfl ?_
     exact fun w h => ⟨v, hVo ▸ hg1, by rw [hE], h.below, by rw [← hVo]; exact h.made zz8 .nil⟩
   ·
    intro D r hr; exact hr.elim
end Go.Proofs.YtjpfhkjmjnjggaaDoor
namespace Go.Proofs.YtjpfhkjmjnjggaaDoor
open Go Go.PL Go.RowKit
theorem sixteen {l : List UInt8} (h : l.length = 16) : ∃ a0 a1 a2 a3 a4 a5 a6 a7 a8 a9 b0 b1 b2 b3 b4 b5, l = [a0, a1, a2, a3, a4, a5, a6, a7, a8, a9, b0, b1, b2, b3, b4, b5] := by
  match l, h with
  | [a0, a1, a2, a3, a4, a5, a6, a7, a8, a9, b0, b1, b2, b3, b4, b5], _ => exact ⟨_, _, _, _, _, _, _, _, _, _, _, _, _, _, _, _, rfl⟩
abbrev RK := UInt32 × S16 × Int
def RK.c (k : RK) : List Value := .int .u32 (k.1.toNat : Int) :: (v8s k.2.1.1 ++ [.int .i64 k.2.2])
def RK.z : RK := (0, ⟨List.replicate 16 0, rfl⟩, 0)
theorem RK.c_length (k : RK) : (RK.c k).length = 18 := by simp [RK.c, v8s_length, k.2.1.2]
instance lenC_rk {k : RK} : LenC (RK.c k) 18 := ⟨RK.c_length k⟩
theorem RK.c_one (k : RK) : ∀ u ∈ RK.c k, u.oneCell' = true := by
  intro u hu
  simp only [RK.c, List.mem_cons, List.mem_append, List.not_mem_nil, or_false] at hu
  rcases hu with rfl | hu | rfl
  · rfl
  · exact v8s_one _ u hu
  · rfl
instance oneC_rk {k : RK} : OneC (RK.c k) := ⟨RK.c_one k⟩
def rks (l : List RK) : List Value := (l.map RK.c).flatten
theorem RK.c_inj {k l : RK} (h : RK.c k = RK.c l) : k = l := by
  unfold RK.c at h
  obtain ⟨h1, h2⟩ := List.cons.inj h
  obtain ⟨h3, h4⟩ := List.append_inj h2 (by rw [v8s_length, v8s_length, k.2.1.2, l.2.1.2])
  have e1 : k.1 = l.1 := u32_inj h1
  have e2 : k.2.1 = l.2.1 := Subtype.ext (v8s_inj h3)
  have e3 : k.2.2 = l.2.2 := by simpa using h4
  exact Prod.ext e1 (Prod.ext e2 e3)
def WK (cs : List Value) : Prop := cs.length = 17 ∧ ((((cs.drop 0).take 16).length = 16 ∧ ∀ i, i < 16 → IntCell .u8 ((((cs.drop 0).take 16).drop (i * 1)).take 1)) ∧ (IntCell .i64 ((cs.drop (0 + 16)).take 1) ∧ True))
theorem eqRK : EqC Tryd.prog 4 80 true 18 (fun cs => cs.length = 18 ∧ (IntCell .u32 ((cs.drop 0).take 1) ∧ (WK ((cs.drop (0 + 1)).take 17) ∧ True))) := by
  refine eqc_struct Tryd.underlying80 Tryd.ti80 zz6 ?_
  refine EqFs.cons (sz := 1) (W := IntCell .u32) (W' := fun cs => WK ((cs.drop (0 + 1)).take 17) ∧ True) zz6 rfl (eqc_up (dp' := 3) (eqc_int Tryd.underlying49 Tryd.ti49) zz17) ?_
  refine EqFs.cons (sz := 17) (W := WK) (W' := fun _ => True) zz6 rfl eqk ?_
  exact EqFs.nil _
theorem wRK (k : RK) : (RK.c k).length = 18 ∧ (IntCell .u32 (((RK.c k).drop 0).take 1) ∧ (WK (((RK.c k).drop (0 + 1)).take 17) ∧ True)) := by
  refine ⟨RK.c_length k, ⟨_, rfl⟩, ?_, trivial⟩
  have e : ((RK.c k).drop (0 + 1)).take 17 = v8s k.2.1.1 ++ [.int .i64 k.2.2] := List.take_of_length_le (by simp [RK.c, v8s_length, k.2.1.2])
  rw [e]
  exact wkey _ k.2.1.2
theorem q_eqRK {n : Cx} {R : World → Prop} {L : Slots} {t' : TypeId} {x y : Operand} {k l : RK} (hx : ev L x = some (.agg (RK.c k).toArray)) (hy : ev L y = some (.agg (RK.c l).toArray)) :
    QOp Tryd.prog n R L (.binOp .eql 80 x y t') (.bool (decide (k = l))) :=
  q_eqA eqRK zz17 zz6 hx hy (wRK k) (wRK l) _ (by
    rw [decide_eq_true_eq]
    exact ⟨fun h => by rw [h], RK.c_inj⟩)
def idxF (ks : List RK) (k : RK) : Int := if k ∈ ks then ((ks.findIdx (fun x => decide (x = k)) : Nat) : Int) else -1
theorem idxF_ge (ks : List RK) (k : RK) : (0 ≤ idxF ks k) ↔ k ∈ ks := by
  unfold idxF
  split
  · rename_i h; exact ⟨fun _ => h, fun _ => Int.natCast_nonneg _⟩
  · rename_i h; exact ⟨fun q => absurd q zz17, fun q => absurd q h⟩
theorem getD_memRK {l : List RK} {i : Nat} (h : i < l.length) : l.getD i RK.z ∈ l := by
  rw [List.getD_eq_getElem?_getD, List.getElem?_eq_getElem h]; exact List.getElem_mem h
theorem getD_RK {l : List RK} {i : Nat} (h : i < l.length) : l.getD i RK.z = l[i] := by
  rw [List.getD_eq_getElem?_getD, List.getElem?_eq_getElem h]; rfl
theorem idxF_at {ks : List RK} {k : RK} {i : Nat} (hi : i < ks.length) (h : ks.getD i RK.z = k) (hb : ∀ j, j < i → ks.getD j RK.z ≠ k) : idxF ks k = (i : Int) := by
  unfold idxF
  rw [if_pos (h ▸ getD_memRK hi)]
  congr 1
  rw [List.findIdx_eq hi]
  refine ⟨by rw [← getD_RK hi, h]; exact decide_eq_true rfl, fun j hj => ?_⟩
  have := hb j hj
  rw [getD_RK zz13] at this
  exact decide_eq_false this
theorem mem_RK {ks : List RK} {k : RK} (h : ∀ j, j < ks.length → ks.getD j RK.z ≠ k) : ¬ k ∈ ks := fun hm => by
  obtain ⟨i, hi, he⟩ := List.mem_iff_getElem.1 hm
  exact h i hi (by rw [getD_RK hi]; exact he)
theorem idxF_no {ks : List RK} {k : RK} (h : ∀ j, j < ks.length → ks.getD j RK.z ≠ k) : idxF ks k = -1 := if_neg (mem_RK h)
theorem built_rk (a : UInt32) (r : S16) (t : Int) : Tryd.prog.built 80 [(0, .int .u32 (a.toNat : Int)), (1, .agg (v8s r.1 ++ [Value.int .i64 t]).toArray)] = some (RK.c (a, r, t)).toArray := by
  obtain ⟨l, hl⟩ := r
  obtain ⟨a0, a1, a2, a3, a4, a5, a6, a7, a8, a9, b0, b1, b2, b3, b4, b5, rfl⟩ := sixteen hl
  kernel_rfl
end Go.Proofs.YtjpfhkjmjnjggaaDoor
namespace Go.Proofs.YtjpfhkjmjnjggaaDoor
open Go Go.PL Go.RowKit
theorem index (kv : Value) (ks : List RK) (k : RK) (w : World) (hkv : Seen w.cell? kv ks.length 18 (rks ks))  :
    Calls Tryd.prog 71 [kv, .agg (RK.c k).toArray].toArray w (Pur w (.int .i64 (idxF ks k))) := by
  have skv := hkv.sv
  have lkv := skv.le
  simp only [maxLen] at lkv
  refine enter (m := 19) (R := Mem w [] [] []) Tryd.func71 rfl rfl (Nat.le_of_ble_eq_true rfl) (Mem.start w) ?_
  refine wpc_seq <| wpc_region ?_
  refine wpl_t (t_box rfl (RK.c k) rfl) rfl (fun b3 => ?_)
  refine wpl_q (q_pure rfl) rfl <| wpl_nil <| ex_then <| wpc_seq <| wpc_seq <| wpc_region <| wpl_q (q_pure rfl) rfl ?_
  refine wpl_q (q_lenW Tryd.underlying50 rfl zz4) rfl ?_
  refine wpl_q (q_pure rfl) rfl <| wpl_nil <| ex_then <| wpc_block ?_
  refine wpc_loopc (ι := { x : Nat // (x ≤ ks.length) ∧ (∀ j, j < x → ks.getD j RK.z ≠ k) }) [(0, _), (3, _), (7, _)] (fun x Lc => (8, .int .i64 ((x.1 : Nat) : Int)) :: Lc) (fun x => Mem w [] [.blk b3 80 (RK.c k)] []) (fun x => ks.length - x.1) ⟨0, ⟨Nat.zero_le _, fun j hj => zz13⟩⟩ zz12 ?_ ?_
  ·
   exact fun w h => h
  ·
   rintro ⟨i, ⟨hi0, hi1⟩⟩; try dsimp only
   have hi0 : i ≤ ks.length := hi0; have hi1 : ∀ j, j < i → ks.getD j RK.z ≠ k := hi1
   refine wpc_seq <| wpc_region <| wpl_q (q_pure rfl) rfl <| wpl_nil <| ex_then <| wpc_seq ?_
   refine wpc_cond rfl (fun hc9 => ?_) (fun hc9 => ?_)
   ·
    simp only [decide_eq_true_eq] at hc9
    have hil : i < ks.length := by omega
    refine wpc_skip <| ex_then <| wpc_seq <| wpc_block <| wpc_seq <| wpc_region <| wpl_q (q_pure rfl) rfl <| wpl_q (q_pure rfl) rfl <| wpl_nil <| ex_then <| wpc_seq ?_
    refine wpc_draw 6 zz6 (fun _ h => h.drew) ?_
    refine wpd_q 0 rfl zz6 trivial (q_ldN Tryd.underlying80 rfl Tryd.ti80 rfl LenC.h) rfl (fun _ h => h) ?_
    refine wpd_p 1 rfl zz6 trivial (q_pure rfl) rfl sk0 ?_
    refine wpd_p 2 rfl zz6 trivial (q_pure rfl) rfl sk0 ?_
    refine wpd_p 3 rfl zz6 trivial (q_idxW Tryd.underlying50 Tryd.ti80 rfl rfl zz4 zz2) rfl sk0 ?_
    refine wpd_q 4 rfl zz6 trivial (q_ldWN Tryd.underlying80 rfl Tryd.ti80 rfl (fun w h => h.seen_old hkv) (RK.c (ks.getD i RK.z)) (cat_part RK.c_length RK.z hil) (RK.c_length _)) rfl (fun _ h => h) ?_
    refine wpd_q 5 rfl zz6 trivial (q_eqRK rfl rfl) rfl (fun _ h => h) ?_
    refine wpd_done zz6 ?_
    refine ex_then ?_
    refine wpc_cond rfl (fun hc16 => ?_) (fun hc16 => ?_)
    ·
     have he : k = (ks.getD i RK.z) := of_decide_eq_true hc16
     have hR := idxF_at hil he.symm hi1
     refine wpc_seq <| wpc_region <| wpl_q (q_pure rfl) rfl <| wpl_q (q_pure rfl) rfl <| wpl_nil <| ex_then <| wpc_ret ?_
     refine ex_block_ret ?_
     refine ex_then_ret ?_
     refine ex_then_ret ?_
     refine ex_block_ret ?_
     refine ex_then_ret ?_
     refine ret1 (.inl rfl) rfl rfl ?_
     exact fun w h => ⟨by rw [hR], h.below⟩
    ·
     have hne : ¬ k = (ks.getD i RK.z) := of_decide_eq_false hc16
     refine wpc_skip <| ex_block <| ex_then <| wpc_region ?_
     refine wpl_q (q_addN (b := 1) rfl rfl zz2) rfl ?_
     refine wpl_q (q_pure rfl) rfl <| wpl_nil ?_
     refine ex_again ⟨i + 1, ⟨by show i + 1 ≤ ks.length; omega, fun j hj => by rcases Nat.lt_or_ge j i with h | h; exact hi1 j h; obtain rfl : j = i := (by have hj : j < i + 1 := hj; omega); exact fun e => hne e.symm⟩⟩ ?_ ?_ ?_
     ·
      exact zz12
     ·
      exact fun w h => by first | exact h | exact h.sub SubC.h SubC.h | exact h.sub zz8 zz8
     ·
      (show ks.length - (i + 1) < ks.length - i); omega
   ·
    simp only [decide_eq_false_iff_not] at hc9
    obtain rfl : i = ks.length := by omega
    refine wpc_exit ?_
    refine ex_then_exit ?_
    refine ex_then_exit ?_
    refine ex_block_hit ?_
    refine ex_then <| wpc_seq <| wpc_region <| wpl_q (q_pure rfl) rfl <| wpl_nil <| ex_then <| wpc_ret ?_
    refine ret1 (.inl rfl) rfl rfl ?_
    exact fun w h => ⟨by rw [idxF_no hi1], h.below⟩
theorem contains (kv : Value) (ks : List RK) (k : RK) (w : World) (hkv : Seen w.cell? kv ks.length 18 (rks ks))  :
    Calls Tryd.prog 48 [kv, .agg (RK.c k).toArray].toArray w (Pur w (.bool (decide (k ∈ ks)))) := by
  have skv := hkv.sv
  have lkv := skv.le
  simp only [maxLen] at lkv
  refine enter (m := 9) (R := Mem w [] [] []) Tryd.func48 rfl rfl (Nat.le_of_ble_eq_true rfl) (Mem.start w) ?_
  refine wpc_seq <| wpc_region ?_
  refine wpl_t (t_box rfl (RK.c k) rfl) rfl (fun b3 => ?_)
  refine wpl_q (q_pure rfl) rfl <| wpl_nil <| ex_then <| wpc_seq <| wpc_region <| wpl_q (q_pure rfl) rfl <| wpl_q (q_ldN Tryd.underlying80 rfl Tryd.ti80 rfl LenC.h) rfl ?_
  refine wpl_t (t_pur Tryd.hb71 rfl fun w h => index kv ks k w (h.seen_old hkv)) rfl (fun b7 => ?_)
  refine wpl_q (q_pure rfl) rfl <| wpl_q (q_pure rfl) rfl <| wpl_nil <| ex_then <| wpc_ret ?_
  refine ret1 (.inl rfl) rfl rfl ?_
  exact fun w h => ⟨by rw [decide_eq_decide.2 (idxF_ge ks k).symm], h.below⟩
def Hop.rk (h : Hop) : RK := (h.sy, h.root, h.ht)
theorem wrong1 (hp : Hop) (pb : Nat) (kv : Value) (ks : List RK) (w : World) (hsv : hp.sv) (hpb : CellsAt w.cell? ⟨pb, 0, none⟩ [kv]) (hkv : Seen w.cell? kv ks.length 18 (rks ks)) :
    Calls Tryd.prog 47 [.agg hp.c.toArray, .pointer (some ⟨pb, 0, none⟩)].toArray w (Pur w (.bool (decide (hp.rk ∈ ks)))) := by
  haveI := hsv.one
  refine enter (m := 11) (R := Mem w [] [] []) Tryd.func47 rfl rfl (Nat.le_of_ble_eq_true rfl) (Mem.start w) ?_
  refine wpc_seq <| wpc_region ?_
  refine wpl_t (t_box rfl hp.c rfl) rfl (fun b2 => ?_)
  refine wpl_q (q_pure rfl) rfl <| wpl_nil <| ex_then <| wpc_seq <| wpc_region ?_
  refine wpl_q (q_load1 Tryd.underlying50 rfl rfl (fun w h => (h.at_old hpb 0 kv rfl : w.cell? (Addr.add ⟨pb, 0, none⟩ 0) = some kv))) rfl ?_
  refine wpl_q (q_field Tryd.underlying68 rfl Tryd.ti49 rfl rfl _ rfl) rfl <| wpl_q (q_ld Tryd.underlying49 rfl rfl hp.c_sy) rfl <| wpl_q (q_field Tryd.underlying68 rfl Tryd.ti63 rfl rfl _ rfl) rfl <| wpl_q (q_ldP Tryd.underlying63 rfl Tryd.ti63 rfl hp.key hp.c_key hp.key_length) rfl ?_
  refine wpl_q (q_build (cs := RK.c hp.rk) rfl (built_rk hp.sy hp.root hp.ht)) rfl ?_
  refine wpl_t (t_pur Tryd.hb48 rfl fun w h => contains kv ks hp.rk w (h.seen_old hkv)) rfl (fun b10 => ?_)
  refine wpl_q (q_pure rfl) rfl <| wpl_nil <| ex_then <| wpc_ret ?_
  refine ret1 (.inl rfl) rfl rfl ?_
  exact fun w h => ⟨rfl, h.below⟩
end Go.Proofs.YtjpfhkjmjnjggaaDoor
namespace Go.Proofs.YtjpfhkjmjnjggaaDoor
open Go Go.PL Go.RowKit
theorem rdo_all {w0 w : World} {M : List Ent} {S : List Fact} (h : Mem w0 [] M S w) : ∀ a v, w0.cell? a = some v → rdO (nums M) w a = some v := fun a v hv => by
  unfold rdO
  rw [if_neg]
  · exact h.cell_old hv
  · intro hm
    obtain ⟨f, hf, hn⟩ := mem_nums.1 hm
    rcases h.new f hf _ hn with h4 | h4
    · have := World.block_lt_of_cell? w0 a hv; omega
    · cases h4
theorem glob_all {w0 w1 w2 : World} {M M2 : List Ent} {S S2 : List Fact} (h : Mem w0 [] M S w1) (h2 : Mem w1 (nums M) M2 S2 w2) (hG : Glb w0) : Glb w2 := ⟨hG.1.mono fun a v hv => rdo_old h2 a v (rdo_all h a v hv), Nat.lt_of_lt_of_le hG.2 (Nat.le_trans h.size h2.size)⟩
theorem seen_all {w0 w1 w2 : World} {M M2 : List Ent} {S S2 : List Fact} (h : Mem w0 [] M S w1) (h2 : Mem w1 (nums M) M2 S2 w2) {v : Value} {m sz : Nat} {vs : List Value} (hs : Seen w0.cell? v m sz vs) : Seen w2.cell? v m sz vs := hs.mono fun a u hv => rdo_old h2 a u (rdo_all h a u hv)
theorem hop_all {w0 w1 w2 : World} {M M2 : List Ent} {S S2 : List Fact} (h : Mem w0 [] M S w1) (h2 : Mem w1 (nums M) M2 S2 w2) {x : Hop} (hs : x.seen w0.cell?) : x.seen w2.cell? := hs.mono fun a u hv => rdo_old h2 a u (rdo_all h a u hv)
theorem inM_nums {M : List Ent} {k : Nat} (h : inM M k = false) : k ∉ nums M := fun hm => by
  obtain ⟨f, hf, hn⟩ := mem_nums.1 hm
  exact inM_not h f hf hn
def verH (h : Hop) (b : List UInt8) : Prop := checkF h.ht h.ix h.chs.length h.ps.length = 0 ∧ rootF h.ht h.ix b h.chs h.ps = h.root.1
instance {h : Hop} {b : List UInt8} : Decidable (verH h b) := by unfold verH; exact inferInstance
def wrongH (p : Pth) (ks : List RK) (i : Nat) : Prop := ¬ (p.hs.getD i Hop.z).rk ∈ ks ∨ ¬ verH (p.hs.getD i Hop.z) (msgB p i)
instance {p : Pth} {ks : List RK} {i : Nat} : Decidable (wrongH p ks i) := by unfold wrongH; exact inferInstance
def firstW (p : Pth) (ks : List RK) : Int := match (List.range p.hs.length).find? (fun i => decide (wrongH p ks i)) with
  | some i => (i : Int)
  | none => -1
theorem firstW_at {p : Pth} {ks : List RK} {i : Nat} (hi : i < p.hs.length) (h : wrongH p ks i) (hb : ∀ j, j < i → ¬ wrongH p ks j) : firstW p ks = (i : Int) := by
  have e : (List.range p.hs.length).find? (fun i => decide (wrongH p ks i)) = some i := by
    rw [List.find?_eq_some_iff_append]
    refine ⟨decide_eq_true h, List.range i, (List.range (p.hs.length - i)).map (i + 1 + ·) |>.take (p.hs.length - i - 1), ?_, fun j hj => by rw [List.mem_range] at hj; simpa using hb j hj⟩
    apply List.ext_getElem
    · simp; omega
    · intro m h1 h2
      rw [List.getElem_range]
      rw [List.getElem_append]
      split
      · rw [List.getElem_range]
      · rename_i hm
        rw [List.length_range] at hm
        rcases Nat.lt_or_ge i m with h3 | h3
        · rw [List.getElem_cons]
          split
          · simp at *; omega
          · simp; omega
        · obtain rfl : m = i := by omega
          simp
  unfold firstW
  rw [e]
theorem firstW_no {p : Pth} {ks : List RK} (h : ∀ j, j < p.hs.length → ¬ wrongH p ks j) : firstW p ks = -1 := by
  have e : (List.range p.hs.length).find? (fun i => decide (wrongH p ks i)) = none := List.find?_eq_none.2 fun j hj => by
    rw [List.mem_range] at hj; simpa using h j hj
  unfold firstW
  rw [e]
def wrE (p : Pth) (ks : List RK) : Int := if chkP p ≠ 0 then chkP p else if 100 < ks.length then 4 else 0
def wrI (p : Pth) (ks : List RK) : Int := if wrE p ks = 0 then firstW p ks else 0
theorem wrE_chk {p : Pth} {ks : List RK} (h : chkP p ≠ 0) : wrE p ks = chkP p := if_pos h
theorem wrE_many {p : Pth} {ks : List RK} (h : chkP p = 0) (h2 : 100 < ks.length) : wrE p ks = 4 := (if_neg (by simp [h])).trans (if_pos h2)
theorem wrE_ok {p : Pth} {ks : List RK} (h : chkP p = 0) (h2 : ¬ 100 < ks.length) : wrE p ks = 0 := (if_neg (by simp [h])).trans (if_neg h2)
theorem wrI_no {p : Pth} {ks : List RK} (h : wrE p ks ≠ 0) : wrI p ks = 0 := if_neg h
theorem wrI_ok {p : Pth} {ks : List RK} (h : wrE p ks = 0) : wrI p ks = firstW p ks := if_pos h
theorem msgs_before {p : Pth} {pre : List (Nat × List UInt8)} {x : Nat × List UInt8} (h : (pre ++ [x]) <+: msgs p) : ∀ j, j < x.1 → ∃ y ∈ pre, y.1 = j := fun j hj => by
  obtain ⟨t, ht⟩ := h
  have hl : pre.length < (msgs p).length := by rw [← ht]; simp
  have e : (msgs p)[pre.length]? = some x := by rw [← ht]; simp
  rw [msgs_len] at hl
  rw [msgs, List.getElem?_map, List.getElem?_range hl] at e
  cases e
  have e2 : (msgs p)[j]? = pre[j]? := by
    rw [← ht, List.append_assoc, List.getElem?_append_left hj]
  rw [msgs, List.getElem?_map, List.getElem?_range (Nat.lt_trans hj hl), List.getElem?_eq_getElem hj] at e2
  refine ⟨pre[j], List.getElem_mem hj, ?_⟩
  exact (congrArg Prod.fst (Option.some.inj e2)).symm
end Go.Proofs.YtjpfhkjmjnjggaaDoor
namespace Go.Proofs.YtjpfhkjmjnjggaaDoor
open Go Go.PL Go.RowKit
theorem wrE_inv {p : Pth} {ks : List RK} (h : wrE p ks = 0) : chkP p = 0 ∧ ks.length ≤ 100 := by
  unfold wrE at h
  split at h
  · rename_i hk; exact absurd h hk
  · rename_i hk
    split at h
    · cases h
    · exact ⟨Decidable.not_not.1 hk, zz13⟩
theorem wrong (p : Pth) (kv : Value) (ks : List RK) (w : World) (hp : p.seen w.cell?) (hkv : Seen w.cell? kv ks.length 18 (rks ks)) (hlim : SmP p) (hG : Glb w) :
    Calls Tryd.prog 22 [.agg p.c.toArray, kv].toArray w (Pur w (.tuple #[.int .i64 (wrI p ks), .int .i64 (wrE p ks)])) := by
  obtain ⟨pf, pa, pb, pl, hv, hs⟩ := p
  have hh : Seen w.cell? hv hs.length 24 (hcs hs) := hp.1
  have svh := hh.sv
  have lh := svh.le
  simp only [maxLen] at lh
  have skv := hkv.sv
  have lkv := skv.le
  simp only [maxLen] at lkv
  refine enterN (m := 47) (R := Mem w [] [] []) Tryd.func22 rfl rfl (Nat.le_of_ble_eq_true rfl) (Mem.start w) ?_
  refine wpc_seq <| wpc_region ?_
  refine wpl_t (t_box rfl [.int .u8 (pf.toNat : Int), .int .u64 (pa.toNat : Int), .int .u64 (pb.toNat : Int), .int .i64 pl, hv] rfl) rfl (fun b2 => ?_)
  refine wpl_t (t_box rfl [kv] skv.cells) rfl (fun b3 => ?_)
  refine wpl_t (t_alloc Tryd.ti3 [.int .i64 0] rfl) rfl (fun b4 => ?_)
  refine wpl_t (t_alloc Tryd.ti33 [.int .i64 0] rfl) rfl (fun b5 => ?_)
  refine wpl_nil <| ex_then <| wpc_seq <| wpc_region <| wpl_q (q_ldN Tryd.underlying29 rfl Tryd.ti29 rfl LenC.h) rfl ?_
  refine wpl_t (t_pur Tryd.hb17 rfl fun w h => hopCheck ⟨pf, pa, pb, pl, hv, hs⟩ w (hp.old h)) rfl (fun b12 => ?_)
  refine wpl_q (q_pure rfl) rfl <| wpl_nil <| ex_then ?_
  refine wpc_cutc ({ x : Int // (x = wrE ⟨pf, pa, pb, pl, hv, hs⟩ ks) }) [(2, .pointer (some ⟨b2, 0, none⟩)), (3, .pointer (some ⟨b3, 0, none⟩)), (4, .pointer (some ⟨b4, 0, none⟩)), (5, .pointer (some ⟨b5, 0, none⟩))] (fun x Lc => (6, .int .i64 x.1) :: Lc) (fun x => Mem w [] [.blk b5 33 [.int .i64 0], .blk b4 3 [.int .i64 0], .blk b3 50 [kv], .blk b2 29 [.int .u8 (pf.toNat : Int), .int .u64 (pa.toNat : Int), .int .u64 (pb.toNat : Int), .int .i64 pl, hv]] []) ?_ ?_
  ·
   refine wpc_seq <| wpc_region <| wpl_q (q_pure rfl) rfl <| wpl_q (q_pure rfl) rfl <| wpl_q (q_pure rfl) rfl ?_
   refine wpl_bool2 15 14 rfl rfl (fun hb15 => ?_) (fun hb15 => ?_)
   ·
    have hk0 : chkP ⟨pf, pa, pb, pl, hv, hs⟩ = 0 := by simpa using hb15
    refine wpl_on rfl rfl <| wpl_q (q_ld Tryd.underlying50 rfl rfl rfl) rfl <| wpl_on rfl rfl ?_
    refine wpl_q (q_lenW Tryd.underlying50 rfl zz4) rfl ?_
    refine wpl_on rfl rfl <| wpl_q (q_pure rfl) rfl <| wpl_q (q_pure rfl) rfl <| wpl_nil <| ex_then ?_
    refine wpc_cond rfl (fun hc19 => ?_) (fun hc19 => ?_)
    ·
     simp only [decide_eq_true_eq] at hc19
     have hX : 4 = wrE ⟨pf, pa, pb, pl, hv, hs⟩ ks := (wrE_many hk0 zz13).symm
     refine wpc_region <| wpl_q (q_pure rfl) rfl <| wpl_nil ?_
     refine ex_mid ⟨4, hX⟩ ?_ ?_
     ·
      exact zz12
     ·
      exact fun w h => by first | exact h | exact h.sub SubC.h SubC.h | exact h.sub zz8 zz8
    ·
     simp only [decide_eq_false_iff_not] at hc19
     have hX : chkP ⟨pf, pa, pb, pl, hv, hs⟩ = wrE ⟨pf, pa, pb, pl, hv, hs⟩ ks := hk0.trans (wrE_ok hk0 zz13).symm
     refine wpc_skip ?_
     refine ex_mid ⟨chkP ⟨pf, pa, pb, pl, hv, hs⟩, hX⟩ ?_ ?_
     ·
      exact zz12
     ·
      exact fun w h => by first | exact h | exact h.sub SubC.h SubC.h | exact h.sub zz8 zz8
   ·
    have hk : chkP ⟨pf, pa, pb, pl, hv, hs⟩ ≠ 0 := by simpa using hb15
    have hX : chkP ⟨pf, pa, pb, pl, hv, hs⟩ = wrE ⟨pf, pa, pb, pl, hv, hs⟩ ks := (wrE_chk hk).symm
    refine wpl_off rfl rfl rfl rfl <| wpl_off rfl rfl rfl rfl <| wpl_off rfl rfl rfl rfl <| wpl_q (q_pure rfl) rfl <| wpl_nil <| ex_then ?_
    refine wpc_cond_f rfl ?_
    refine wpc_skip ?_
    refine ex_mid ⟨chkP ⟨pf, pa, pb, pl, hv, hs⟩, hX⟩ ?_ ?_
    ·
     exact zz12
    ·
     exact fun w h => by first | exact h | exact h.sub SubC.h SubC.h | exact h.sub zz8 zz8
  ·
   rintro ⟨e, hi0⟩; try dsimp only
   have hi0 : e = wrE ⟨pf, pa, pb, pl, hv, hs⟩ ks := hi0
   refine wpc_seq <| wpc_seq <| wpc_region <| wpl_q (q_pure rfl) rfl <| wpl_q (q_pure rfl) rfl <| wpl_nil <| ex_then ?_
   refine wpc_cond rfl (fun hc21 => ?_) (fun hc21 => ?_)
   ·
    have hE0 : wrE ⟨pf, pa, pb, pl, hv, hs⟩ ks ≠ 0 := by rw [← hi0]; simpa using hc21
    refine wpc_seq <| wpc_region <| wpl_q (q_pure rfl) rfl ?_
    refine wpl_t0 (t_st1 Tryd.ti3 rfl rfl rfl zz7 [.int .i64 0] rfl) (fun _ => ?_)
    refine wpl_t0 (t_st1 Tryd.ti33 rfl rfl rfl zz7 [.int .i64 e] rfl) (fun _ => ?_)
    refine wpl_nil <| ex_then <| wpc_ret ?_
    refine ex_then_ret ?_
    refine ex_mark0 (.inl rfl) ?_
    refine retv2 (.inl rfl) rfl (rv_one Tryd.underlying3 rfl rfl (fun w h => h.cell_blk (b := b4) zz5 rfl)) (rv_one Tryd.underlying33 rfl rfl (fun w h => h.cell_blk (b := b5) zz5 rfl)) ?_
    exact fun w2 h => ⟨by rw [wrI_no hE0, hi0], h.below⟩
   ·
    have hE : wrE ⟨pf, pa, pb, pl, hv, hs⟩ ks = 0 := by rw [← hi0]; simpa using hc21
    obtain ⟨hk0, hk100⟩ := wrE_inv hE
    refine wpc_skip <| ex_then <| wpc_seq <| wpc_region ?_
    refine wpl_q (q_fn (us := []) (vs := [.pointer (some ⟨b3, 0, none⟩)]) rfl rfl) rfl ?_
    refine wpl_t (t_alloc Tryd.ti101 [.nilFunc] rfl) rfl (fun b7 => ?_)
    refine wpl_t0 (t_st1 Tryd.ti101 rfl rfl rfl zz7 [.func (.func 47) #[] #[.pointer (some ⟨b3, 0, none⟩)]] rfl) (fun _ => ?_)
    refine wpl_nil <| ex_then <| wpc_seq <| wpc_seq <| wpc_region <| wpl_q (q_ldN Tryd.underlying29 rfl Tryd.ti29 rfl LenC.h) rfl ?_
    refine wpl_t (t_call (N := fun pq => [.blk pq 29 [.int .u8 (pf.toNat : Int), .int .u64 (pa.toNat : Int), .int .u64 (pb.toNat : Int), .int .i64 pl, hv]]) (T := fun _ => []) Tryd.hb49 rfl fun w h => messages ⟨pf, pa, pb, pl, hv, hs⟩ w svh) rfl (fun b25 => ?_)
    refine wpl_nil <| ex_then <| wpc_block ?_
    refine wpc_mono (R' := Mem w [] ([.blk b25 29 [.int .u8 (pf.toNat : Int), .int .u64 (pa.toNat : Int), .int .u64 (pb.toNat : Int), .int .i64 pl, hv]] ++ [.blk b7 101 [.func (.func 47) #[] #[.pointer (some ⟨b3, 0, none⟩)]], .blk b5 33 [.int .i64 0], .blk b4 3 [.int .i64 0], .blk b3 50 [kv], .blk b2 29 [.int .u8 (pf.toNat : Int), .int .u64 (pa.toNat : Int), .int .u64 (pb.toNat : Int), .int .i64 pl, hv]]) []) (fun w h => h) ?_
    refine wpc_rangeS (encs := encM) (At := AtM) (Inv := (InvM ⟨pf, pa, pb, pl, hv, hs⟩)) (xs := (msgs ⟨pf, pa, pb, pl, hv, hs⟩)) (ρ := Nat) (β := Unit) [.blk b25 29 [.int .u8 (pf.toNat : Int), .int .u64 (pa.toNat : Int), .int .u64 (pb.toNat : Int), .int .i64 pl, hv]] (fun _ : Unit => [.blk b7 101 [.func (.func 47) #[] #[.pointer (some ⟨b3, 0, none⟩)]], .blk b5 33 [.int .i64 0], .blk b4 3 [.int .i64 0], .blk b3 50 [kv], .blk b2 29 [.int .u8 (pf.toNat : Int), .int .u64 (pa.toNat : Int), .int .u64 (pb.toNat : Int), .int .i64 pl, hv]]) (fun pre _ => ∀ y ∈ pre, ¬ wrongH ⟨pf, pa, pb, pl, hv, hs⟩ ks y.1) () (fun r => r < hs.length ∧ wrongH ⟨pf, pa, pb, pl, hv, hs⟩ ks r ∧ ∀ j, j < r → ¬ wrongH ⟨pf, pa, pb, pl, hv, hs⟩ ks j) (fun _ => .ret) (fun r => [.blk b7 101 [.func (.func 47) #[] #[.pointer (some ⟨b3, 0, none⟩)]], .blk b5 33 [.int .i64 0], .blk b4 3 [.int .i64 ((r : Nat) : Int)], .blk b3 50 [kv], .blk b2 29 [.int .u8 (pf.toNat : Int), .int .u64 (pa.toNat : Int), .int .u64 (pb.toNat : Int), .int .i64 pl, hv]]) (fun x i _ => []) (fun x i b => [(2, .pointer (some ⟨b2, 0, none⟩)), (3, .pointer (some ⟨b3, 0, none⟩)), (4, .pointer (some ⟨b4, 0, none⟩)), (5, .pointer (some ⟨b5, 0, none⟩)), (7, .pointer (some ⟨b7, 0, none⟩)), (8, .int .i64 ((x.1 : Nat) : Int)), (9, i)]) rfl Tryd.hb72 (fun y hy => by cases hy) (fun w h k hk => by rw [show k = b25 by simpa [nums, Ent.num] using hk]; exact (h.new (.blk b25 29 [.int .u8 (pf.toNat : Int), .int .u64 (pa.toNat : Int), .int .u64 (pb.toNat : Int), .int .i64 pl, hv]) zz38 b25 rfl).resolve_right zz38) (fun w h => msgs_it ⟨pf, pa, pb, pl, hv, hs⟩ b25 w (h.own (.blk b25 29 [.int .u8 (pf.toNat : Int), .int .u64 (pa.toNat : Int), .int .u64 (pb.toNat : Int), .int .i64 pl, hv]) zz38) hlim) (fun _ _ _ _ h => ⟨hp.old h, glob h hG⟩) (fun _ _ _ _ _ h hk => RowAt.keep h hk) (fun _ _ => rfl) zz17 ?_ ?_ ?_ ?_
    ·
     intro l x i w1 K hK
     refine wic_seq ?_
     refine wic_region ?_
     refine wil_q (q_pure rfl) rfl ?_
     refine wil_nil ?_
     refine eix_then ?_
     refine wic_region ?_
     refine wil_q (q_pure rfl) rfl ?_
     refine wil_nil ?_
     exact fun a w hs h => hK () a w (hs.weaken (subs_get zz12)) h
    ·
     intro l pre x i s b w1 T hgs hpre hm hat hT
     obtain ⟨hx2, hx1⟩ := msgs_mem (pre_mem hpre)
     have hx1 : x.1 < hs.length := hx1
     have hm : Mem w [] [.blk b7 101 [.func (.func 47) #[] #[.pointer (some ⟨b3, 0, none⟩)]], .blk b5 33 [.int .i64 0], .blk b4 3 [.int .i64 0], .blk b3 50 [kv], .blk b2 29 [.int .u8 (pf.toNat : Int), .int .u64 (pa.toNat : Int), .int .u64 (pb.toNat : Int), .int .i64 pl, hv]] [] w1 := hm
     have hat : RowAt T (.row i x.2.length 5 1 (v8s x.2)) w1 := hat
     have hTn : ∀ j, j ∈ T → j ∉ nums [.blk b7 101 [.func (.func 47) #[] #[.pointer (some ⟨b3, 0, none⟩)]], .blk b5 33 [.int .i64 0], .blk b4 3 [.int .i64 0], .blk b3 50 [kv], .blk b2 29 [.int .u8 (pf.toNat : Int), .int .u64 (pa.toNat : Int), .int .u64 (pb.toNat : Int), .int .i64 pl, hv]] := fun j hj => inM_nums (hT j hj).2
     have hsx : ((hs.getD x.1 Hop.z)).seen w.cell? := hp.2 _ (getD_memO hx1)
     haveI := hsx.sv.one
     show WPCI _ _ _ _ (Mem w1 (nums [.blk b7 101 [.func (.func 47) #[] #[.pointer (some ⟨b3, 0, none⟩)]], .blk b5 33 [.int .i64 0], .blk b4 3 [.int .i64 0], .blk b3 50 [kv], .blk b2 29 [.int .u8 (pf.toNat : Int), .int .u64 (pa.toNat : Int), .int .u64 (pb.toNat : Int), .int .i64 pl, hv]]) [.blk b7 101 [.func (.func 47) #[] #[.pointer (some ⟨b3, 0, none⟩)]], .blk b5 33 [.int .i64 0], .blk b4 3 [.int .i64 0], .blk b3 50 [kv], .blk b2 29 [.int .u8 (pf.toNat : Int), .int .u64 (pa.toNat : Int), .int .u64 (pb.toNat : Int), .int .i64 pl, hv]] []) _ _
     refine wic_block ?_
     refine wic_seq ?_
     refine wic_region ?_
     refine wil_q (q_field Tryd.underlying29 rfl Tryd.ti27 rfl rfl _ rfl) rfl ?_
     refine wil_q (q_ld Tryd.underlying27 rfl rfl rfl) rfl ?_
     refine wil_q (q_pure rfl) rfl ?_
     refine wil_q (q_idxW Tryd.underlying27 Tryd.ti68 rfl rfl zz4 zz2) rfl ?_
     refine wil_q (q_ldWN Tryd.underlying68 rfl Tryd.ti68 rfl (fun w2 h => seen_all hm h hh) (hs.getD x.1 Hop.z).c (cat_part Hop.c_length Hop.z hx1) (Hop.c_length _)) rfl ?_
     refine wil_t (t_alloc Tryd.ti68 Hop.z.c rfl) rfl (fun b10 => ?_)
     refine wil_t0 (t_stA Tryd.ti68 rfl rfl LenC.h OneC.h LenC.h) (fun _ => ?_)
     refine wil_nil ?_
     refine eix_then ?_
     refine wic_seq ?_
     refine wic_region ?_
     refine wil_q (q_ld Tryd.underlying101 rfl rfl rfl) rfl ?_
     refine wil_q (q_ldN Tryd.underlying68 rfl Tryd.ti68 rfl LenC.h) rfl ?_
     refine wil_t (t_purV rfl Tryd.hb47 rfl fun w2 h => wrong1 (hs.getD x.1 Hop.z) b3 kv ks w2 hsx.sv (h.at_blk zz5) (seen_all hm h hkv)) rfl (fun b35 => ?_)
     refine wil_q (q_pure rfl) rfl ?_
     refine wil_q (q_pure rfl) rfl ?_
     refine wil_bool2 37 36 rfl rfl (fun hb37 => ?_) (fun hb37 => ?_)
     ·
      have hwr : wrongH ⟨pf, pa, pb, pl, hv, hs⟩ ks x.1 := .inl (by simpa only [Bool.not_eq_true', decide_eq_false_iff_not] using hb37)
      refine wil_off rfl rfl rfl rfl ?_
      refine wil_off rfl rfl rfl rfl ?_
      refine wil_off rfl rfl rfl rfl ?_
      refine wil_off rfl rfl rfl rfl ?_
      refine wil_off rfl rfl rfl rfl ?_
      refine wil_off rfl rfl rfl rfl ?_
      refine wil_off rfl rfl rfl rfl ?_
      refine wil_q (q_pure rfl) rfl ?_
      refine wil_nil ?_
      refine eix_then ?_
      refine wic_cond_t rfl ?_
      refine wic_seq ?_
      refine wic_region ?_
      refine wil_q (q_pure rfl) rfl ?_
      refine wil_t0 (t_st1 Tryd.ti3 rfl rfl rfl zz7 [.int .i64 ((x.1 : Nat) : Int)] rfl) (fun _ => ?_)
      refine wil_t0 (t_st1 Tryd.ti33 rfl rfl rfl zz7 [.int .i64 0] rfl) (fun _ => ?_)
      refine wil_nil ?_
      refine eix_then ?_
      refine wic_ret ?_
      refine ex_block_ret ?_
      refine ex_roundR ?_
      exact fun w2 h => ⟨x.1, ⟨hx1, hwr, fun j hj => by obtain ⟨y, hy, he⟩ := msgs_before hpre j hj; rw [← he]; exact hgs y hy⟩, rfl, h.sub zz8 .nil⟩
     ·
      have hls : (hs.getD x.1 Hop.z).rk ∈ ks := by simpa only [Bool.not_eq_false', decide_eq_true_eq] using hb37
      refine wil_on rfl rfl ?_
      refine wil_q (q_field Tryd.underlying68 rfl Tryd.ti63 rfl rfl _ rfl) rfl ?_
      refine wil_on rfl rfl ?_
      refine wil_q (q_ldP Tryd.underlying63 rfl Tryd.ti63 rfl (hs.getD x.1 Hop.z).key (Hop.c_key _) (Hop.key_length _)) rfl ?_
      refine wil_on rfl rfl ?_
      refine wil_q (q_pure rfl) rfl ?_
      refine wil_on rfl rfl ?_
      refine wil_q (q_field Tryd.underlying68 rfl Tryd.ti66 rfl rfl _ rfl) rfl ?_
      refine wil_on rfl rfl ?_
      refine wil_q (q_ldP Tryd.underlying66 rfl Tryd.ti66 rfl (hs.getD x.1 Hop.z).sig (Hop.c_sig _) rfl) rfl ?_
      refine wil_on rfl rfl ?_
      refine wil_t (t_pur (v := .bool (decide (verH (hs.getD x.1 Hop.z) (msgB ⟨pf, pa, pb, pl, hv, hs⟩ x.1)))) Tryd.hb35 rfl fun w2 h => by
        have q := verify7 (hs.getD x.1 Hop.z).root.1 (hs.getD x.1 Hop.z).ht i x.2 (hs.getD x.1 Hop.z).cv (hs.getD x.1 Hop.z).pv (hs.getD x.1 Hop.z).chs (hs.getD x.1 Hop.z).ps (hs.getD x.1 Hop.z).ix w2 (hs.getD x.1 Hop.z).root.2 (hat.seen h hTn) (hop_all hm h hsx).1 hsx.2.1 (hop_all hm h hsx).2.2.1 hsx.2.2.2 (glob_all hm h hG)
        rw [hx2] at q
        exact q) rfl (fun b43 => ?_)
      refine wil_on rfl rfl ?_
      refine wil_q (q_pure rfl) rfl ?_
      refine wil_q (q_pure rfl) rfl ?_
      refine wil_nil ?_
      refine eix_then ?_
      refine wic_cond rfl (fun hc45 => ?_) (fun hc45 => ?_)
      ·
       have hwr : wrongH ⟨pf, pa, pb, pl, hv, hs⟩ ks x.1 := .inr (by simpa only [Bool.not_eq_true', decide_eq_false_iff_not] using hc45)
       refine wic_seq ?_
       refine wic_region ?_
       refine wil_q (q_pure rfl) rfl ?_
       refine wil_t0 (t_st1 Tryd.ti3 rfl rfl rfl zz7 [.int .i64 ((x.1 : Nat) : Int)] rfl) (fun _ => ?_)
       refine wil_t0 (t_st1 Tryd.ti33 rfl rfl rfl zz7 [.int .i64 0] rfl) (fun _ => ?_)
       refine wil_nil ?_
       refine eix_then ?_
       refine wic_ret ?_
       refine ex_block_ret ?_
       refine ex_roundR ?_
       exact fun w2 h => ⟨x.1, ⟨hx1, hwr, fun j hj => by obtain ⟨y, hy, he⟩ := msgs_before hpre j hj; rw [← he]; exact hgs y hy⟩, rfl, h.sub zz8 .nil⟩
      ·
       have hvr : verH (hs.getD x.1 Hop.z) (msgB ⟨pf, pa, pb, pl, hv, hs⟩ x.1) := by simpa only [Bool.not_eq_false', decide_eq_true_eq] using hc45
       have hok : ¬ wrongH ⟨pf, pa, pb, pl, hv, hs⟩ ks x.1 := by rintro (q | q); exact q hls; exact q hvr
       refine wic_skip ?_
       refine ex_block ?_
       refine ex_roundN ?_
       exact fun w2 h => ⟨(), fun y hy => by rcases List.mem_append.1 hy with hy | hy; exact hgs y hy; rw [List.mem_singleton] at hy; subst hy; exact hok, h.sub zz8 .nil⟩
    ·
     intro D s hgs
     have hal : ∀ j, j < hs.length → ¬ wrongH ⟨pf, pa, pb, pl, hv, hs⟩ ks j := fun j hj => hgs _ (msgs_at (p := ⟨pf, pa, pb, pl, hv, hs⟩) hj)
     have hR : firstW ⟨pf, pa, pb, pl, hv, hs⟩ ks = -1 := firstW_no (p := ⟨pf, pa, pb, pl, hv, hs⟩) hal
     refine ex_weaken (R1 := Mem w [] (.obj D (.deferred (some [])) :: [.blk b7 101 [.func (.func 47) #[] #[.pointer (some ⟨b3, 0, none⟩)]], .blk b5 33 [.int .i64 0], .blk b4 3 [.int .i64 0], .blk b3 50 [kv], .blk b2 29 [.int .u8 (pf.toNat : Int), .int .u64 (pa.toNat : Int), .int .u64 (pb.toNat : Int), .int .i64 pl, hv]]) []) (L1 := [(4, .pointer (some ⟨b4, 0, none⟩)), (5, .pointer (some ⟨b5, 0, none⟩))]) zz12 (fun w h => h) ?_
     refine ex_block <| ex_then <| wpc_seq <| wpc_region ?_
     refine wpl_t0 (t_st1 Tryd.ti3 rfl rfl rfl zz7 [.int .i64 (-1)] rfl) (fun _ => ?_)
     refine wpl_t0 (t_st1 Tryd.ti33 rfl rfl rfl zz7 [.int .i64 0] rfl) (fun _ => ?_)
     refine wpl_nil <| ex_then <| wpc_ret ?_
     refine ex_markN (.inl rfl) .here ?_
     refine retv2 (.inl rfl) rfl (rv_one Tryd.underlying3 rfl rfl (fun w h => h.cell_blk (b := b4) zz5 rfl)) (rv_one Tryd.underlying33 rfl rfl (fun w h => h.cell_blk (b := b5) zz5 rfl)) ?_
     exact fun w2 h => ⟨by rw [wrI_ok hE, hR, hE], h.below⟩
    ·
     intro D r hr
     obtain ⟨hr1, hr2, hr3⟩ := hr
     have hR : firstW ⟨pf, pa, pb, pl, hv, hs⟩ ks = ((r : Nat) : Int) := firstW_at (p := ⟨pf, pa, pb, pl, hv, hs⟩) hr1 hr2 hr3
     refine wpc_weaken (R1 := Mem w [] (.obj D (.deferred (some [])) :: [.blk b7 101 [.func (.func 47) #[] #[.pointer (some ⟨b3, 0, none⟩)]], .blk b5 33 [.int .i64 0], .blk b4 3 [.int .i64 ((r : Nat) : Int)], .blk b3 50 [kv], .blk b2 29 [.int .u8 (pf.toNat : Int), .int .u64 (pa.toNat : Int), .int .u64 (pb.toNat : Int), .int .i64 pl, hv]]) []) (L1 := [(4, .pointer (some ⟨b4, 0, none⟩)), (5, .pointer (some ⟨b5, 0, none⟩))]) zz12 (fun w h => h) ?_
     refine wpc_ret ?_
     refine ex_block_ret ?_
     refine ex_then_ret ?_
     refine ex_markN (.inl rfl) .here ?_
     refine retv2 (.inl rfl) rfl (rv_one Tryd.underlying3 rfl rfl (fun w h => h.cell_blk (b := b4) zz5 rfl)) (rv_one Tryd.underlying33 rfl rfl (fun w h => h.cell_blk (b := b5) zz5 rfl)) ?_
     exact fun w2 h => ⟨by rw [wrI_ok hE, hR, hE], h.below⟩
end Go.Proofs.YtjpfhkjmjnjggaaDoor
