/- What the statement reaches, in order. -/
import Derived.Test.YtgnablliekgbgaaGreatDoorMXPLN
import Derived.Test.YtgnablliekgbgaaGreatDoorMXPLL
import Derived.Test.YtgnablliekgbgaaGreatDoorMXTI
import Derived.Lib.BufferRead
import Derived.Lib.ConvBytes
import Derived.Laws.IdiomStrings
import Derived.Test.YtgnablliekgbgaaGreatDoorMXPLH
import Derived.Test.YtgnablliekgbgaaGreatDoorMXPLI
import Derived.Test.YtgnablliekgbgaaGreatDoorMXPLZ
import Derived.WalkKit
import Derived.ProofKit
import Derived.OpenShut
import Derived.ChangeOld
import Derived.Below
import Derived.Carry
import Derived.LaidMore
import Derived.Deep.DeepHandedRow
import Derived.Deep.DeepWitnessRowRef
import Derived.Lib.LaidTab
import Derived.Stop.Joined
import Derived.Test.YtgnablliekgbgaaGreatDoorMX5
set_option linter.unusedSimpArgs false
set_option linter.unusedVariables false
set_option maxRecDepth 100000
namespace Go.Proofs.YtgnablliekgbgaaGreatDoor
open Go Go.PL Go.RowKit
theorem sig_oneMm {v1 v2 : Value} {n1 n2 : Nat} (h1 : SV v1 n1) (h2 : SV v2 n2) (idx : Int) : ∀ u ∈ [Value.int .i64 idx, v1, v2], u.oneCell' = true := by
  intro u hu
  simp only [List.mem_cons, List.not_mem_nil, or_false] at hu
  rcases hu with rfl | rfl | rfl
  · rfl
  · exact h1.one
  · exact h2.one
theorem key_len (rs : List UInt8) (ht : Int) (h : rs.length = 16) : (v8s rs ++ [Value.int .i64 ht]).length = 17 := by rw [List.length_append, v8s_length, h]; rfl
theorem refRoot7 (ht : Int) (bv : Value) (bs : List UInt8) (cv pv : Value) (chs ps : List (List UInt8)) (idx : Int) (w : World) (hbv : Seen w.cell? bv bs.length 1 (v8s bs)) (hcv : Seen w.cell? cv chs.length 16 (v8s chs.flatten)) (hlchs : ∀ x ∈ chs, x.length = 16) (hpv : Seen w.cell? pv ps.length 16 (v8s ps.flatten)) (hlps : ∀ x ∈ ps, x.length = 16) (hbl : bs.length ≤ 100000) :
    Calls Tryz.prog 47 [.int .i64 ht, bv, .agg #[.int .i64 idx, cv, pv]].toArray w (Pur w (.tuple #[.agg (v8s (rootF ht idx bs chs ps)).toArray, .int .i64 (checkFMm ht idx chs.length ps.length)])) := by
  have sbv := hbv.sv
  have lbv := sbv.le
  simp only [maxLen] at lbv
  have scv := hcv.sv
  have lcv := scv.le
  simp only [maxLen] at lcv
  have spv := hpv.sv
  have lpv := spv.le
  simp only [maxLen] at lpv
  refine enter (m := 56) (R := Mem w [] [] []) Tryz.func47 rfl rfl (Nat.le_of_ble_eq_true rfl) (Mem.start w) ?_
  refine wpc_seq <| wpc_region ?_
  refine wpl_t (t_box rfl [.int .i64 idx, cv, pv] rfl) rfl (fun b5 => ?_)
  refine wpl_t (t_alloc Tryz.ti32 (v8s (List.replicate 16 0)) (by rfl)) rfl (fun b6 => ?_)
  refine wpl_q (q_pure rfl) rfl <| wpl_nil <| ex_then <| wpc_seq <| wpc_seq <| wpc_region <| wpl_q (q_pure rfl) rfl ?_
  refine wpl_q (q_ldN Tryz.underlying28 rfl Tryz.ti28 rfl zz2) rfl ?_
  refine wpl_t (t_pur Tryz.hb66 rfl fun w h => refCheck7Mm _ _ _ _ _ _ w zz9 zz20 zz9 zz20) rfl (fun b14 => ?_)
  refine wpl_q (q_pure rfl) rfl <| wpl_nil <| ex_then ?_
  refine wpc_cond rfl (fun hc15 => ?_) (fun hc15 => ?_)
  ·
   simp only [bne_iff_ne, ne_eq, decide_eq_true_eq] at hc15
   have hr : rootF ht idx bs chs ps = List.replicate 16 0 := if_neg hc15
   refine wpc_seq <| wpc_region ?_
   refine wpl_q (q_build (cs := (v8s (List.replicate 16 0))) rfl (built_array Tryz.underlying32 Tryz.ti32 Tryz.ti5 rfl)) rfl ?_
   refine wpl_q (q_pure rfl) rfl ?_
   refine wpl_q (q_ldN Tryz.underlying28 rfl Tryz.ti28 rfl zz2) rfl ?_
   refine wpl_t (t_pur Tryz.hb66 rfl fun w h => refCheck7Mm _ _ _ _ _ _ w zz9 zz20 zz9 zz20) rfl (fun b19 => ?_)
   refine wpl_t0 (t_stA Tryz.ti32 rfl rfl zz2 (v8s_one _) zz2) (fun _ => ?_)
   refine wpl_q (q_pure rfl) rfl <| wpl_nil <| ex_then <| wpc_ret ?_
   refine ex_then_ret ?_
   refine retv2 (.inl rfl) rfl (rv_agg Tryz.underlying32 rfl Tryz.ti32 rfl (fun w h => h.atB) zz2) (rv_tmp rfl) ?_
   exact fun w h => ⟨by rw [hr], h.below⟩
  ·
   simp only [bne_eq_false_iff_eq, decide_eq_false_iff_not, ne_eq, Decidable.not_not] at hc15
   obtain ⟨m, k, rfl, rfl, hm, hk, hcl, hpl⟩ := check_spec hc15
   have hpw := pow_le16Mm hm
   have hr : rootF (m : Int) (k : Int) bs chs ps = upF (recF bs chs) k ps ps.length := if_pos hc15
   refine wpc_skip <| ex_then <| wpc_seq <| wpc_region <| wpl_q (q_pure rfl) rfl <| wpl_q (q_field Tryz.underlying28 rfl Tryz.ti26 rfl rfl _ rfl) rfl <| wpl_q (q_ld Tryz.underlying26 rfl rfl rfl) rfl ?_
   refine wpl_t (t_pur Tryz.hb77 rfl fun w h => refRecover _ _ _ _ w zz9 zz9 zz20 zz1) rfl (fun b24 => ?_)
   refine wpl_q (q_pure rfl) rfl <| wpl_q (q_pure rfl) rfl <| wpl_q (q_pure rfl) rfl ?_
   refine wpl_t (t_alloc Tryz.ti32 (v8s (List.replicate 16 0)) (by rfl)) rfl (fun b8 => ?_)
   refine wpl_t0 (t_stA Tryz.ti32 rfl rfl zz2 (v8s_one _) zz2) (fun _ => ?_)
   refine wpl_q (q_pure rfl) rfl <| wpl_nil <| ex_then <| wpc_seq <| wpc_region <| wpl_q (q_field Tryz.underlying28 rfl Tryz.ti3 rfl rfl _ rfl) rfl ?_
   refine wpl_q (q_ld Tryz.underlying3 rfl rfl zz27) rfl ?_
   refine wpl_q (q_pure rfl) rfl <| wpl_nil <| ex_then <| wpc_seq <| wpc_seq <| wpc_region <| wpl_q (q_pure rfl) rfl <| wpl_nil <| ex_then <| wpc_block ?_
   refine wpc_loopc (ι := { x : Nat × Nat // (x.1 ≤ ps.length) ∧ (x.2 = k / 2 ^ x.1) }) [(5, _), (6, _), (8, _)] (fun x Lc => (11, .int .i64 ((x.1.1 : Nat) : Int)) :: (10, .int .i64 ((x.1.2 : Nat) : Int)) :: Lc) (fun x => Mem w [] [.blk b8 32 (v8s (upF (recF bs chs) k ps x.1.1)), .blk b6 32 (v8s (List.replicate 16 0)), .blk b5 28 [.int .i64 ((k : Nat) : Int), cv, pv]] []) (fun x => ps.length - x.1.1) ⟨(0, k), ⟨Nat.zero_le _, by rw [Nat.pow_zero, Nat.div_one]⟩⟩ zz10 ?_ ?_
   ·
    exact fun w h => by
      dsimp only
      rw [show upF (recF bs chs) k ps 0 = recF bs chs from rfl]
      first | exact h.sub SubC.h SubC.h | exact h.sub zz6 zz6
   ·
    rintro ⟨⟨i, j⟩, ⟨hi0, hi1⟩⟩; try dsimp only
    have hi0 : i ≤ ps.length := hi0; have hi1 : j = k / 2 ^ i := hi1
    have hul := upF_length (recF_length bs chs) k ps i
    have hkl : j ≤ 1000 := hi1 ▸ Nat.le_trans (Nat.div_le_self _ _) zz16
    refine wpc_seq <| wpc_seq <| wpc_region <| wpl_q (q_pure rfl) rfl <| wpl_q (q_field Tryz.underlying28 rfl Tryz.ti26 rfl rfl _ rfl) rfl <| wpl_q (q_ld Tryz.underlying26 rfl rfl rfl) rfl ?_
    refine wpl_q (q_lenW Tryz.underlying26 rfl zz5) rfl ?_
    refine wpl_q (q_pure rfl) rfl <| wpl_nil <| ex_then ?_
    refine wpc_cond rfl (fun hc33 => ?_) (fun hc33 => ?_)
    ·
     simp only [decide_eq_true_eq] at hc33
     have hgl := getD_mem_len hlps (i := i) zz16
     have hjl1 := joinedF_length (upF (recF bs chs) k ps i) (ps.getD i [])
     have hjl2 := joinedF_length (ps.getD i []) (upF (recF bs chs) k ps i)
     refine wpc_skip <| ex_then <| wpc_seq <| wpc_block <| wpc_seq <| wpc_seq <| wpc_region <| wpl_q (q_pure rfl) rfl ?_
     refine wpl_q (q_remN (b := 2) rfl rfl zz26) rfl ?_
     refine wpl_q (q_pure rfl) rfl <| wpl_nil <| ex_then ?_
     refine wpc_cond rfl (fun hc38 => ?_) (fun hc38 => ?_)
     ·
      try simp only [decide_eq_true_eq, beq_iff_eq] at hc38
      have hst : stepU (upF (recF bs chs) k ps i) (k / 2 ^ i) (ps.getD i []) = joinedF (upF (recF bs chs) k ps i) (ps.getD i []) := if_pos (by rw [← hi1]; omega)
      refine wpc_draw 7 zz8 (fun _ h => h.drew) ?_
      refine wpd_q 0 rfl zz8 trivial (q_ldN Tryz.underlying32 rfl Tryz.ti32 rfl zz2) rfl (fun _ h => h) ?_
      refine wpd_p 1 rfl zz8 trivial (q_field Tryz.underlying28 rfl Tryz.ti26 rfl rfl _ rfl) rfl sk0 ?_
      refine wpd_q 2 rfl zz8 trivial (q_ld Tryz.underlying26 rfl rfl rfl) rfl (fun _ h => h) ?_
      refine wpd_p 3 rfl zz8 trivial (q_pure rfl) rfl sk0 ?_
      refine wpd_p 4 rfl zz8 trivial (q_idxW Tryz.underlying26 Tryz.ti32 rfl rfl zz5 zz1) rfl sk0 ?_
      refine wpd_q 5 rfl zz8 trivial (q_ldWN Tryz.underlying32 rfl Tryz.ti32 rfl (fun w h => zz14) (v8s (ps.getD i [])) (part8 hlps zz16) ((v8s_length _).trans hgl)) rfl (fun _ h => h) ?_
      refine wpd_t 6 rfl zz8 trivial (t_pur Tryz.hb72 rfl fun w h => refJoined7 _ _ w zz21 zz21) rfl (fun _ => sk0) (fun b45 => ?_)
      refine wpd_t0 7 rfl zz8 trivial (t_stA Tryz.ti32 rfl rfl zz2 (v8s_one _) zz2) (fun _ => skk rfl) (fun _ => ?_)
      refine wpd_done zz8 ?_
      refine ex_then <| wpc_region <| wpl_q (q_pure rfl) rfl ?_
      refine wpl_q (q_quoN (b := 2) rfl rfl zz26 zz1) rfl ?_
      refine wpl_q (q_pure rfl) rfl <| wpl_nil <| ex_block <| ex_then <| wpc_region <| wpl_q (q_pure rfl) rfl ?_
      refine wpl_q (q_addN (b := 1) rfl rfl zz1) rfl ?_
      refine wpl_q (q_pure rfl) rfl <| wpl_nil ?_
      refine ex_again ⟨(i + 1, j / 2), ⟨zz16, by rw [hi1, Nat.pow_succ, Nat.div_div_eq_div_mul]⟩⟩ ?_ ?_ ?_
      ·
       exact zz10
      ·
       exact fun w h => by
         dsimp only
         rw [show upF (recF bs chs) k ps (i + 1) = stepU (upF (recF bs chs) k ps i) (k / 2 ^ i) (ps.getD i []) from rfl, hst]
         first | exact h.sub SubC.h SubC.h | exact h.sub zz6 zz6
      ·
       (show ps.length - (i + 1) < ps.length - i); omega
     ·
      try simp only [decide_eq_false_iff_not, beq_eq_false_iff_ne, ne_eq] at hc38
      have hst : stepU (upF (recF bs chs) k ps i) (k / 2 ^ i) (ps.getD i []) = joinedF (ps.getD i []) (upF (recF bs chs) k ps i) := if_neg (by rw [← hi1]; omega)
      refine wpc_draw 7 zz8 (fun _ h => h.drew) ?_
      refine wpd_p 0 rfl zz8 trivial (q_field Tryz.underlying28 rfl Tryz.ti26 rfl rfl _ rfl) rfl sk0 ?_
      refine wpd_q 1 rfl zz8 trivial (q_ld Tryz.underlying26 rfl rfl rfl) rfl (fun _ h => h) ?_
      refine wpd_p 2 rfl zz8 trivial (q_pure rfl) rfl sk0 ?_
      refine wpd_p 3 rfl zz8 trivial (q_idxW Tryz.underlying26 Tryz.ti32 rfl rfl zz5 zz1) rfl sk0 ?_
      refine wpd_q 4 rfl zz8 trivial (q_ldWN Tryz.underlying32 rfl Tryz.ti32 rfl (fun w h => zz14) (v8s (ps.getD i [])) (part8 hlps zz16) ((v8s_length _).trans hgl)) rfl (fun _ h => h) ?_
      refine wpd_q 5 rfl zz8 trivial (q_ldN Tryz.underlying32 rfl Tryz.ti32 rfl zz2) rfl (fun _ h => h) ?_
      refine wpd_t 6 rfl zz8 trivial (t_pur Tryz.hb72 rfl fun w h => refJoined7 _ _ w zz21 zz21) rfl (fun _ => sk0) (fun b52 => ?_)
      refine wpd_t0 7 rfl zz8 trivial (t_stA Tryz.ti32 rfl rfl zz2 (v8s_one _) zz2) (fun _ => skk rfl) (fun _ => ?_)
      refine wpd_done zz8 ?_
      refine ex_then <| wpc_region <| wpl_q (q_pure rfl) rfl ?_
      refine wpl_q (q_quoN (b := 2) rfl rfl zz26 zz1) rfl ?_
      refine wpl_q (q_pure rfl) rfl <| wpl_nil <| ex_block <| ex_then <| wpc_region <| wpl_q (q_pure rfl) rfl ?_
      refine wpl_q (q_addN (b := 1) rfl rfl zz1) rfl ?_
      refine wpl_q (q_pure rfl) rfl <| wpl_nil ?_
      refine ex_again ⟨(i + 1, j / 2), ⟨zz16, by rw [hi1, Nat.pow_succ, Nat.div_div_eq_div_mul]⟩⟩ ?_ ?_ ?_
      ·
       exact zz10
      ·
       exact fun w h => by
         dsimp only
         rw [show upF (recF bs chs) k ps (i + 1) = stepU (upF (recF bs chs) k ps i) (k / 2 ^ i) (ps.getD i []) from rfl, hst]
         first | exact h.sub SubC.h SubC.h | exact h.sub zz6 zz6
      ·
       (show ps.length - (i + 1) < ps.length - i); omega
    ·
     simp only [decide_eq_false_iff_not] at hc33
     obtain rfl : i = ps.length := by omega
     refine wpc_exit ?_
     refine ex_then_exit ?_
     refine ex_then_exit ?_
     refine ex_block_hit ?_
     refine ex_then <| wpc_seq <| wpc_region ?_
     refine wpl_q (q_ldN Tryz.underlying32 rfl Tryz.ti32 rfl zz2) rfl ?_
     refine wpl_t0 (t_stA Tryz.ti32 rfl rfl zz2 (v8s_one _) zz2) (fun _ => ?_)
     refine wpl_q (q_pure rfl) rfl <| wpl_nil <| ex_then <| wpc_ret ?_
     refine retv2 (.inl rfl) rfl (rv_agg Tryz.underlying32 rfl Tryz.ti32 rfl (fun w h => h.atB) zz2) (rv_tmp rfl) ?_
     exact fun w h => ⟨by rw [hr, hc15], h.below⟩
theorem refVerify7 (rs : List UInt8) (ht : Int) (bv : Value) (bs : List UInt8) (cv pv : Value) (chs ps : List (List UInt8)) (idx : Int) (w : World) (hrs : rs.length = 16) (hbv : Seen w.cell? bv bs.length 1 (v8s bs)) (hcv : Seen w.cell? cv chs.length 16 (v8s chs.flatten)) (hlchs : ∀ x ∈ chs, x.length = 16) (hpv : Seen w.cell? pv ps.length 16 (v8s ps.flatten)) (hlps : ∀ x ∈ ps, x.length = 16) (hbl : bs.length ≤ 100000) :
    Calls Tryz.prog 24 [.agg (v8s rs ++ [Value.int .i64 ht]).toArray, bv, .agg #[.int .i64 idx, cv, pv]].toArray w (Pur w (.bool (decide (checkFMm ht idx chs.length ps.length = 0 ∧ rootF ht idx bs chs ps = rs)))) := by
  have sbv := hbv.sv
  have lbv := sbv.le
  simp only [maxLen] at lbv
  have scv := hcv.sv
  have lcv := scv.le
  simp only [maxLen] at lcv
  have spv := hpv.sv
  have lpv := spv.le
  simp only [maxLen] at lpv
  have hrl := rootF_length ht idx bs chs ps
  refine enter (m := 25) (R := Mem w [] [] []) Tryz.func24 rfl rfl (Nat.le_of_ble_eq_true rfl) (Mem.start w) ?_
  refine wpc_seq <| wpc_region ?_
  refine wpl_t (t_box rfl (v8s rs ++ [Value.int .i64 ht]) rfl) rfl (fun b3 => ?_)
  refine wpl_t (t_box rfl [.int .i64 idx, cv, pv] rfl) rfl (fun b5 => ?_)
  refine wpl_q (q_pure rfl) rfl <| wpl_nil <| ex_then <| wpc_seq <| wpc_region <| wpl_q (q_field Tryz.underlying34 rfl Tryz.ti3 rfl rfl _ rfl) rfl <| wpl_q (q_ld Tryz.underlying3 rfl rfl (key_height rs ht hrs)) rfl <| wpl_q (q_pure rfl) rfl ?_
  refine wpl_q (q_ldN Tryz.underlying28 rfl Tryz.ti28 rfl zz2) rfl ?_
  refine wpl_t (t_pur Tryz.hb47 rfl fun w h => refRoot7 _ _ _ _ _ _ _ _ w zz9 zz9 zz20 zz9 zz20 zz1) rfl (fun b14 => ?_)
  refine wpl_q (q_pure rfl) rfl <| wpl_q (q_pure rfl) rfl <| wpl_q (q_pure rfl) rfl ?_
  refine wpl_t (t_alloc Tryz.ti32 (v8s (List.replicate 16 0)) (by rfl)) rfl (fun b7 => ?_)
  refine wpl_t0 (t_stA Tryz.ti32 rfl rfl zz2 (v8s_one _) zz2) (fun _ => ?_)
  refine wpl_q (q_pure rfl) rfl <| wpl_nil <| ex_then <| wpc_seq <| wpc_region <| wpl_q (q_pure rfl) rfl <| wpl_q (q_pure rfl) rfl <| wpl_q (q_pure rfl) rfl ?_
  refine wpl_bool2 19 18 rfl rfl (fun hb19 => ?_) (fun hb19 => ?_)
  ·
   try simp only [decide_eq_true_eq, decide_eq_false_iff_not, Bool.and_eq_true, Bool.or_eq_true, beq_iff_eq, bne_iff_ne, ne_eq, Bool.not_eq_true', Bool.not_eq_false', Decidable.not_not] at hb19
   refine wpl_on rfl rfl ?_
   refine wpl_q (q_ldN Tryz.underlying32 rfl Tryz.ti32 rfl zz2) rfl ?_
   refine wpl_on rfl rfl <| wpl_q (q_field Tryz.underlying34 rfl Tryz.ti32 rfl rfl _ rfl) rfl <| wpl_on rfl rfl <| wpl_q (q_ldP Tryz.underlying32 rfl Tryz.ti32 rfl (v8s rs) (key_root rs ht hrs) ((v8s_length _).trans hrs)) rfl <| wpl_on rfl rfl ?_
   refine wpl_q (q_eq8 eq8_32Mm zz8 rfl rfl zz41 zz41) rfl ?_
   refine wpl_q (q_pure rfl) rfl <| wpl_q (q_pure rfl) rfl <| wpl_nil <| ex_then <| wpc_ret ?_
   refine ret1 (.inl rfl) rfl rfl ?_
   exact fun w h => ⟨by simp [hb19], h.below⟩
  ·
   simp only [beq_eq_false_iff_ne, ne_eq] at hb19
   refine wpl_off rfl rfl rfl rfl <| wpl_off rfl rfl rfl rfl <| wpl_off rfl rfl rfl rfl <| wpl_off rfl rfl rfl rfl <| wpl_q (q_pure rfl) rfl <| wpl_q (q_pure rfl) rfl <| wpl_nil <| ex_then <| wpc_ret ?_
   refine ret1 (.inl rfl) rfl rfl ?_
   exact fun w h => ⟨by simp [hb19], h.below⟩
end Go.Proofs.YtgnablliekgbgaaGreatDoor
namespace Go.Proofs.YtgnablliekgbgaaGreatDoor
open Go Go.PL Go.RowKit
def nodeF (s : List UInt8) : Nat → Nat → List UInt8
  | 0, k => publicF (leafF s k)
  | l + 1, k => joinedF (nodeF s l (2 * k)) (nodeF s l (2 * k + 1))
theorem nodeF_length (s : List UInt8) : ∀ l k, (nodeF s l k).length = 16
  | 0, k => by rw [nodeF]; exact publicF_length _
  | l + 1, k => by rw [nodeF]; exact joinedF_length _ _
instance l16_node {s : List UInt8} {l k : Nat} : L16 (nodeF s l k) := ⟨nodeF_length s l k⟩
def lev (s : List UInt8) (l n : Nat) : List (List UInt8) := (List.range n).map (nodeF s l)
theorem lev_length (s : List UInt8) (l n : Nat) : (lev s l n).length = n := by simp [lev]
theorem lev_all (s : List UInt8) (l n : Nat) : ∀ x ∈ lev s l n, x.length = 16 := fun x hx => by
  obtain ⟨i, _, rfl⟩ := List.mem_map.1 hx; exact nodeF_length _ _ _
theorem lev_get (s : List UInt8) (l n i : Nat) (h : i < n) : (lev s l n).getD i [] = nodeF s l i := by
  rw [lev, List.getD_eq_getElem?_getD, List.getElem?_map, List.getElem?_eq_getElem (by simpa using h)]; simp
theorem lev_succ (s : List UInt8) (l n : Nat) : lev s l (n + 1) = lev s l n ++ [nodeF s l n] := by simp [lev, List.range_succ]
theorem lev_next (s : List UInt8) (l n i : Nat) (h : 2 * i + 1 < n) : lev s (l + 1) i ++ [joinedF ((lev s l n).getD (2 * i) []) ((lev s l n).getD (2 * i + 1) [])] = lev s (l + 1) (i + 1) := by
  rw [lev_succ, lev_get s l n _ zz16, lev_get s l n _ h]; rfl
theorem cells_pre {r : Rd} {a : Addr} {xs ys : List Value} (h : CellsAt r a (xs ++ ys)) : CellsAt r a xs := fun j u hj => h j u (by
  rw [List.getElem?_append_left (List.getElem?_eq_some_iff.1 hj).1]; exact hj)
structure LevelsOk (s : List UInt8) (m : Nat) (qs : List (Value × List (List UInt8))) (n : Nat) : Prop where
  len : qs.length = n
  rows : ∀ j q, qs[j]? = some q → q.2 = lev s j (2 ^ (m - j))
  sv : ∀ q ∈ qs, SV q.1 q.2.length
theorem LevelsOk.snoc {s : List UInt8} {m n : Nat} {qs : List (Value × List (List UInt8))} {v : Value} (h : LevelsOk s m qs n) (hv : SV v (2 ^ (m - n))) : LevelsOk s m (qs ++ [(v, lev s n (2 ^ (m - n)))]) (n + 1) := by
  refine ⟨by rw [List.length_append, h.len]; rfl, fun j q hj => ?_, fun q hq => ?_⟩
  · rw [List.getElem?_append] at hj
    split at hj
    · exact h.rows j q hj
    · rename_i hlt
      rw [h.len] at hj hlt
      have h1 : j - n = 0 := by
        have := (List.getElem?_eq_some_iff.1 hj).1
        simp at this; omega
      rw [h1] at hj
      obtain rfl : j = n := by omega
      simp at hj; subst hj; rfl
  · rcases List.mem_append.1 hq with hq | hq
    · exact h.sv q hq
    · rw [List.mem_singleton.1 hq]
      show SV v (lev s n (2 ^ (m - n))).length
      rw [lev_length]; exact hv
theorem LevelsOk.get {s : List UInt8} {m n : Nat} {qs : List (Value × List (List UInt8))} (h : LevelsOk s m qs n) {j : Nat} (hj : j < n) : ∃ v, (qs.map Prod.fst)[j]? = some v ∧ (v, lev s j (2 ^ (m - j))) ∈ qs ∧ SV v (2 ^ (m - j)) := by
  have hlt : j < qs.length := by rw [h.len]; exact hj
  have h1 := h.rows j _ (List.getElem?_eq_getElem hlt)
  have h2 := List.getElem_mem hlt
  refine ⟨qs[j].1, by rw [List.getElem?_map, List.getElem?_eq_getElem hlt]; rfl, ?_, ?_⟩
  · rw [← h1]; exact h2
  · have := h.sv _ h2
    rw [h1, lev_length] at this; exact this
theorem pow_half {m l : Nat} (h : l < m) : 2 ^ (m - l) = 2 * 2 ^ (m - (l + 1)) := by
  rw [show m - l = (m - (l + 1)) + 1 from zz16, Nat.pow_succ]; omega
theorem one_one {v : Value} (h : v.oneCell' = true) : ∀ u ∈ [v], u.oneCell' = true := fun u hu => by rw [List.mem_singleton.1 hu]; exact h
theorem levels_one {s : List UInt8} {m : Nat} {v : Value} (hv : SV v (2 ^ m)) : LevelsOk s m [(v, lev s 0 (2 ^ m))] 1 := by
  have := LevelsOk.snoc (s := s) (m := m) (n := 0) (qs := []) (v := v) ⟨rfl, fun j q h => by simp at h, fun q h => by cases h⟩ hv
  exact this
theorem levels_init {w0 w : World} {s : List UInt8} {m : Nat} {v b : Value} {M : List Ent} {t e : TypeId} (h : Mem w0 [] (.row b 1 t 1 [v] :: .row v (2 ^ m) e 16 (v8s (lev s 0 (2 ^ m)).flatten) :: M) [] w) :
    Mem w0 [] (.row b (0 + 1) t 1 ([(v, lev s 0 (2 ^ m))].map Prod.fst) :: M) [Go.PL.seen v (2 ^ (m - 0)) 16 (v8s (lev s 0 (2 ^ (m - 0))).flatten), rowsF 16 [(v, lev s 0 (2 ^ m))]] w := by
  refine (h.freezeRow (.there .here)).imp fun r hr t ht => ?_
  have h1 : Seen r v (2 ^ m) 16 (v8s (lev s 0 (2 ^ m)).flatten) := hr _ (List.mem_cons_self ..)
  rcases List.mem_cons.1 ht with rfl | ht
  · exact h1
  · rw [List.mem_singleton.1 ht]
    intro q hq
    rw [List.mem_singleton.1 hq]
    show Seen r v (lev s 0 (2 ^ m)).length 16 _
    rw [lev_length]; exact h1
theorem levels_next {w0 w : World} {s : List UInt8} {m l : Nat} {v vl b b2 : Value} {qs : List (Value × List (List UInt8))} {x : List Value} {M : List Ent} {t t2 e : TypeId} {N : Nat} {ws : List Value}
    (h : Mem w0 [] (.row b2 1 t2 1 x :: .row v (2 ^ (m - (l + 1))) e 16 (v8s (lev s (l + 1) (2 ^ (m - (l + 1)))).flatten) :: .row b (l + 1 + 1) t 1 (qs.map Prod.fst ++ [v]) :: M) [Go.PL.seen vl N 16 ws, rowsF 16 qs] w) :
    Mem w0 [] (.row b (l + 1 + 1) t 1 ((qs ++ [(v, lev s (l + 1) (2 ^ (m - (l + 1))))]).map Prod.fst) :: M) [Go.PL.seen v (2 ^ (m - (l + 1))) 16 (v8s (lev s (l + 1) (2 ^ (m - (l + 1)))).flatten), rowsF 16 (qs ++ [(v, lev s (l + 1) (2 ^ (m - (l + 1))))])] w := by
  rw [List.map_append]
  refine ((h.sub (.drop (Sub.refl _)) (Sub.refl _)).freezeRow .here).imp fun r hr t ht => ?_
  have h1 : Seen r v (2 ^ (m - (l + 1))) 16 (v8s (lev s (l + 1) (2 ^ (m - (l + 1)))).flatten) := hr _ (List.mem_cons_self ..)
  have h2 : ∀ q ∈ qs, Seen r q.1 q.2.length 16 (v8s q.2.flatten) := hr (rowsF 16 qs) zz47
  rcases List.mem_cons.1 ht with rfl | ht
  · exact h1
  · rw [List.mem_singleton.1 ht]
    intro q hq
    rcases List.mem_append.1 hq with hq | hq
    · exact h2 q hq
    · rw [List.mem_singleton.1 hq]
      show Seen r v (lev s (l + 1) (2 ^ (m - (l + 1)))).length 16 _
      rw [lev_length]; exact h1
theorem leaf7 (xs : List UInt8) (ht : Int) (i : Nat) (w : World) (hxs : xs.length = 16) (hG : Glb w) :
    Calls Tryz.prog 32 [.agg (v8s xs ++ [Value.int .i64 ht]).toArray, .int .i64 ((i : Nat) : Int)].toArray w (Pur w (.agg (v8s (leafF xs i)).toArray)) := by
  refine enter (m := 12) (R := Mem w [] [] []) Tryz.func32 rfl rfl (Nat.le_of_ble_eq_true rfl) (Mem.start w) ?_
  refine wpc_seq <| wpc_region ?_
  refine wpl_t (t_box rfl (v8s xs ++ [Value.int .i64 ht]) rfl) rfl (fun b2 => ?_)
  refine wpl_t (t_alloc Tryz.ti32 (v8s (List.replicate 16 0)) (by rfl)) rfl (fun b4 => ?_)
  refine wpl_nil <| ex_then <| wpc_seq <| wpc_region <| wpl_q (q_field Tryz.underlying71 rfl Tryz.ti32 rfl rfl _ rfl) rfl <| wpl_q (q_arAll Tryz.underlying32 Tryz.ti5 rfl rfl) rfl <| wpl_q (q_pure rfl) rfl <| wpl_q (q8_conv Tryz.underlying3 Tryz.underlying5 rfl) rfl ?_
  refine wpl_tp (t_bsV (v8s [_, (254 : UInt8), (0 : UInt8)]) Tryz.underlying49 Tryz.ti5 rfl rfl zz22 zz22 rfl (v8s_one _)) rfl (fun b9 p9 => ?_)
  refine wpl_tp (t_apF Tryz.underlying49 Tryz.ti5 rfl rfl rfl (fun w h => seen_whole (cells_pre h.atB) zz22 ((v8s_length _).trans hxs)) (fun w h => zz14) zz1 zz1 zz1 _ zz18) rfl (fun b10 p10 => ?_)
  refine wpl_t (t_pur Tryz.hb61 rfl fun w h => shortW _ _ w zz9 (glob h hG)) rfl (fun b11 => ?_)
  refine wpl_t0 (t_stA Tryz.ti32 rfl rfl zz2 (v8s_one _) zz2) (fun _ => ?_)
  refine wpl_nil <| ex_then <| wpc_ret ?_
  refine retv1 (.inl rfl) rfl (rv_agg Tryz.underlying32 rfl Tryz.ti32 rfl (fun w h => h.atB) zz2) ?_
  exact fun w h => ⟨rfl, h.below⟩
theorem levels7 (xs : List UInt8) (m : Nat) (w : World) (hxs : xs.length = 16) (hm : m ≤ 4) (hG : Glb w) :
    Calls Tryz.prog 33 [.agg (v8s xs ++ [Value.int .i64 ((m : Nat) : Int)]).toArray].toArray w (GivesP w (fun x : Value × List (Value × List (List UInt8)) => SV x.1 (m + 1) ∧ LevelsOk xs m x.2 (m + 1)) (fun x => x.1) (fun x => [.row x.1 (m + 1) 26 1 (x.2.map Prod.fst)]) (fun x => [rowsF 16 x.2])) := by
  have hpm := pow_le16Mm hm
  refine enter (m := 52) (R := Mem w [] [] []) Tryz.func33 rfl rfl (Nat.le_of_ble_eq_true rfl) (Mem.start w) ?_
  refine wpc_seq <| wpc_region ?_
  refine wpl_t (t_box rfl (v8s xs ++ [Value.int .i64 ((m : Nat) : Int)]) rfl) rfl (fun b1 => ?_)
  refine wpl_q (q_pure rfl) rfl <| wpl_nil <| ex_then <| wpc_seq <| wpc_region <| wpl_q (q_pure rfl) rfl <| wpl_nil <| ex_then <| wpc_seq <| wpc_seq <| wpc_region <| wpl_q (q_field Tryz.underlying71 rfl Tryz.ti3 rfl rfl _ rfl) rfl ?_
  refine wpl_q (q_ld Tryz.underlying3 rfl rfl (key_height xs m hxs)) rfl ?_
  refine wpl_q (q_shlN (a := 1) rfl rfl zz26 zz1) rfl ?_
  refine wpl_q (q_pure rfl) rfl <| wpl_nil <| ex_then <| wpc_block ?_
  refine wpc_loopc (ι := { x : Nat × Value // (x.1 ≤ 2 ^ m) ∧ (SV x.2 x.1) }) [(1, _), (10, _)] (fun x Lc => (11, .int .i64 ((x.1.1 : Nat) : Int)) :: (3, x.1.2) :: Lc) (fun x => Mem w [] [.row x.1.2 x.1.1 32 16 (v8s (lev xs 0 x.1.1).flatten), .blk b1 71 (v8s xs ++ [Value.int .i64 ((m : Nat) : Int)])] []) (fun x => 2 ^ m - x.1.1) ⟨(0, .slice none 0 0), ⟨Nat.zero_le _, SV.nil⟩⟩ zz10 ?_ ?_
  ·
   exact fun w h => h.nilRow 32 16
  ·
   rintro ⟨⟨i, v⟩, ⟨hi0, hi1⟩⟩; try dsimp only
   have hi0 : i ≤ 2 ^ m := hi0; have hi1 : SV v i := hi1
   refine wpc_seq <| wpc_region <| wpl_q (q_pure rfl) rfl <| wpl_nil <| ex_then <| wpc_seq ?_
   refine wpc_cond rfl (fun hc12 => ?_) (fun hc12 => ?_)
   ·
    simp only [decide_eq_true_eq] at hc12
    refine wpc_skip <| ex_then <| wpc_seq <| wpc_block <| wpc_seq <| wpc_region <| wpl_q (q_pure rfl) rfl <| wpl_q (q_pure rfl) rfl <| wpl_nil <| ex_then <| wpc_region <| wpl_q (q_pure rfl) rfl ?_
    refine wpl_q (q_ldN Tryz.underlying71 rfl Tryz.ti71 rfl (key_len xs m hxs)) rfl <| wpl_q (q_pure rfl) rfl ?_
    refine wpl_t (t_pur Tryz.hb32 rfl fun w h => leaf7 _ _ _ w zz21 (glob h hG)) rfl (fun b17 => ?_)
    refine wpl_t (t_pur Tryz.hb62 rfl fun w h => public_ _ w zz21 (glob h hG)) rfl (fun b18 => ?_)
    refine wpl_tp (t_bsS [_] Tryz.underlying26 Tryz.ti32 rfl zz22 rfl zz22 zz22 rfl (all_one zz21)) rfl (fun b19 p19 => ?_)
    refine wpl_tp (t_apW Tryz.underlying26 Tryz.ti32 rfl zz22 rfl rfl (fun w h => zz14) zz3 zz1 zz1 _ zz18) rfl (fun b20 p20 => ?_)
    refine wpl_q (q_pure rfl) rfl <| wpl_nil <| ex_block <| ex_then <| wpc_region ?_
    refine wpl_q (q_addN (b := 1) rfl rfl zz1) rfl ?_
    refine wpl_q (q_pure rfl) rfl <| wpl_nil ?_
    refine ex_again ⟨(i + 1, b20), ⟨zz16, p20⟩⟩ ?_ ?_ ?_
    ·
     exact zz10
    ·
     exact fun w h => by
       dsimp only
       rw [lev_succ, List.flatten_append]
       exact h.sub (.drop (Sub.refl _)) (Sub.refl _)
    ·
     (show 2 ^ m - (i + 1) < 2 ^ m - i); omega
   ·
    simp only [decide_eq_false_iff_not] at hc12
    obtain rfl : i = 2 ^ m := by omega
    refine wpc_exit ?_
    refine ex_then_exit ?_
    refine ex_then_exit ?_
    refine ex_block_hit ?_
    refine ex_then <| wpc_seq <| wpc_region <| wpl_q (q_pure rfl) rfl ?_
    refine wpl_tp (t_bsV [v] Tryz.underlying74 Tryz.ti26 rfl rfl zz22 zz22 rfl (one_one hi1.one)) rfl (fun b23 p23 => ?_)
    refine wpl_q (q_pure rfl) rfl <| wpl_nil <| ex_then <| wpc_seq <| wpc_block ?_
    refine wpc_loopc (ι := { x : Nat × Value × Value × List (Value × List (List UInt8)) // (x.1 ≤ m) ∧ (SV x.2.1 (2 ^ (m - x.1))) ∧ (SV x.2.2.1 (x.1 + 1)) ∧ (LevelsOk xs m x.2.2.2 (x.1 + 1)) }) [] (fun x Lc => (3, x.1.2.1) :: (5, x.1.2.2.1) :: Lc) (fun x => Mem w [] [.row x.1.2.2.1 (x.1.1 + 1) 26 1 (x.1.2.2.2.map Prod.fst), .blk b1 71 (v8s xs ++ [Value.int .i64 ((m : Nat) : Int)])] [Go.PL.seen x.1.2.1 (2 ^ (m - x.1.1)) 16 (v8s (lev xs x.1.1 (2 ^ (m - x.1.1))).flatten), rowsF 16 x.1.2.2.2]) (fun x => m - x.1.1) ⟨(0, v, b23, [(v, lev xs 0 (2 ^ m))]), ⟨Nat.zero_le _, hi1, p23, levels_one hi1⟩⟩ zz10 ?_ ?_
    ·
     exact fun w h => levels_init h
    ·
     rintro ⟨⟨l, vl, vt, qs⟩, ⟨hi0, hi1, hi2, hi3⟩⟩; try dsimp only
     have hi0 : l ≤ m := hi0; have hi1 : SV vl (2 ^ (m - l)) := hi1; have hi2 : SV vt (l + 1) := hi2; have hi3 : LevelsOk xs m qs (l + 1) := hi3
     refine wpc_seq <| wpc_seq <| wpc_region <| wpl_q (q_pure rfl) rfl ?_
     refine wpl_q (q_lenW Tryz.underlying26 rfl zz5) rfl ?_
     refine wpl_q (q_pure rfl) rfl <| wpl_nil <| ex_then ?_
     refine wpc_cond rfl (fun hc26 => ?_) (fun hc26 => ?_)
     ·
      simp only [decide_eq_true_eq] at hc26
      have hlm : l < m := by
        apply Classical.byContradiction
        intro hn
        have : m - l = 0 := by omega
        rw [this] at hc26
        omega
      have hpw := pow_half hlm
      have hpl : 2 ^ (m - l) ≤ 16 := pow_le16Mm zz16
      have hll := lev_length xs l (2 ^ (m - l))
      have hla := lev_all xs l (2 ^ (m - l))
      refine wpc_skip <| ex_then <| wpc_block <| wpc_seq <| wpc_region <| wpl_q (q_pure rfl) rfl <| wpl_nil <| ex_then <| wpc_seq <| wpc_seq <| wpc_region <| wpl_q (q_pure rfl) rfl ?_
      refine wpl_nil <| ex_then <| wpc_block ?_
      refine wpc_loopc (ι := { x : Nat × Nat × Value // (x.1 ≤ 2 ^ (m - (l + 1))) ∧ (x.2.1 = 2 * x.1) ∧ (SV x.2.2 x.1) }) [(3, _), (5, _)] (fun x Lc => (7, .int .i64 ((x.1.2.1 : Nat) : Int)) :: (6, x.1.2.2) :: Lc) (fun x => Mem w [] [.row x.1.2.2 x.1.1 32 16 (v8s (lev xs (l + 1) x.1.1).flatten), .row vt (l + 1) 26 1 (qs.map Prod.fst), .blk b1 71 (v8s xs ++ [Value.int .i64 ((m : Nat) : Int)])] [Go.PL.seen vl (2 ^ (m - l)) 16 (v8s (lev xs l (2 ^ (m - l))).flatten), rowsF 16 qs]) (fun x => 2 ^ (m - (l + 1)) - x.1.1) ⟨(0, 0, .slice none 0 0), ⟨Nat.zero_le _, rfl, SV.nil⟩⟩ zz10 ?_ ?_
      ·
       exact fun w h => h.nilRow 32 16
      ·
       rintro ⟨⟨i, j, v6⟩, ⟨hi0, hi1, hi2⟩⟩; try dsimp only
       have hi0 : i ≤ 2 ^ (m - (l + 1)) := hi0; have hi1 : j = 2 * i := hi1; have hi2 : SV v6 i := hi2
       refine wpc_seq <| wpc_seq <| wpc_region <| wpl_q (q_pure rfl) rfl <| wpl_q (q_pure rfl) rfl ?_
       refine wpl_q (q_lenW Tryz.underlying26 rfl zz5) rfl ?_
       refine wpl_q (q_pure rfl) rfl <| wpl_nil <| ex_then ?_
       refine wpc_cond rfl (fun hc30 => ?_) (fun hc30 => ?_)
       ·
        simp only [decide_eq_true_eq] at hc30
        have hg1 := getD_mem_len hla (i := j) zz16
        have hg2 := getD_mem_len hla (i := j + 1) zz16
        refine wpc_skip <| ex_then <| wpc_seq <| wpc_block ?_
        refine wpc_draw 12 zz8 (fun _ h => h.drew) ?_
        refine wpd_p 0 rfl zz8 trivial (q_pure rfl) rfl sk0 ?_
        refine wpd_p 1 rfl zz8 trivial (q_pure rfl) rfl sk0 ?_
        refine wpd_p 2 rfl zz8 trivial (q_pure rfl) rfl sk0 ?_
        refine wpd_p 3 rfl zz8 trivial (q_idxW Tryz.underlying26 Tryz.ti32 rfl rfl zz5 zz1) rfl sk0 ?_
        refine wpd_qB 4 [10, 11, 12] rfl zz8 trivial (q_ldWN Tryz.underlying32 rfl Tryz.ti32 rfl (fun w h => zz14) (v8s ((lev xs l (2 ^ (m - l))).getD j [])) (part8 hla zz16) ((v8s_length _).trans hg1)) rfl (fun _ h => h) ?_
        refine wpd_p 5 rfl zz8 trivial (q_pure rfl) rfl sk0 ?_
        refine wpd_p 6 rfl zz8 trivial (q_pure rfl) rfl sk0 ?_
        refine wpd_p 7 rfl zz8 trivial (q_addN (b := 1) rfl rfl zz1) rfl sk0 ?_
        refine wpd_p 8 rfl zz8 trivial (q_idxW Tryz.underlying26 Tryz.ti32 rfl rfl zz5 zz1) rfl sk0 ?_
        refine wpd_qB 9 [10, 11, 12] rfl zz8 trivial (q_ldWN Tryz.underlying32 rfl Tryz.ti32 rfl (fun w h => zz14) (v8s ((lev xs l (2 ^ (m - l))).getD (j + 1) [])) (part8 hla zz16) ((v8s_length _).trans hg2)) rfl (fun _ h => h) ?_
        refine wpd_t 10 rfl zz8 trivial (t_pur Tryz.hb63 rfl fun w h => joined7 _ _ w zz21 zz21 (glob h hG)) rfl (fun _ => sk0) (fun b43 => ?_)
        refine wpd_tp 11 rfl zz8 trivial (t_bsS [_] Tryz.underlying26 Tryz.ti32 rfl zz22 rfl zz22 zz22 rfl (all_one zz21)) rfl (fun _ => (fun w h => .inr (h.sub SubC.h SubC.h))) (fun b44 p44 => ?_)
        refine wpd_tp 12 rfl zz8 trivial (t_apW Tryz.underlying26 Tryz.ti32 rfl zz22 rfl rfl (fun w h => zz14) zz3 zz1 zz1 _ zz18) rfl (fun _ => skk rfl) (fun b45 p45 => ?_)
        refine wpd_p 13 rfl zz8 trivial (q_pure rfl) rfl (skk rfl) ?_
        refine wpd_done zz8 ?_
        refine ex_block <| ex_then <| wpc_region <| wpl_q (q_pure rfl) rfl ?_
        refine wpl_q (q_addN (b := 2) rfl rfl zz1) rfl ?_
        refine wpl_q (q_pure rfl) rfl <| wpl_nil ?_
        refine ex_again ⟨(i + 1, j + 2, b45), ⟨by dsimp only; omega, by dsimp only; omega, p45⟩⟩ ?_ ?_ ?_
        ·
         exact zz10
        ·
         exact fun w h => by
           dsimp only
           rw [← lev_next xs l (2 ^ (m - l)) i zz16, List.flatten_append]
           rw [hi1] at h
           first | exact h.sub SubC.h SubC.h | exact h.sub zz6 zz6
        ·
         (show 2 ^ (m - (l + 1)) - (i + 1) < 2 ^ (m - (l + 1)) - i); omega
       ·
        simp only [decide_eq_false_iff_not] at hc30
        obtain rfl : i = 2 ^ (m - (l + 1)) := by omega
        have hv6 := hi2
        refine wpc_exit ?_
        refine ex_then_exit ?_
        refine ex_then_exit ?_
        refine ex_block_hit ?_
        refine ex_then <| wpc_seq <| wpc_region <| wpl_q (q_pure rfl) rfl <| wpl_q (q_pure rfl) rfl <| wpl_nil <| ex_then <| wpc_region <| wpl_q (q_pure rfl) rfl <| wpl_q (q_pure rfl) rfl ?_
        refine wpl_tp (t_bsV [v6] Tryz.underlying74 Tryz.ti26 rfl rfl zz22 zz22 rfl (one_one hv6.one)) rfl (fun b49 p49 => ?_)
        refine wpl_tp (t_apW Tryz.underlying74 Tryz.ti26 rfl zz22 rfl rfl (fun w h => h.seenV) (one_one hv6.one) zz1 zz1 (qs.map Prod.fst ++ [v6]) rfl) rfl (fun b50 p50 => ?_)
        refine wpl_q (q_pure rfl) rfl <| wpl_nil <| ex_block ?_
        refine ex_again ⟨(l + 1, v6, b50, qs ++ [(v6, lev xs (l + 1) (2 ^ (m - (l + 1))))]), ⟨zz16, hv6, p50, hi3.snoc hv6⟩⟩ ?_ ?_ ?_
        ·
         exact zz10
        ·
         exact fun w h => levels_next h
        ·
         (show m - (l + 1) < m - l); omega
     ·
      simp only [decide_eq_false_iff_not] at hc26
      obtain rfl : l = m := by
        apply Classical.byContradiction
        intro hn
        have := pow_half (show l < m from zz16)
        have := Nat.two_pow_pos (m - (l + 1))
        omega
      refine wpc_exit ?_
      refine ex_then_exit ?_
      refine ex_then_exit ?_
      refine ex_block_hit ?_
      refine ex_then <| wpc_seq <| wpc_region <| wpl_q (q_pure rfl) rfl <| wpl_q (q_pure rfl) rfl <| wpl_nil <| ex_then <| wpc_ret ?_
      refine ret1 (.inl rfl) rfl rfl ?_
      exact fun w h => ⟨(vt, qs), ⟨hi2, hi3⟩, rfl, h.below, h.made (.keep .nil) (.drop (.keep .nil))⟩
end Go.Proofs.YtgnablliekgbgaaGreatDoor
namespace Go.Proofs.YtgnablliekgbgaaGreatDoor
open Go Go.PL Go.RowKit
theorem list16 {xs : List UInt8} (h : xs.length = 16) : ∃ a0 a1 a2 a3 a4 a5 a6 a7 a8 a9 a10 a11 a12 a13 a14 a15, xs = [a0, a1, a2, a3, a4, a5, a6, a7, a8, a9, a10, a11, a12, a13, a14, a15] := by
  iterate 16 (cases xs with | nil => simp at h | cons a xs => ?_)
  cases xs with
  | nil => exact ⟨_, _, _, _, _, _, _, _, _, _, _, _, _, _, _, _, rfl⟩
  | cons a xs => simp at h
theorem built_tree (xs : List UInt8) (ht : Int) (h : xs.length = 16) : Tryz.prog.built 71 [(0, .agg (v8s xs).toArray), (1, .int .i64 ht)] = some (v8s xs ++ [Value.int .i64 ht]).toArray := by
  obtain ⟨a0, a1, a2, a3, a4, a5, a6, a7, a8, a9, a10, a11, a12, a13, a14, a15, rfl⟩ := list16 h
  kernel_rfl
theorem built_sig0 : Tryz.prog.built 28 [] = some #[.int .i64 0, .slice none 0 0, .slice none 0 0] := by kernel_rfl
theorem built_sig2 {v1 : Value} {n1 : Nat} (h1 : SV v1 n1) (idx : Int) : Tryz.prog.built 28 [(0, .int .i64 idx), (1, v1)] = some #[.int .i64 idx, v1, .slice none 0 0] := by
  obtain ⟨a1, c1, rfl, _⟩ := h1
  kernel_rfl
theorem key_one (xs : List UInt8) (ht : Int) : ∀ u ∈ v8s xs ++ [Value.int .i64 ht], u.oneCell' = true := fun u hu => by
  rcases List.mem_append.1 hu with hu | hu
  · exact v8s_one _ u hu
  · rw [List.mem_singleton.1 hu]; rfl
def okS (ht idx : Int) : Prop := (0 ≤ ht ∧ ht ≤ 4) ∧ 0 ≤ idx ∧ idx < ((2 ^ ht.toNat : Nat) : Int)
instance (ht idx : Int) : Decidable (okS ht idx) := by unfold okS; infer_instance
def pathF (s : List UInt8) (k m : Nat) : List (List UInt8) := (List.range m).map fun l => nodeF s l ((k / 2 ^ l) ^^^ 1)
theorem pathF_length (s : List UInt8) (k m : Nat) : (pathF s k m).length = m := by simp [pathF]
theorem pathF_all (s : List UInt8) (k m : Nat) : ∀ x ∈ pathF s k m, x.length = 16 := fun x hx => by
  obtain ⟨i, _, rfl⟩ := List.mem_map.1 hx; exact nodeF_length _ _ _
theorem pathF_succ (s : List UInt8) (k m : Nat) : pathF s k (m + 1) = pathF s k m ++ [nodeF s m ((k / 2 ^ m) ^^^ 1)] := by simp [pathF, List.range_succ]
theorem sib_lt {q m k : Nat} (h : q < 2 ^ m) (hk : k < m) : (q / 2 ^ k) ^^^ 1 < 2 ^ (m - k) := by
  refine Nat.xor_lt_two_pow ?_ ?_
  · rw [Nat.div_lt_iff_lt_mul (Nat.two_pow_pos k), ← Nat.pow_add, Nat.sub_add_cancel (Nat.le_of_lt hk)]; exact h
  · exact Nat.one_lt_two_pow zz16
def sigC (s : List UInt8) (ht idx : Int) (bs : List UInt8) : List (List UInt8) := if okS ht idx then signF (leafF s idx.toNat) bs else []
def sigP (s : List UInt8) (ht idx : Int) : List (List UInt8) := if okS ht idx then pathF s idx.toNat ht.toNat else []
def sigI (ht idx : Int) : Int := if okS ht idx then idx else 0
def sigE (ht idx : Int) : Int := if okS ht idx then 0 else 2
theorem sigC_all (s : List UInt8) (ht idx : Int) (bs : List UInt8) : ∀ x ∈ sigC s ht idx bs, x.length = 16 := by
  unfold sigC; split
  · exact signF_all _ _
  · intro x hx; cases hx
theorem sigP_all (s : List UInt8) (ht idx : Int) : ∀ x ∈ sigP s ht idx, x.length = 16 := by
  unfold sigP; split
  · exact pathF_all _ _ _
  · intro x hx; cases hx
theorem okS_nat {m q : Nat} (hm : m ≤ 4) (hq : q < 2 ^ m) : okS (m : Int) (q : Int) := ⟨⟨zz16, zz16⟩, zz16, by rw [Int.toNat_natCast]; omega⟩
end Go.Proofs.YtgnablliekgbgaaGreatDoor
namespace Go.Proofs.YtgnablliekgbgaaGreatDoor
open Go Go.PL Go.RowKit
theorem sign7 (xs : List UInt8) (ht : Int) (idx : Int) (bv : Value) (bs : List UInt8) (w : World) (hxs : xs.length = 16) (hbv : Seen w.cell? bv bs.length 1 (v8s bs)) (hG : Glb w) :
    Calls Tryz.prog 16 [.agg (v8s xs).toArray, .int .i64 ht, .int .i64 idx, bv].toArray w (GivesP w (fun x : Value × Value => SV x.1 (sigC xs ht idx bs).length ∧ SV x.2 (sigP xs ht idx).length) (fun x : Value × Value => .tuple #[.agg #[.int .i64 (sigI ht idx), x.1, x.2], .int .i64 (sigE ht idx)]) (fun x => [.row x.1 (sigC xs ht idx bs).length 32 16 (v8s (sigC xs ht idx bs).flatten), .row x.2 (sigP xs ht idx).length 32 16 (v8s (sigP xs ht idx).flatten)]) (fun _ => [])) := by
  have sbv := hbv.sv
  have lbv := sbv.le
  simp only [maxLen] at lbv
  refine enter (m := 62) (R := Mem w [] [] []) Tryz.func16 rfl rfl (Nat.le_of_ble_eq_true rfl) (Mem.start w) ?_
  refine wpc_seq <| wpc_region ?_
  refine wpl_t (t_box rfl (v8s xs) rfl) rfl (fun b4 => ?_)
  refine wpl_t (t_alloc Tryz.ti28 _ rfl) rfl (fun b8 => ?_)
  refine wpl_q (q_pure rfl) rfl <| wpl_nil <| ex_then <| wpc_seq <| wpc_seq <| wpc_region <| wpl_q (q_pure rfl) rfl ?_
  refine wpl_t (t_pur Tryz.hb30 rfl fun w h => goodMm _ w) rfl (fun b15 => ?_)
  refine wpl_q (q_pure rfl) rfl <| wpl_q (q_pure rfl) rfl ?_
  refine wpl_bool2 17 16 rfl rfl (fun hb17 => ?_) (fun hb17 => ?_)
  ·
   try simp only [decide_eq_true_eq, decide_eq_false_iff_not, Bool.and_eq_true, Bool.or_eq_true, beq_iff_eq, bne_iff_ne, ne_eq, Bool.not_eq_true', Bool.not_eq_false', Decidable.not_not] at hb17
   refine wpl_off rfl rfl rfl rfl <| wpl_off rfl rfl rfl rfl <| wpl_q (q_pure rfl) rfl <| wpl_q (q_pure rfl) rfl <| wpl_off rfl rfl rfl rfl <| wpl_off rfl rfl rfl rfl <| wpl_off rfl rfl rfl rfl <| wpl_off rfl rfl rfl rfl <| wpl_q (q_pure rfl) rfl <| wpl_nil <| ex_then ?_
   refine wpc_cond_t rfl ?_
   refine wpc_seq <| wpc_region ?_
   refine wpl_q (q_build (cs := [.int .i64 0, .slice none 0 0, .slice none 0 0]) rfl built_sig0) rfl ?_
   refine wpl_t0 (t_stA Tryz.ti28 rfl rfl zz2 zz3 zz2) (fun _ => ?_)
   refine wpl_q (q_pure rfl) rfl <| wpl_nil <| ex_then <| wpc_ret ?_
   refine ex_then_ret ?_
   refine retv2 (.inl rfl) rfl (rv_agg Tryz.underlying28 rfl Tryz.ti28 rfl (fun w h => h.atB) rfl) (rv_tmp rfl) ?_
   exact fun w h => by
     first
     | (
       have hno : ¬ okS ht idx := fun hk => by
         obtain ⟨h1, h2, h3⟩ := hk
         try rw [Int.toNat_natCast] at h3
         first | omega | (simp only [Bool.not_eq_true', decide_eq_false_iff_not, decide_eq_true_eq] at *; omega) | (simp_all; done)
       have e1 : sigC xs ht idx bs = [] := if_neg hno
       have e2 : sigP xs ht idx = [] := if_neg hno
       have e3 : sigI ht idx = 0 := if_neg hno
       have e4 : sigE ht idx = 2 := if_neg hno
       rw [e1, e2, e3, e4]
       exact ⟨(.slice none 0 0, .slice none 0 0), ⟨SV.nil, SV.nil⟩, rfl, h.below, ((h.nilRow 32 16).nilRow 32 16).made (.keep (.keep .nil)) .nil⟩)
     | (
       have hno : ¬ okS (m : Int) idx := fun hk => by
         obtain ⟨h1, h2, h3⟩ := hk
         try rw [Int.toNat_natCast] at h3
         first | omega | (simp only [Bool.not_eq_true', decide_eq_false_iff_not, decide_eq_true_eq] at *; omega) | (simp_all; done)
       have e1 : sigC xs (m : Int) idx bs = [] := if_neg hno
       have e2 : sigP xs (m : Int) idx = [] := if_neg hno
       have e3 : sigI (m : Int) idx = 0 := if_neg hno
       have e4 : sigE (m : Int) idx = 2 := if_neg hno
       rw [e1, e2, e3, e4]
       exact ⟨(.slice none 0 0, .slice none 0 0), ⟨SV.nil, SV.nil⟩, rfl, h.below, ((h.nilRow 32 16).nilRow 32 16).made (.keep (.keep .nil)) .nil⟩)
  ·
   simp only [Bool.not_eq_false', decide_eq_true_eq] at hb17
   obtain ⟨m, rfl⟩ : ∃ m : Nat, ht = (m : Int) := ⟨ht.toNat, zz16⟩
   have hpw := pow_le16Mm (m := m) zz16
   refine wpl_on rfl rfl <| wpl_q (q_pure rfl) rfl <| wpl_on rfl rfl <| wpl_q (q_pure rfl) rfl <| wpl_q (q_pure rfl) rfl <| wpl_q (q_pure rfl) rfl ?_
   refine wpl_bool2 21 19 rfl rfl (fun hb21 => ?_) (fun hb21 => ?_)
   ·
    try simp only [decide_eq_true_eq, decide_eq_false_iff_not, Bool.and_eq_true, Bool.or_eq_true, beq_iff_eq, bne_iff_ne, ne_eq, Bool.not_eq_true', Bool.not_eq_false', Decidable.not_not] at hb21
    refine wpl_off rfl rfl rfl rfl <| wpl_off rfl rfl rfl rfl <| wpl_off rfl rfl rfl rfl <| wpl_off rfl rfl rfl rfl <| wpl_q (q_pure rfl) rfl <| wpl_nil <| ex_then ?_
    refine wpc_cond_t rfl ?_
    refine wpc_seq <| wpc_region ?_
    refine wpl_q (q_build (cs := [.int .i64 0, .slice none 0 0, .slice none 0 0]) rfl built_sig0) rfl ?_
    refine wpl_t0 (t_stA Tryz.ti28 rfl rfl zz2 zz3 zz2) (fun _ => ?_)
    refine wpl_q (q_pure rfl) rfl <| wpl_nil <| ex_then <| wpc_ret ?_
    refine ex_then_ret ?_
    refine retv2 (.inl rfl) rfl (rv_agg Tryz.underlying28 rfl Tryz.ti28 rfl (fun w h => h.atB) rfl) (rv_tmp rfl) ?_
    exact fun w h => by
      first
      | (
        have hno : ¬ okS ht idx := fun hk => by
          obtain ⟨h1, h2, h3⟩ := hk
          try rw [Int.toNat_natCast] at h3
          first | omega | (simp only [Bool.not_eq_true', decide_eq_false_iff_not, decide_eq_true_eq] at *; omega) | (simp_all; done)
        have e1 : sigC xs ht idx bs = [] := if_neg hno
        have e2 : sigP xs ht idx = [] := if_neg hno
        have e3 : sigI ht idx = 0 := if_neg hno
        have e4 : sigE ht idx = 2 := if_neg hno
        rw [e1, e2, e3, e4]
        exact ⟨(.slice none 0 0, .slice none 0 0), ⟨SV.nil, SV.nil⟩, rfl, h.below, ((h.nilRow 32 16).nilRow 32 16).made (.keep (.keep .nil)) .nil⟩)
      | (
        have hno : ¬ okS (m : Int) idx := fun hk => by
          obtain ⟨h1, h2, h3⟩ := hk
          try rw [Int.toNat_natCast] at h3
          first | omega | (simp only [Bool.not_eq_true', decide_eq_false_iff_not, decide_eq_true_eq] at *; omega) | (simp_all; done)
        have e1 : sigC xs (m : Int) idx bs = [] := if_neg hno
        have e2 : sigP xs (m : Int) idx = [] := if_neg hno
        have e3 : sigI (m : Int) idx = 0 := if_neg hno
        have e4 : sigE (m : Int) idx = 2 := if_neg hno
        rw [e1, e2, e3, e4]
        exact ⟨(.slice none 0 0, .slice none 0 0), ⟨SV.nil, SV.nil⟩, rfl, h.below, ((h.nilRow 32 16).nilRow 32 16).made (.keep (.keep .nil)) .nil⟩)
   ·
    try simp only [decide_eq_true_eq, decide_eq_false_iff_not, Bool.and_eq_true, Bool.or_eq_true, beq_iff_eq, bne_iff_ne, ne_eq, Bool.not_eq_true', Bool.not_eq_false', Decidable.not_not] at hb21
    refine wpl_on rfl rfl <| wpl_q (q_pure rfl) rfl <| wpl_on rfl rfl <| wpl_q (q_pure rfl) rfl <| wpl_on rfl rfl ?_
    refine wpl_q (q_shlN (a := 1) rfl rfl zz26 zz1) rfl ?_
    refine wpl_on rfl rfl <| wpl_q (q_pure rfl) rfl <| wpl_q (q_pure rfl) rfl <| wpl_nil <| ex_then ?_
    refine wpc_cond rfl (fun hc26 => ?_) (fun hc26 => ?_)
    ·
     try simp only [decide_eq_true_eq, decide_eq_false_iff_not, Bool.and_eq_true, Bool.or_eq_true, beq_iff_eq, bne_iff_ne, ne_eq, Bool.not_eq_true', Bool.not_eq_false', Decidable.not_not] at hc26
     refine wpc_seq <| wpc_region ?_
     refine wpl_q (q_build (cs := [.int .i64 0, .slice none 0 0, .slice none 0 0]) rfl built_sig0) rfl ?_
     refine wpl_t0 (t_stA Tryz.ti28 rfl rfl zz2 zz3 zz2) (fun _ => ?_)
     refine wpl_q (q_pure rfl) rfl <| wpl_nil <| ex_then <| wpc_ret ?_
     refine ex_then_ret ?_
     refine retv2 (.inl rfl) rfl (rv_agg Tryz.underlying28 rfl Tryz.ti28 rfl (fun w h => h.atB) rfl) (rv_tmp rfl) ?_
     exact fun w h => by
       first
       | (
         have hno : ¬ okS ht idx := fun hk => by
           obtain ⟨h1, h2, h3⟩ := hk
           try rw [Int.toNat_natCast] at h3
           first | omega | (simp only [Bool.not_eq_true', decide_eq_false_iff_not, decide_eq_true_eq] at *; omega) | (simp_all; done)
         have e1 : sigC xs ht idx bs = [] := if_neg hno
         have e2 : sigP xs ht idx = [] := if_neg hno
         have e3 : sigI ht idx = 0 := if_neg hno
         have e4 : sigE ht idx = 2 := if_neg hno
         rw [e1, e2, e3, e4]
         exact ⟨(.slice none 0 0, .slice none 0 0), ⟨SV.nil, SV.nil⟩, rfl, h.below, ((h.nilRow 32 16).nilRow 32 16).made (.keep (.keep .nil)) .nil⟩)
       | (
         have hno : ¬ okS (m : Int) idx := fun hk => by
           obtain ⟨h1, h2, h3⟩ := hk
           try rw [Int.toNat_natCast] at h3
           first | omega | (simp only [Bool.not_eq_true', decide_eq_false_iff_not, decide_eq_true_eq] at *; omega) | (simp_all; done)
         have e1 : sigC xs (m : Int) idx bs = [] := if_neg hno
         have e2 : sigP xs (m : Int) idx = [] := if_neg hno
         have e3 : sigI (m : Int) idx = 0 := if_neg hno
         have e4 : sigE (m : Int) idx = 2 := if_neg hno
         rw [e1, e2, e3, e4]
         exact ⟨(.slice none 0 0, .slice none 0 0), ⟨SV.nil, SV.nil⟩, rfl, h.below, ((h.nilRow 32 16).nilRow 32 16).made (.keep (.keep .nil)) .nil⟩)
    ·
     obtain ⟨q, rfl⟩ : ∃ q : Nat, idx = (q : Int) := ⟨idx.toNat, zz16⟩
     have hq : q < 2 ^ m := by
       simp only [decide_eq_false_iff_not] at hc26
       omega
     have hok : okS (m : Int) (q : Int) := okS_nat zz16 hq
     have e1 : sigC xs m q bs = signF (leafF xs q) bs := if_pos hok
     have e2 : sigP xs m q = pathF xs q m := if_pos hok
     have e3 : sigI m q = q := if_pos hok
     have e4 : sigE m q = 0 := if_pos hok
     refine wpc_skip <| ex_then <| wpc_seq <| wpc_region ?_
     refine wpl_q (q_ldN Tryz.underlying32 rfl Tryz.ti32 rfl zz2) rfl ?_
     refine wpl_q (q_pure rfl) rfl ?_
     refine wpl_q (q_build (cs := v8s xs ++ [Value.int .i64 ((m : Nat) : Int)]) rfl (built_tree _ _ hxs)) rfl ?_
     refine wpl_t (t_alloc Tryz.ti71 _ rfl) rfl (fun b10 => ?_)
     refine wpl_t0 (t_stA Tryz.ti71 rfl rfl zz2 zz3 zz2) (fun _ => ?_)
     refine wpl_nil <| ex_then <| wpc_seq <| wpc_region <| wpl_q (q_pure rfl) rfl ?_
     refine wpl_q (q_ldN Tryz.underlying71 rfl Tryz.ti71 rfl zz2) rfl ?_
     refine wpl_q (q_pure rfl) rfl ?_
     refine wpl_t (t_pur Tryz.hb32 rfl fun w h => leaf7 _ _ _ w zz21 (glob h hG)) rfl (fun b34 => ?_)
     refine wpl_q (q_pure rfl) rfl ?_
     refine wpl_tp (t_callP1 Tryz.hb31 rfl fun w h => sign1 _ _ _ w zz21 zz9 (glob h hG)) rfl (fun b36 p36 => ?_)
     refine wpl_q (q_build (cs := [.int .i64 ((q : Nat) : Int), b36, .slice none 0 0]) rfl (built_sig2 p36 _)) rfl ?_
     refine wpl_t (t_alloc Tryz.ti28 _ rfl) rfl (fun b11 => ?_)
     refine wpl_t0 (t_stA Tryz.ti28 rfl rfl zz2 zz3 zz2) (fun _ => ?_)
     refine wpl_nil <| ex_then <| wpc_seq <| wpc_seq <| wpc_region <| wpl_q (q_ldN Tryz.underlying71 rfl Tryz.ti71 rfl (key_len _ _ hxs)) rfl ?_
     refine wpl_tp (t_callPF Tryz.hb33 rfl fun w h => levels7 _ _ w zz21 zz16 (glob h hG)) rfl (fun b39 p39 => ?_)
     obtain ⟨hq1, hq2⟩ := p39
     refine wpl_q (q_pure rfl) rfl ?_
     refine wpl_q (q_slWh Tryz.underlying74 Tryz.ti26 rfl rfl zz5 zz16) rfl ?_
     refine wpl_q (q_lenW Tryz.underlying74 rfl zz5) rfl ?_
     refine wpl_q (q_pure rfl) rfl <| wpl_nil <| ex_then <| wpc_block ?_
     refine wpc_loopc (ι := { x : Nat × Value // (x.1 ≤ m) ∧ (SV x.2 x.1) }) [(2, _), (8, _), (11, _), (41, _), (42, _)] (fun x Lc => (43, .int .i64 ((x.1.1 : Nat) : Int)) :: Lc) (fun x => Mem w [] [.row x.1.2 x.1.1 32 16 (v8s (pathF xs q x.1.1).flatten), .row b39.1 (m + 1) 26 1 (b39.2.map Prod.fst), .blk b11 28 [.int .i64 ((q : Nat) : Int), b36, x.1.2], .row b36 35 32 16 (v8s (signF (leafF xs q) bs).flatten), .blk b10 71 (v8s xs ++ [Value.int .i64 ((m : Nat) : Int)]), .blk b8 28 [.int .i64 0, .slice none 0 0, .slice none 0 0]] [rowsF 16 b39.2]) (fun x => m - x.1.1) ⟨(0, .slice none 0 0), ⟨Nat.zero_le _, SV.nil⟩⟩ zz10 ?_ ?_
     ·
      exact fun w h => by
        dsimp only
        exact (h.nilRow 32 16).sub (.keep (.keep (.keep (.keep (.keep (.keep .nil)))))) (Sub.refl _)
     ·
      rintro ⟨⟨k, vp⟩, ⟨hi0, hi1⟩⟩; try dsimp only
      have hi0 : k ≤ m := hi0; have hi1 : SV vp k := hi1
      refine wpc_seq <| wpc_region <| wpl_q (q_pure rfl) rfl <| wpl_nil <| ex_then <| wpc_seq ?_
      refine wpc_cond rfl (fun hc44 => ?_) (fun hc44 => ?_)
      ·
       simp only [decide_eq_true_eq] at hc44
       have hkm : k < m := by omega
       obtain ⟨u, hu1, hu2, hu3⟩ := hq2.get (show k < m + 1 from zz16)
       have hsl := sib_lt hq hkm
       have hqk : q / 2 ^ k ≤ q := Nat.div_le_self _ _
       have hpk : 2 ^ k ≤ 16 := pow_le16Mm zz16
       have hll := lev_length xs k (2 ^ (m - k))
       have hla := lev_all xs k (2 ^ (m - k))
       have hgl := getD_mem_len hla (i := ((q / 2 ^ k) ^^^ 1)) (by rw [hll]; exact hsl)
       refine wpc_skip <| ex_then <| wpc_seq <| wpc_block <| wpc_seq <| wpc_region <| wpl_q (q_pure rfl) rfl ?_
       refine wpl_q (q_idxW1 Tryz.underlying74 Tryz.ti26 rfl rfl zz5 zz1) rfl ?_
       refine wpl_q (q_ldW Tryz.underlying26 rfl rfl (fun w h => h.seenV.slv 0 m (Nat.zero_le _) zz16) (by rw [Nat.zero_mul, List.drop_zero, List.getElem?_take, if_pos zz16]; exact hu1)) rfl ?_
       refine wpl_q (q_pure rfl) rfl <| wpl_q (q_pure rfl) rfl <| wpl_nil <| ex_then ?_
       refine wpc_draw 10 zz8 (fun _ h => h.drew) ?_
       refine wpd_p 0 rfl zz8 trivial (q_field Tryz.underlying28 rfl Tryz.ti26 rfl rfl _ rfl) rfl sk0 ?_
       refine wpd_q 1 rfl zz8 trivial (q_ld Tryz.underlying26 rfl rfl rfl) rfl (fun _ h => h) ?_
       refine wpd_p 2 rfl zz8 trivial (q_pure rfl) rfl sk0 ?_
       refine wpd_p 3 rfl zz8 trivial (q_pure rfl) rfl sk0 ?_
       refine wpd_p 4 rfl zz8 trivial (q_pure rfl) rfl sk0 ?_
       refine wpd_p 5 rfl zz8 trivial (q_shrN rfl rfl zz26) rfl sk0 ?_
       refine wpd_p 6 rfl zz8 trivial (q_xorN (b := 1) rfl rfl zz1 zz1) rfl sk0 ?_
       refine wpd_p 7 rfl zz8 trivial (q_idxW Tryz.underlying26 Tryz.ti32 rfl rfl zz5 zz1) rfl sk0 ?_
       refine wpd_qB 8 [9, 10] rfl zz8 trivial (q_ldWN Tryz.underlying32 rfl Tryz.ti32 rfl (fun w h => h.rowsF zz7 hu2) (v8s ((lev xs k (2 ^ (m - k))).getD ((q / 2 ^ k) ^^^ 1) [])) (part8 hla (by rw [hll]; exact hsl)) ((v8s_length _).trans hgl)) rfl (fun _ h => h) ?_
       refine wpd_tp 9 rfl zz8 trivial (t_bsS [_] Tryz.underlying26 Tryz.ti32 rfl zz22 rfl zz22 zz22 rfl (all_one zz21)) rfl (fun _ => (fun w h => .inr (h.sub SubC.h SubC.h))) (fun b57 p57 => ?_)
       refine wpd_tp 10 rfl zz8 trivial (t_apW Tryz.underlying26 Tryz.ti32 rfl zz22 rfl rfl (fun w h => zz14) zz3 zz1 zz1 (v8s (pathF xs q (k + 1)).flatten) (by rw [pathF_succ, List.flatten_append, v8s_append, ← lev_get xs k (2 ^ (m - k)) ((q / 2 ^ k) ^^^ 1) hsl])) rfl (fun _ => skk rfl) (fun b58 p58 => ?_)
       refine wpd_p 11 rfl zz8 trivial (q_field Tryz.underlying28 rfl Tryz.ti26 rfl rfl _ rfl) rfl (skk rfl) ?_
       refine wpd_t0 12 rfl zz8 trivial (t_st1 Tryz.ti26 rfl rfl (SV.one zz5) zz4 _ rfl) (fun _ => skk rfl) (fun _ => ?_)
       refine wpd_done zz8 ?_
       refine ex_block <| ex_then <| wpc_region ?_
       refine wpl_q (q_addN (b := 1) rfl rfl zz1) rfl ?_
       refine wpl_q (q_pure rfl) rfl <| wpl_nil ?_
       refine ex_again ⟨(k + 1, b58), ⟨zz16, p58⟩⟩ ?_ ?_ ?_
       ·
        exact zz10
       ·
        exact fun w h => h.sub (.drop (Sub.refl _)) (Sub.refl _)
       ·
        (show m - (k + 1) < m - k); omega
      ·
       simp only [decide_eq_false_iff_not] at hc44
       obtain rfl : k = m := by omega
       refine wpc_exit ?_
       refine ex_then_exit ?_
       refine ex_then_exit ?_
       refine ex_block_hit ?_
       refine ex_then <| wpc_seq <| wpc_region ?_
       refine wpl_q (q_ldN Tryz.underlying28 rfl Tryz.ti28 rfl zz2) rfl ?_
       refine wpl_t0 (t_stA Tryz.ti28 rfl rfl zz2 zz3 zz2) (fun _ => ?_)
       refine wpl_q (q_pure rfl) rfl <| wpl_nil <| ex_then <| wpc_ret ?_
       refine retv2 (.inl rfl) rfl (rv_agg Tryz.underlying28 rfl Tryz.ti28 rfl (fun w h => h.atB) rfl) (rv_tmp rfl) ?_
       exact fun w h => by
         rw [e1, e2, e3, e4, signF_length, pathF_length]
         exact ⟨(b36, vp), ⟨p36, hi1⟩, rfl, h.below, by first | exact h.made (.keep (.keep .nil)) .nil | exact (h.sub (M' := [_, _]) SubC.h .nil).swap.made (.keep (.keep .nil)) .nil⟩
end Go.Proofs.YtgnablliekgbgaaGreatDoor
namespace Go.Proofs.YtgnablliekgbgaaGreatDoor
open Go Go.PL Go.RowKit
theorem node_bound {i k : Nat} (hi : i ≤ 100) (hk : k ≤ 4) : (i + 1) * 2 ^ k ≤ 2 ^ 40 := Nat.le_trans (Nat.mul_le_mul (show i + 1 ≤ 101 from zz16) (pow_le16Mm hk)) zz22
theorem sib_eq (j : Nat) : j ^^^ 1 = if j % 2 = 1 then j - 1 else j + 1 := by
  have h := Nat.div_add_mod j 2
  split
  · rename_i h1
    have e : j = 2 * (j / 2) + 1 := by omega
    generalize j / 2 = c at e
    subst e
    rw [show 2 * c + 1 - 1 = 2 * c from zz16]
    apply Nat.eq_of_testBit_eq
    intro i
    cases i with
    | zero => simp [Nat.testBit_zero, Nat.testBit_xor]
    | succ i => simp [Nat.testBit_succ, Nat.xor_div_two]; congr 1; omega
  · have e : j = 2 * (j / 2) := by omega
    generalize j / 2 = c at e
    subst e
    apply Nat.eq_of_testBit_eq
    intro i
    cases i with
    | zero => simp [Nat.testBit_zero, Nat.testBit_xor]
    | succ i => simp [Nat.testBit_succ, Nat.xor_div_two]; congr 1; omega
theorem refNode0 (xs : List UInt8) (i : Nat) (w : World) (hxs : xs.length = 16)  :
    Calls Tryz.prog 40 [.agg (v8s xs).toArray, .int .i64 ((0 : Nat) : Int), .int .i64 ((i : Nat) : Int)].toArray w (Pur w (.agg (v8s (nodeF xs 0 i)).toArray)) := by
  refine enter (m := 27) (R := Mem w [] [] []) Tryz.func40 rfl rfl (Nat.le_of_ble_eq_true rfl) (Mem.start w) ?_
  refine wpc_seq <| wpc_region ?_
  refine wpl_t (t_box rfl (v8s xs) rfl) rfl (fun b3 => ?_)
  refine wpl_t (t_alloc Tryz.ti32 (v8s (List.replicate 16 0)) (by rfl)) rfl (fun b6 => ?_)
  refine wpl_nil <| ex_then <| wpc_seq <| wpc_seq <| wpc_region <| wpl_q (q_pure rfl) rfl <| wpl_q (q_pure rfl) rfl <| wpl_nil <| ex_then ?_
  refine wpc_cond rfl (fun hc8 => ?_) (fun hc8 => ?_)
  ·
   try simp only [decide_eq_true_eq, decide_eq_false_iff_not, Bool.and_eq_true, Bool.or_eq_true, beq_iff_eq, bne_iff_ne, ne_eq, Bool.not_eq_true', Bool.not_eq_false', Decidable.not_not] at hc8
   refine wpc_seq <| wpc_region ?_
   refine wpl_q (q_ldN Tryz.underlying32 rfl Tryz.ti32 rfl zz2) rfl ?_
   refine wpl_q (q_pure rfl) rfl ?_
   refine wpl_t (t_pur Tryz.hb39 rfl fun w h => refSeed7 _ _ w zz21) rfl (fun b11 => ?_)
   refine wpl_t (t_pur Tryz.hb71 rfl fun w h => refPublic _ w zz21) rfl (fun b12 => ?_)
   refine wpl_t0 (t_stA Tryz.ti32 rfl rfl zz2 (v8s_one _) zz2) (fun _ => ?_)
   refine wpl_nil <| ex_then <| wpc_ret ?_
   refine ex_then_ret ?_
   refine retv1 (.inl rfl) rfl (rv_agg Tryz.underlying32 rfl Tryz.ti32 rfl (fun w h => h.atB) zz2) ?_
   exact fun w h => ⟨rfl, h.below⟩
  ·
   simp at hc8
theorem refNodeS (xs : List UInt8) (l : Nat) (i : Nat) (N : Nat) (w : World) (hxs : xs.length = 16) (ih : ∀ (i : Nat) (w : World), i + 1 ≤ N → Calls Tryz.prog 40 [.agg (v8s xs).toArray, .int .i64 ((l : Nat) : Int), .int .i64 ((i : Nat) : Int)].toArray w (Pur w (.agg (v8s (nodeF xs l i)).toArray))) (hN : 2 * (i + 1) ≤ N) (hN2 : N ≤ 2 ^ 41) (hl : l ≤ 1000) :
    Calls Tryz.prog 40 [.agg (v8s xs).toArray, .int .i64 ((l + 1 : Nat) : Int), .int .i64 ((i : Nat) : Int)].toArray w (Pur w (.agg (v8s (nodeF xs (l + 1) i)).toArray)) := by
  have hn1 := nodeF_length xs l (2 * i)
  have hn2 := nodeF_length xs l (2 * i + 1)
  refine enter (m := 27) (R := Mem w [] [] []) Tryz.func40 rfl rfl (Nat.le_of_ble_eq_true rfl) (Mem.start w) ?_
  refine wpc_seq <| wpc_region ?_
  refine wpl_t (t_box rfl (v8s xs) rfl) rfl (fun b3 => ?_)
  refine wpl_t (t_alloc Tryz.ti32 (v8s (List.replicate 16 0)) (by rfl)) rfl (fun b6 => ?_)
  refine wpl_nil <| ex_then <| wpc_seq <| wpc_seq <| wpc_region <| wpl_q (q_pure rfl) rfl <| wpl_q (q_pure rfl) rfl <| wpl_nil <| ex_then ?_
  refine wpc_cond rfl (fun hc8 => ?_) (fun hc8 => ?_)
  ·
   simp at hc8; omega
  ·
   try simp only [decide_eq_true_eq, decide_eq_false_iff_not, Bool.and_eq_true, Bool.or_eq_true, beq_iff_eq, bne_iff_ne, ne_eq, Bool.not_eq_true', Bool.not_eq_false', Decidable.not_not] at hc8
   refine wpc_skip <| ex_then <| wpc_seq ?_
   refine wpc_draw 14 zz8 (fun _ h => h.drew) ?_
   refine wpd_q 0 rfl zz8 trivial (q_ldN Tryz.underlying32 rfl Tryz.ti32 rfl zz2) rfl (fun _ h => h) ?_
   refine wpd_p 1 rfl zz8 trivial (q_pure rfl) rfl sk0 ?_
   refine wpd_p 2 rfl zz8 trivial (q_subN (b := 1) rfl rfl zz16 zz1) rfl sk0 ?_
   refine wpd_p 3 rfl zz8 trivial (q_pure rfl) rfl sk0 ?_
   refine wpd_p 4 rfl zz8 trivial (q_mulN (a := 2) rfl rfl zz1) rfl sk0 ?_
   refine wpd_q 6 rfl zz8 trivial (q_ldN Tryz.underlying32 rfl Tryz.ti32 rfl zz2) rfl (fun _ h => h) ?_
   refine wpd_p 7 rfl zz8 trivial (q_pure rfl) rfl sk0 ?_
   refine wpd_p 8 rfl zz8 trivial (q_subN (b := 1) rfl rfl zz16 zz1) rfl sk0 ?_
   refine wpd_p 9 rfl zz8 trivial (q_pure rfl) rfl sk0 ?_
   refine wpd_p 10 rfl zz8 trivial (q_mulN (a := 2) rfl rfl zz1) rfl sk0 ?_
   refine wpd_p 11 rfl zz8 trivial (q_addN (b := 1) rfl rfl zz1) rfl sk0 ?_
   refine wpd_t 5 rfl zz8 trivial (t_pur Tryz.hb40 rfl fun w h => ih (2 * i) w zz16) rfl (fun _ => sk0) (fun b18 => ?_)
   refine wpd_t 12 rfl zz8 trivial (t_pur Tryz.hb40 rfl fun w h => ih (2 * i + 1) w zz16) rfl (fun _ => sk0) (fun b25 => ?_)
   refine wpd_t 13 rfl zz8 trivial (t_pur Tryz.hb72 rfl fun w h => refJoined7 _ _ w zz21 zz21) rfl (fun _ => sk0) (fun b26 => ?_)
   refine wpd_t0 14 rfl zz8 trivial (t_stA Tryz.ti32 rfl rfl zz2 (v8s_one _) zz2) (fun _ => skk rfl) (fun _ => ?_)
   refine wpd_done zz8 ?_
   refine ex_then <| wpc_ret ?_
   refine retv1 (.inl rfl) rfl (rv_agg Tryz.underlying32 rfl Tryz.ti32 rfl (fun w h => h.atB) zz2) ?_
   exact fun w h => ⟨rfl, h.below⟩
theorem refNode7 (xs : List UInt8) : ∀ (l i : Nat) (w : World), xs.length = 16 → (i + 1) * 2 ^ l ≤ 2 ^ 40 → Calls Tryz.prog 40 [.agg (v8s xs).toArray, .int .i64 ((l : Nat) : Int), .int .i64 ((i : Nat) : Int)].toArray w (Pur w (.agg (v8s (nodeF xs l i)).toArray))
  | 0, i, w, hx, _ => refNode0 xs i w hx
  | l + 1, i, w, hx, hb => by
    have h1 : 2 * (i + 1) * 2 ^ l ≤ 2 ^ 40 := by rw [Nat.mul_comm 2, Nat.mul_assoc, ← Nat.pow_succ']; exact hb
    have h2 : 2 * (i + 1) ≤ 2 * (i + 1) * 2 ^ l := Nat.le_mul_of_pos_right _ (Nat.two_pow_pos l)
    exact refNodeS xs l i (2 * (i + 1)) w hx (fun j w hj => refNode7 xs l j w hx (Nat.le_trans (Nat.mul_le_mul_right _ hj) h1)) (Nat.le_refl _) zz16 (by
      have h3 : 2 ^ l ≤ 2 ^ 40 := Nat.le_trans (Nat.le_mul_of_pos_left _ (show 0 < 2 * (i + 1) from zz16)) h1
      have := (Nat.pow_le_pow_iff_right (show 1 < 2 from zz22)).1 h3
      omega)
theorem refSign7 (xs : List UInt8) (ht : Int) (idx : Int) (bv : Value) (bs : List UInt8) (w : World) (hxs : xs.length = 16) (hbv : Seen w.cell? bv bs.length 1 (v8s bs)) (hbl : bs.length ≤ 100000) :
    Calls Tryz.prog 18 [.agg (v8s xs).toArray, .int .i64 ht, .int .i64 idx, bv].toArray w (GivesP w (fun x : Value × Value => SV x.1 (sigC xs ht idx bs).length ∧ SV x.2 (sigP xs ht idx).length) (fun x : Value × Value => .tuple #[.agg #[.int .i64 (sigI ht idx), x.1, x.2], .int .i64 (sigE ht idx)]) (fun x => [.row x.1 (sigC xs ht idx bs).length 32 16 (v8s (sigC xs ht idx bs).flatten), .row x.2 (sigP xs ht idx).length 32 16 (v8s (sigP xs ht idx).flatten)]) (fun _ => [])) := by
  have sbv := hbv.sv
  have lbv := sbv.le
  simp only [maxLen] at lbv
  refine enter (m := 63) (R := Mem w [] [] []) Tryz.func18 rfl rfl (Nat.le_of_ble_eq_true rfl) (Mem.start w) ?_
  refine wpc_seq <| wpc_region ?_
  refine wpl_t (t_box rfl (v8s xs) rfl) rfl (fun b4 => ?_)
  refine wpl_t (t_alloc Tryz.ti28 _ rfl) rfl (fun b8 => ?_)
  refine wpl_q (q_pure rfl) rfl <| wpl_nil <| ex_then <| wpc_seq <| wpc_seq <| wpc_region <| wpl_q (q_pure rfl) rfl <| wpl_q (q_pure rfl) rfl <| wpl_q (q_pure rfl) rfl ?_
  refine wpl_bool2 16 15 rfl rfl (fun hb16 => ?_) (fun hb16 => ?_)
  ·
   try simp only [decide_eq_true_eq, decide_eq_false_iff_not, Bool.and_eq_true, Bool.or_eq_true, beq_iff_eq, bne_iff_ne, ne_eq, Bool.not_eq_true', Bool.not_eq_false', Decidable.not_not] at hb16
   refine wpl_off rfl rfl rfl rfl <| wpl_off rfl rfl rfl rfl <| wpl_q (q_pure rfl) rfl <| wpl_q (q_pure rfl) rfl <| wpl_off rfl rfl rfl rfl <| wpl_off rfl rfl rfl rfl <| wpl_q (q_pure rfl) rfl <| wpl_q (q_pure rfl) rfl <| wpl_off rfl rfl rfl rfl <| wpl_off rfl rfl rfl rfl <| wpl_off rfl rfl rfl rfl <| wpl_off rfl rfl rfl rfl ?_
   refine wpl_q (q_pure rfl) rfl <| wpl_nil <| ex_then ?_
   refine wpc_cond_t rfl ?_
   refine wpc_seq <| wpc_region ?_
   refine wpl_q (q_build (cs := [.int .i64 0, .slice none 0 0, .slice none 0 0]) rfl built_sig0) rfl ?_
   refine wpl_t0 (t_stA Tryz.ti28 rfl rfl zz2 zz3 zz2) (fun _ => ?_)
   refine wpl_q (q_pure rfl) rfl <| wpl_nil <| ex_then <| wpc_ret ?_
   refine ex_then_ret ?_
   refine retv2 (.inl rfl) rfl (rv_agg Tryz.underlying28 rfl Tryz.ti28 rfl (fun w h => h.atB) rfl) (rv_tmp rfl) ?_
   exact fun w h => by
     first
     | (
       have hno : ¬ okS ht idx := fun hk => by
         obtain ⟨h1, h2, h3⟩ := hk
         try rw [Int.toNat_natCast] at h3
         first | omega | (simp only [Bool.not_eq_true', decide_eq_false_iff_not, decide_eq_true_eq] at *; omega) | (simp_all; done)
       have e1 : sigC xs ht idx bs = [] := if_neg hno
       have e2 : sigP xs ht idx = [] := if_neg hno
       have e3 : sigI ht idx = 0 := if_neg hno
       have e4 : sigE ht idx = 2 := if_neg hno
       rw [e1, e2, e3, e4]
       exact ⟨(.slice none 0 0, .slice none 0 0), ⟨SV.nil, SV.nil⟩, rfl, h.below, ((h.nilRow 32 16).nilRow 32 16).made (.keep (.keep .nil)) .nil⟩)
     | (
       have hno : ¬ okS (m : Int) idx := fun hk => by
         obtain ⟨h1, h2, h3⟩ := hk
         try rw [Int.toNat_natCast] at h3
         first | omega | (simp only [Bool.not_eq_true', decide_eq_false_iff_not, decide_eq_true_eq] at *; omega) | (simp_all; done)
       have e1 : sigC xs (m : Int) idx bs = [] := if_neg hno
       have e2 : sigP xs (m : Int) idx = [] := if_neg hno
       have e3 : sigI (m : Int) idx = 0 := if_neg hno
       have e4 : sigE (m : Int) idx = 2 := if_neg hno
       rw [e1, e2, e3, e4]
       exact ⟨(.slice none 0 0, .slice none 0 0), ⟨SV.nil, SV.nil⟩, rfl, h.below, ((h.nilRow 32 16).nilRow 32 16).made (.keep (.keep .nil)) .nil⟩)
  ·
   try simp only [decide_eq_true_eq, decide_eq_false_iff_not, Bool.and_eq_true, Bool.or_eq_true, beq_iff_eq, bne_iff_ne, ne_eq, Bool.not_eq_true', Bool.not_eq_false', Decidable.not_not] at hb16
   refine wpl_on rfl rfl <| wpl_q (q_pure rfl) rfl <| wpl_on rfl rfl <| wpl_q (q_pure rfl) rfl <| wpl_q (q_pure rfl) rfl <| wpl_q (q_pure rfl) rfl ?_
   refine wpl_bool2 20 18 rfl rfl (fun hb20 => ?_) (fun hb20 => ?_)
   ·
    try simp only [decide_eq_true_eq, decide_eq_false_iff_not, Bool.and_eq_true, Bool.or_eq_true, beq_iff_eq, bne_iff_ne, ne_eq, Bool.not_eq_true', Bool.not_eq_false', Decidable.not_not] at hb20
    refine wpl_off rfl rfl rfl rfl <| wpl_off rfl rfl rfl rfl <| wpl_q (q_pure rfl) rfl <| wpl_q (q_pure rfl) rfl <| wpl_off rfl rfl rfl rfl <| wpl_off rfl rfl rfl rfl <| wpl_off rfl rfl rfl rfl <| wpl_off rfl rfl rfl rfl <| wpl_q (q_pure rfl) rfl <| wpl_nil <| ex_then ?_
    refine wpc_cond_t rfl ?_
    refine wpc_seq <| wpc_region ?_
    refine wpl_q (q_build (cs := [.int .i64 0, .slice none 0 0, .slice none 0 0]) rfl built_sig0) rfl ?_
    refine wpl_t0 (t_stA Tryz.ti28 rfl rfl zz2 zz3 zz2) (fun _ => ?_)
    refine wpl_q (q_pure rfl) rfl <| wpl_nil <| ex_then <| wpc_ret ?_
    refine ex_then_ret ?_
    refine retv2 (.inl rfl) rfl (rv_agg Tryz.underlying28 rfl Tryz.ti28 rfl (fun w h => h.atB) rfl) (rv_tmp rfl) ?_
    exact fun w h => by
      first
      | (
        have hno : ¬ okS ht idx := fun hk => by
          obtain ⟨h1, h2, h3⟩ := hk
          try rw [Int.toNat_natCast] at h3
          first | omega | (simp only [Bool.not_eq_true', decide_eq_false_iff_not, decide_eq_true_eq] at *; omega) | (simp_all; done)
        have e1 : sigC xs ht idx bs = [] := if_neg hno
        have e2 : sigP xs ht idx = [] := if_neg hno
        have e3 : sigI ht idx = 0 := if_neg hno
        have e4 : sigE ht idx = 2 := if_neg hno
        rw [e1, e2, e3, e4]
        exact ⟨(.slice none 0 0, .slice none 0 0), ⟨SV.nil, SV.nil⟩, rfl, h.below, ((h.nilRow 32 16).nilRow 32 16).made (.keep (.keep .nil)) .nil⟩)
      | (
        have hno : ¬ okS (m : Int) idx := fun hk => by
          obtain ⟨h1, h2, h3⟩ := hk
          try rw [Int.toNat_natCast] at h3
          first | omega | (simp only [Bool.not_eq_true', decide_eq_false_iff_not, decide_eq_true_eq] at *; omega) | (simp_all; done)
        have e1 : sigC xs (m : Int) idx bs = [] := if_neg hno
        have e2 : sigP xs (m : Int) idx = [] := if_neg hno
        have e3 : sigI (m : Int) idx = 0 := if_neg hno
        have e4 : sigE (m : Int) idx = 2 := if_neg hno
        rw [e1, e2, e3, e4]
        exact ⟨(.slice none 0 0, .slice none 0 0), ⟨SV.nil, SV.nil⟩, rfl, h.below, ((h.nilRow 32 16).nilRow 32 16).made (.keep (.keep .nil)) .nil⟩)
   ·
    try simp only [decide_eq_false_iff_not] at hb20
    obtain ⟨m, rfl⟩ : ∃ m : Nat, ht = (m : Int) := ⟨ht.toNat, zz16⟩
    have hpw := pow_le16Mm (m := m) zz16
    refine wpl_on rfl rfl <| wpl_q (q_pure rfl) rfl <| wpl_on rfl rfl <| wpl_q (q_pure rfl) rfl <| wpl_q (q_pure rfl) rfl <| wpl_q (q_pure rfl) rfl ?_
    refine wpl_bool2 24 22 rfl rfl (fun hb24 => ?_) (fun hb24 => ?_)
    ·
     try simp only [decide_eq_true_eq, decide_eq_false_iff_not, Bool.and_eq_true, Bool.or_eq_true, beq_iff_eq, bne_iff_ne, ne_eq, Bool.not_eq_true', Bool.not_eq_false', Decidable.not_not] at hb24
     refine wpl_off rfl rfl rfl rfl <| wpl_off rfl rfl rfl rfl <| wpl_off rfl rfl rfl rfl <| wpl_off rfl rfl rfl rfl <| wpl_q (q_pure rfl) rfl <| wpl_nil <| ex_then ?_
     refine wpc_cond_t rfl ?_
     refine wpc_seq <| wpc_region ?_
     refine wpl_q (q_build (cs := [.int .i64 0, .slice none 0 0, .slice none 0 0]) rfl built_sig0) rfl ?_
     refine wpl_t0 (t_stA Tryz.ti28 rfl rfl zz2 zz3 zz2) (fun _ => ?_)
     refine wpl_q (q_pure rfl) rfl <| wpl_nil <| ex_then <| wpc_ret ?_
     refine ex_then_ret ?_
     refine retv2 (.inl rfl) rfl (rv_agg Tryz.underlying28 rfl Tryz.ti28 rfl (fun w h => h.atB) rfl) (rv_tmp rfl) ?_
     exact fun w h => by
       first
       | (
         have hno : ¬ okS ht idx := fun hk => by
           obtain ⟨h1, h2, h3⟩ := hk
           try rw [Int.toNat_natCast] at h3
           first | omega | (simp only [Bool.not_eq_true', decide_eq_false_iff_not, decide_eq_true_eq] at *; omega) | (simp_all; done)
         have e1 : sigC xs ht idx bs = [] := if_neg hno
         have e2 : sigP xs ht idx = [] := if_neg hno
         have e3 : sigI ht idx = 0 := if_neg hno
         have e4 : sigE ht idx = 2 := if_neg hno
         rw [e1, e2, e3, e4]
         exact ⟨(.slice none 0 0, .slice none 0 0), ⟨SV.nil, SV.nil⟩, rfl, h.below, ((h.nilRow 32 16).nilRow 32 16).made (.keep (.keep .nil)) .nil⟩)
       | (
         have hno : ¬ okS (m : Int) idx := fun hk => by
           obtain ⟨h1, h2, h3⟩ := hk
           try rw [Int.toNat_natCast] at h3
           first | omega | (simp only [Bool.not_eq_true', decide_eq_false_iff_not, decide_eq_true_eq] at *; omega) | (simp_all; done)
         have e1 : sigC xs (m : Int) idx bs = [] := if_neg hno
         have e2 : sigP xs (m : Int) idx = [] := if_neg hno
         have e3 : sigI (m : Int) idx = 0 := if_neg hno
         have e4 : sigE (m : Int) idx = 2 := if_neg hno
         rw [e1, e2, e3, e4]
         exact ⟨(.slice none 0 0, .slice none 0 0), ⟨SV.nil, SV.nil⟩, rfl, h.below, ((h.nilRow 32 16).nilRow 32 16).made (.keep (.keep .nil)) .nil⟩)
    ·
     try simp only [decide_eq_true_eq, decide_eq_false_iff_not, Bool.and_eq_true, Bool.or_eq_true, beq_iff_eq, bne_iff_ne, ne_eq, Bool.not_eq_true', Bool.not_eq_false', Decidable.not_not] at hb24
     refine wpl_on rfl rfl <| wpl_q (q_pure rfl) rfl <| wpl_on rfl rfl <| wpl_q (q_pure rfl) rfl <| wpl_on rfl rfl ?_
     refine wpl_t (t_pur Tryz.hb37 rfl fun w h => refPower7Mm _ w zz16) rfl (fun b27 => ?_)
     refine wpl_on rfl rfl <| wpl_q (q_pure rfl) rfl <| wpl_q (q_pure rfl) rfl <| wpl_nil <| ex_then ?_
     refine wpc_cond rfl (fun hc29 => ?_) (fun hc29 => ?_)
     ·
      try simp only [decide_eq_true_eq, decide_eq_false_iff_not, Bool.and_eq_true, Bool.or_eq_true, beq_iff_eq, bne_iff_ne, ne_eq, Bool.not_eq_true', Bool.not_eq_false', Decidable.not_not] at hc29
      refine wpc_seq <| wpc_region ?_
      refine wpl_q (q_build (cs := [.int .i64 0, .slice none 0 0, .slice none 0 0]) rfl built_sig0) rfl ?_
      refine wpl_t0 (t_stA Tryz.ti28 rfl rfl zz2 zz3 zz2) (fun _ => ?_)
      refine wpl_q (q_pure rfl) rfl <| wpl_nil <| ex_then <| wpc_ret ?_
      refine ex_then_ret ?_
      refine retv2 (.inl rfl) rfl (rv_agg Tryz.underlying28 rfl Tryz.ti28 rfl (fun w h => h.atB) rfl) (rv_tmp rfl) ?_
      exact fun w h => by
        first
        | (
          have hno : ¬ okS ht idx := fun hk => by
            obtain ⟨h1, h2, h3⟩ := hk
            try rw [Int.toNat_natCast] at h3
            first | omega | (simp only [Bool.not_eq_true', decide_eq_false_iff_not, decide_eq_true_eq] at *; omega) | (simp_all; done)
          have e1 : sigC xs ht idx bs = [] := if_neg hno
          have e2 : sigP xs ht idx = [] := if_neg hno
          have e3 : sigI ht idx = 0 := if_neg hno
          have e4 : sigE ht idx = 2 := if_neg hno
          rw [e1, e2, e3, e4]
          exact ⟨(.slice none 0 0, .slice none 0 0), ⟨SV.nil, SV.nil⟩, rfl, h.below, ((h.nilRow 32 16).nilRow 32 16).made (.keep (.keep .nil)) .nil⟩)
        | (
          have hno : ¬ okS (m : Int) idx := fun hk => by
            obtain ⟨h1, h2, h3⟩ := hk
            try rw [Int.toNat_natCast] at h3
            first | omega | (simp only [Bool.not_eq_true', decide_eq_false_iff_not, decide_eq_true_eq] at *; omega) | (simp_all; done)
          have e1 : sigC xs (m : Int) idx bs = [] := if_neg hno
          have e2 : sigP xs (m : Int) idx = [] := if_neg hno
          have e3 : sigI (m : Int) idx = 0 := if_neg hno
          have e4 : sigE (m : Int) idx = 2 := if_neg hno
          rw [e1, e2, e3, e4]
          exact ⟨(.slice none 0 0, .slice none 0 0), ⟨SV.nil, SV.nil⟩, rfl, h.below, ((h.nilRow 32 16).nilRow 32 16).made (.keep (.keep .nil)) .nil⟩)
     ·
      obtain ⟨q, rfl⟩ : ∃ q : Nat, idx = (q : Int) := ⟨idx.toNat, zz16⟩
      have hq : q < 2 ^ m := by
        simp only [decide_eq_false_iff_not] at hc29
        omega
      have hok : okS (m : Int) (q : Int) := okS_nat zz16 hq
      have e1 : sigC xs m q bs = signF (leafF xs q) bs := if_pos hok
      have e2 : sigP xs m q = pathF xs q m := if_pos hok
      have e3 : sigI m q = q := if_pos hok
      have e4 : sigE m q = 0 := if_pos hok
      refine wpc_skip <| ex_then <| wpc_seq <| wpc_region <| wpl_q (q_pure rfl) rfl ?_
      refine wpl_q (q_ldN Tryz.underlying32 rfl Tryz.ti32 rfl zz2) rfl ?_
      refine wpl_q (q_pure rfl) rfl ?_
      refine wpl_t (t_pur Tryz.hb39 rfl fun w h => refSeed7 _ _ w zz21) rfl (fun b34 => ?_)
      refine wpl_q (q_pure rfl) rfl ?_
      refine wpl_tp (t_callP1 Tryz.hb38 rfl fun w h => refSign _ _ _ w zz21 zz9 zz1) rfl (fun b36 p36 => ?_)
      refine wpl_q (q_build (cs := [.int .i64 ((q : Nat) : Int), b36, .slice none 0 0]) rfl (built_sig2 p36 _)) rfl ?_
      refine wpl_t (t_alloc Tryz.ti28 _ rfl) rfl (fun b10 => ?_)
      refine wpl_t0 (t_stA Tryz.ti28 rfl rfl zz2 zz3 zz2) (fun _ => ?_)
      refine wpl_nil <| ex_then <| wpc_seq <| wpc_region <| wpl_q (q_pure rfl) rfl <| wpl_q (q_pure rfl) rfl <| wpl_nil <| ex_then <| wpc_seq <| wpc_seq <| wpc_region <| wpl_q (q_pure rfl) rfl ?_
      refine wpl_nil <| ex_then <| wpc_block ?_
      refine wpc_loopc (ι := { x : Nat × Nat × Value // (x.1 ≤ m) ∧ (x.2.1 = q / 2 ^ x.1) ∧ (SV x.2.2 x.1) }) [(1, _), (4, _), (8, _), (10, _)] (fun x Lc => (12, .int .i64 ((x.1.1 : Nat) : Int)) :: (11, .int .i64 ((x.1.2.1 : Nat) : Int)) :: Lc) (fun x => Mem w [] [.row x.1.2.2 x.1.1 32 16 (v8s (pathF xs q x.1.1).flatten), .blk b10 28 [.int .i64 ((q : Nat) : Int), b36, x.1.2.2], .row b36 35 32 16 (v8s (signF (leafF xs q) bs).flatten), .blk b8 28 [.int .i64 0, .slice none 0 0, .slice none 0 0], .blk b4 32 (v8s xs)] []) (fun x => m - x.1.1) ⟨(0, q, .slice none 0 0), ⟨Nat.zero_le _, by rw [Nat.pow_zero, Nat.div_one], SV.nil⟩⟩ zz10 ?_ ?_
      ·
       exact fun w h => by
         dsimp only
         exact (h.nilRow 32 16).sub (.keep (.keep (.keep (.keep (.keep .nil))))) (Sub.refl _)
      ·
       rintro ⟨⟨k, j, vp⟩, ⟨hi0, hi1, hi2⟩⟩; try dsimp only
       have hi0 : k ≤ m := hi0; have hi1 : j = q / 2 ^ k := hi1; have hi2 : SV vp k := hi2
       refine wpc_seq <| wpc_seq <| wpc_region <| wpl_q (q_pure rfl) rfl <| wpl_q (q_pure rfl) rfl <| wpl_q (q_pure rfl) rfl <| wpl_nil <| ex_then ?_
       refine wpc_cond rfl (fun hc41 => ?_) (fun hc41 => ?_)
       ·
        simp only [decide_eq_true_eq] at hc41
        have hkm : k < m := by omega
        have hj16 : j ≤ q := hi1 ▸ Nat.div_le_self _ _
        refine wpc_skip <| ex_then <| wpc_seq <| wpc_block <| wpc_seq <| wpc_region <| wpl_q (q_pure rfl) rfl ?_
        refine wpl_q (q_addN (b := 1) rfl rfl zz1) rfl ?_
        refine wpl_q (q_pure rfl) rfl <| wpl_nil <| ex_then <| wpc_seq <| wpc_seq <| wpc_region <| wpl_q (q_pure rfl) rfl ?_
        refine wpl_q (q_remN (b := 2) rfl rfl zz26) rfl ?_
        refine wpl_q (q_pure rfl) rfl <| wpl_nil <| ex_then ?_
        refine wpc_cond rfl (fun hc48 => ?_) (fun hc48 => ?_)
        ·
         try simp only [decide_eq_true_eq, beq_iff_eq] at hc48
         have hx : (q / 2 ^ k) ^^^ 1 = j - 1 := by rw [← hi1, sib_eq, if_pos zz16]
         refine wpc_region <| wpl_q (q_pure rfl) rfl ?_
         refine wpl_q (q_subN (b := 1) rfl rfl zz16 zz1) rfl ?_
         refine wpl_q (q_pure rfl) rfl <| wpl_nil <| ex_then <| wpc_seq ?_
         refine wpc_draw 7 zz8 (fun _ h => h.drew) ?_
         refine wpd_p 0 rfl zz8 trivial (q_field Tryz.underlying28 rfl Tryz.ti26 rfl rfl _ rfl) rfl sk0 ?_
         refine wpd_q 1 rfl zz8 trivial (q_ld Tryz.underlying26 rfl rfl rfl) rfl (fun _ h => h) ?_
         refine wpd_qB 2 [5, 6, 7] rfl zz8 trivial (q_ldN Tryz.underlying32 rfl Tryz.ti32 rfl zz2) rfl (fun _ h => h) ?_
         refine wpd_p 3 rfl zz8 trivial (q_pure rfl) rfl sk0 ?_
         refine wpd_p 4 rfl zz8 trivial (q_pure rfl) rfl sk0 ?_
         refine wpd_t 5 rfl zz8 trivial (t_pur Tryz.hb40 rfl fun w h => refNode7 _ _ _ w zz21 (node_bound zz16 zz16)) rfl (fun _ => sk0) (fun b56 => ?_)
         refine wpd_tp 6 rfl zz8 trivial (t_bsS [_] Tryz.underlying26 Tryz.ti32 rfl zz22 rfl zz22 zz22 rfl (all_one zz21)) rfl (fun _ => (fun w h => .inr (h.sub SubC.h SubC.h))) (fun b57 p57 => ?_)
         refine wpd_tp 7 rfl zz8 trivial (t_apW Tryz.underlying26 Tryz.ti32 rfl zz22 rfl rfl (fun w h => zz14) zz3 zz1 zz1 (v8s (pathF xs q (k + 1)).flatten) (by rw [pathF_succ, List.flatten_append, v8s_append, hx])) rfl (fun _ => skk rfl) (fun b58 p58 => ?_)
         refine wpd_p 8 rfl zz8 trivial (q_field Tryz.underlying28 rfl Tryz.ti26 rfl rfl _ rfl) rfl (skk rfl) ?_
         refine wpd_t0 9 rfl zz8 trivial (t_st1 Tryz.ti26 rfl rfl (SV.one zz5) zz4 _ rfl) (fun _ => skk rfl) (fun _ => ?_)
         refine wpd_done zz8 ?_
         refine ex_then <| wpc_region <| wpl_q (q_pure rfl) rfl ?_
         refine wpl_q (q_quoN (b := 2) rfl rfl zz26 zz1) rfl ?_
         refine wpl_q (q_pure rfl) rfl <| wpl_nil <| ex_block <| ex_then <| wpc_region <| wpl_q (q_pure rfl) rfl ?_
         refine wpl_q (q_addN (b := 1) rfl rfl zz1) rfl ?_
         refine wpl_q (q_pure rfl) rfl <| wpl_nil ?_
         refine ex_again ⟨(k + 1, j / 2, b58), ⟨by dsimp only; omega, by dsimp only; rw [hi1, Nat.pow_succ, Nat.div_div_eq_div_mul], p58⟩⟩ ?_ ?_ ?_
         ·
          exact zz10
         ·
          exact fun w h => h.sub (.drop (Sub.refl _)) (Sub.refl _)
         ·
          (show m - (k + 1) < m - k); omega
        ·
         try simp only [decide_eq_false_iff_not, beq_eq_false_iff_ne, ne_eq] at hc48
         have hx : (q / 2 ^ k) ^^^ 1 = j + 1 := by rw [← hi1, sib_eq, if_neg zz16]
         refine wpc_skip <| ex_then <| wpc_seq ?_
         refine wpc_draw 7 zz8 (fun _ h => h.drew) ?_
         refine wpd_p 0 rfl zz8 trivial (q_field Tryz.underlying28 rfl Tryz.ti26 rfl rfl _ rfl) rfl sk0 ?_
         refine wpd_q 1 rfl zz8 trivial (q_ld Tryz.underlying26 rfl rfl rfl) rfl (fun _ h => h) ?_
         refine wpd_qB 2 [5, 6, 7] rfl zz8 trivial (q_ldN Tryz.underlying32 rfl Tryz.ti32 rfl zz2) rfl (fun _ h => h) ?_
         refine wpd_p 3 rfl zz8 trivial (q_pure rfl) rfl sk0 ?_
         refine wpd_p 4 rfl zz8 trivial (q_pure rfl) rfl sk0 ?_
         refine wpd_t 5 rfl zz8 trivial (t_pur Tryz.hb40 rfl fun w h => refNode7 _ _ _ w zz21 (node_bound zz16 zz16)) rfl (fun _ => sk0) (fun b56 => ?_)
         refine wpd_tp 6 rfl zz8 trivial (t_bsS [_] Tryz.underlying26 Tryz.ti32 rfl zz22 rfl zz22 zz22 rfl (all_one zz21)) rfl (fun _ => (fun w h => .inr (h.sub SubC.h SubC.h))) (fun b57 p57 => ?_)
         refine wpd_tp 7 rfl zz8 trivial (t_apW Tryz.underlying26 Tryz.ti32 rfl zz22 rfl rfl (fun w h => zz14) zz3 zz1 zz1 (v8s (pathF xs q (k + 1)).flatten) (by rw [pathF_succ, List.flatten_append, v8s_append, hx])) rfl (fun _ => skk rfl) (fun b58 p58 => ?_)
         refine wpd_p 8 rfl zz8 trivial (q_field Tryz.underlying28 rfl Tryz.ti26 rfl rfl _ rfl) rfl (skk rfl) ?_
         refine wpd_t0 9 rfl zz8 trivial (t_st1 Tryz.ti26 rfl rfl (SV.one zz5) zz4 _ rfl) (fun _ => skk rfl) (fun _ => ?_)
         refine wpd_done zz8 ?_
         refine ex_then <| wpc_region <| wpl_q (q_pure rfl) rfl ?_
         refine wpl_q (q_quoN (b := 2) rfl rfl zz26 zz1) rfl ?_
         refine wpl_q (q_pure rfl) rfl <| wpl_nil <| ex_block <| ex_then <| wpc_region <| wpl_q (q_pure rfl) rfl ?_
         refine wpl_q (q_addN (b := 1) rfl rfl zz1) rfl ?_
         refine wpl_q (q_pure rfl) rfl <| wpl_nil ?_
         refine ex_again ⟨(k + 1, j / 2, b58), ⟨by dsimp only; omega, by dsimp only; rw [hi1, Nat.pow_succ, Nat.div_div_eq_div_mul], p58⟩⟩ ?_ ?_ ?_
         ·
          exact zz10
         ·
          exact fun w h => h.sub (.drop (Sub.refl _)) (Sub.refl _)
         ·
          (show m - (k + 1) < m - k); omega
       ·
        simp only [decide_eq_false_iff_not] at hc41
        obtain rfl : k = m := by omega
        refine wpc_exit ?_
        refine ex_then_exit ?_
        refine ex_then_exit ?_
        refine ex_block_hit ?_
        refine ex_then <| wpc_seq <| wpc_region ?_
        refine wpl_q (q_ldN Tryz.underlying28 rfl Tryz.ti28 rfl zz2) rfl ?_
        refine wpl_t0 (t_stA Tryz.ti28 rfl rfl zz2 zz3 zz2) (fun _ => ?_)
        refine wpl_q (q_pure rfl) rfl <| wpl_nil <| ex_then <| wpc_ret ?_
        refine retv2 (.inl rfl) rfl (rv_agg Tryz.underlying28 rfl Tryz.ti28 rfl (fun w h => h.atB) rfl) (rv_tmp rfl) ?_
        exact fun w h => by
          rw [e1, e2, e3, e4, signF_length, pathF_length]
          exact ⟨(b36, vp), ⟨p36, hi2⟩, rfl, h.below, by first | exact h.made (.keep (.keep .nil)) .nil | exact (h.sub (M' := [_, _]) SubC.h .nil).swap.made (.keep (.keep .nil)) .nil⟩
end Go.Proofs.YtgnablliekgbgaaGreatDoor
namespace Go.Proofs.YtgnablliekgbgaaGreatDoor
open Go Go.PL Go.RowKit
theorem eqv_chk {a b : Rv} (h : a.eqv b) : chkR a = chkR b := by
  obtain ⟨nm, no, fr, tt, sv, ss, ix, cv, chs, pv, ps⟩ := a
  obtain ⟨nm2, no2, fr2, tt2, sv2, ss2, ix2, cv2, chs2, pv2, ps2⟩ := b
  obtain ⟨e1, e2, ⟨e3, e4⟩, e5, e6, e7, e8⟩ := h
  dsimp only at e1 e2 e3 e4 e5 e6 e7 e8
  subst e1 e2 e3 e4 e5 e6 e7 e8
  rfl
theorem eqv_refl (a : Rv) : a.eqv a := ⟨rfl, rfl, ⟨rfl, rfl⟩, rfl, rfl, rfl, rfl⟩
theorem eqv_bdy {a b : Rv} (h : a.eqv b) : bdyB a = bdyB b := by
  obtain ⟨nm, no, fr, tt, sv, ss, ix, cv, chs, pv, ps⟩ := a
  obtain ⟨nm2, no2, fr2, tt2, sv2, ss2, ix2, cv2, chs2, pv2, ps2⟩ := b
  obtain ⟨e1, e2, ⟨e3, e4⟩, e5, e6, e7, e8⟩ := h
  dsimp only at e1 e2 e3 e4 e5 e6 e7 e8
  subst e1 e2 e3 e4 e5 e6 e7 e8
  rfl
theorem Rv.c_len (l : Rv) : l.c.length = 8 := rfl
theorem built_rz : Tryz.prog.built 30 [] = some Rv.z.c.toArray := by kernel_rfl
def rvE (y : Rv) : List Ent := [.row y.sv y.ss.length 22 1 (v64s y.ss), .row y.cv y.chs.length 32 16 (v8s y.chs.flatten), .row y.pv y.ps.length 32 16 (v8s y.ps.flatten)]
theorem rvE_z {w0 w : World} {M : List Ent} {S : List Fact} (h : Mem w0 [] M S w) : New w0.heap.size (rvE Rv.z) [] w := (show New w0.heap.size [Ent.row nl 0 22 1 [], Ent.row nl 0 32 16 [], Ent.row nl 0 32 16 []] [] w from (((h.nilRow 32 16).nilRow 32 16).nilRow 22 1).made SubC.h .nil)
theorem Rv.z_svs : Rv.z.svs := ⟨SV.nil, SV.nil, SV.nil⟩
instance oneC_rvz : OneC Rv.z.c := Rv.z_svs.one
theorem lim_no {l : Rv} (h : bigR l = false) : RLim l := by
  obtain ⟨a1, a2, a3, a4⟩ := big_no h
  exact ⟨a1, a2, a3, a4⟩
theorem one_v8i (xs : List UInt8) (t : Int) : ∀ u ∈ v8s xs ++ [Value.int .i64 t], u.oneCell' = true := fun u hu => by
  rcases List.mem_append.1 hu with h | h
  · exact v8s_one _ u h
  · rw [List.mem_singleton] at h; subst h; rfl
theorem bdy_len {l : Rv} (h : RLim l) : (bdyB l).length ≤ 100000 := by
  by_cases k : chkR l = 0
  · rw [bdy_ok k, enc_len _ (sm_body h.ss h.nm)]
    have h1 := body_byt h.nm
    have h2 := body_cnt l
    have h3 := h.ss
    have h4 := siz_le (bodyT l) (show (bodyT l).byt + 5 * (bodyT l).cnt ≤ 1000000 from zz16)
    omega
  · rw [bdy_no k]; exact Nat.zero_le _
theorem eqv_symm {a b : Rv} (h : a.eqv b) : b.eqv a := ⟨h.1.symm, h.2.1.symm, ⟨h.2.2.1.1.symm, h.2.2.1.2.symm⟩, h.2.2.2.1.symm, h.2.2.2.2.1.symm, h.2.2.2.2.2.1.symm, h.2.2.2.2.2.2.symm⟩
theorem eqv_trans {a b c : Rv} (h : a.eqv b) (k : b.eqv c) : a.eqv c := ⟨h.1.trans k.1, h.2.1.trans k.2.1, ⟨h.2.2.1.1.trans k.2.2.1.1, h.2.2.1.2.trans k.2.2.1.2⟩, h.2.2.2.1.trans k.2.2.2.1, h.2.2.2.2.1.trans k.2.2.2.2.1, h.2.2.2.2.2.1.trans k.2.2.2.2.2.1, h.2.2.2.2.2.2.trans k.2.2.2.2.2.2⟩
def verR (l : Rv) (rs : List UInt8) (ht : Int) : Prop := checkFMm ht l.ix l.chs.length l.ps.length = 0 ∧ rootF ht l.ix (bdyB l) l.chs l.ps = rs
instance {l : Rv} {rs : List UInt8} {ht : Int} : Decidable (verR l rs ht) := by unfold verR; exact inferInstance
def verE (l : Rv) (rs : List UInt8) (ht : Int) : Int := if chkR l ≠ 0 then chkR l else if verR l rs ht then 0 else 22
theorem ver_e {l : Rv} {rs : List UInt8} {ht : Int} (h : ¬ chkR l = 0) : verE l rs ht = chkR l := if_pos h
theorem ver_y {l : Rv} {rs : List UInt8} {ht : Int} (h : chkR l = 0) (k : verR l rs ht) : verE l rs ht = 0 := by unfold verE; rw [if_neg (fun e => e h), if_pos k]
theorem ver_n {l : Rv} {rs : List UInt8} {ht : Int} (h : chkR l = 0) (k : ¬ verR l rs ht) : verE l rs ht = 22 := by unfold verE; rw [if_neg (fun e => e h), if_neg k]
def usR (l : Rv) (sv : Value) : Rv := ⟨l.nm, l.no, l.fr, l.tt, sv, l.ss, 0, nl, [], nl, []⟩
def sgnR (l : Rv) (s : List UInt8) (ht idx : Int) (sv cv pv : Value) : Rv := ⟨l.nm, l.no, l.fr, l.tt, sv, l.ss, sigI ht idx, cv, sigC s ht idx (bdyB (usR l nl)), pv, sigP s ht idx⟩
theorem us_eqv (l : Rv) (a b : Value) : (usR l a).eqv (usR l b) := ⟨rfl, rfl, ⟨rfl, rfl⟩, rfl, rfl, rfl, rfl⟩
theorem us_chk (l : Rv) (a : Value) : chkR (usR l a) = chkR (usR l nl) := eqv_chk (us_eqv l a nl)
theorem us_bdy (l : Rv) (a : Value) : bdyB (usR l a) = bdyB (usR l nl) := eqv_bdy (us_eqv l a nl)
def snE (l : Rv) (ht idx : Int) : Int := if chkR (usR l nl) ≠ 0 then chkR (usR l nl) else sigE ht idx
def snR (l : Rv) (s : List UInt8) (ht idx : Int) : Rv := if snE l ht idx = 0 then sgnR l s ht idx nl nl nl else Rv.z
theorem sn_e {l : Rv} {ht idx : Int} (h : ¬ chkR (usR l nl) = 0) : snE l ht idx = chkR (usR l nl) ∧ snE l ht idx ≠ 0 := by
  have e : snE l ht idx = chkR (usR l nl) := if_pos h
  exact ⟨e, by rw [e]; exact h⟩
theorem sn_s {l : Rv} {ht idx : Int} (h : chkR (usR l nl) = 0) : snE l ht idx = sigE ht idx := if_neg (fun e => e h)
theorem sn_z {l : Rv} {s : List UInt8} {ht idx : Int} (h : snE l ht idx ≠ 0) : snR l s ht idx = Rv.z := if_neg h
theorem sn_y {l : Rv} {s : List UInt8} {ht idx : Int} (h : snE l ht idx = 0) : snR l s ht idx = sgnR l s ht idx nl nl nl := if_pos h
theorem sgn_eqv (l : Rv) (s : List UInt8) (ht idx : Int) (a b c : Value) : (sgnR l s ht idx a b c).eqv (sgnR l s ht idx nl nl nl) := ⟨rfl, rfl, ⟨rfl, rfl⟩, rfl, rfl, rfl, rfl⟩
theorem us_lim {l : Rv} (h : RLim l) (a : Value) : RLim (usR l a) := ⟨h.nm, h.ss, Nat.zero_le _, Nat.zero_le _⟩
theorem us_seen {l : Rv} {r : Rd} {a : Value} (h : Seen r a l.ss.length 1 (v64s l.ss)) : (usR l a).seen r := ⟨h, seen_nil _ 0 _, fun x hx => (by cases hx), seen_nil _ 0 _, fun x hx => (by cases hx)⟩
theorem built_kz : Tryz.prog.built 28 [] = some #[.int .i64 0, .slice none 0 0, .slice none 0 0] := by kernel_rfl
def SgP (l : Rv) (s : List UInt8) (ht idx : Int) (y : Rv) : Prop := y.eqv (snR l s ht idx) ∧ (∀ x ∈ y.chs, x.length = 16) ∧ (∀ x ∈ y.ps, x.length = 16)
theorem sg_z {l : Rv} {s : List UInt8} {ht idx : Int} (h : snE l ht idx ≠ 0) : SgP l s ht idx Rv.z := by
  unfold SgP
  rw [sn_z h]
  exact ⟨eqv_refl _, fun x hx => (by cases hx), fun x hx => (by cases hx)⟩
end Go.Proofs.YtgnablliekgbgaaGreatDoor
namespace Go.Proofs.YtgnablliekgbgaaGreatDoor
open Go Go.PL Go.RowKit
theorem rvVerify (l : Rv) (rs : List UInt8) (ht : Int) (w : World) (hl : l.seen w.cell?) (hnl : l.nm.length ≤ maxLen) (hrs : rs.length = 16) (hk : RLim l) (hG : Glb w) :
    Calls Tryz.prog 9 [.agg l.c.toArray, .agg (v8s rs ++ [Value.int .i64 ht]).toArray].toArray w (Pur w (.int .i64 (verE l rs ht))) := by
  haveI := hl.svs.one
  have lss := hl.s.sv.le
  have lcs := hl.c.sv.le
  have lps := hl.p.sv.le
  have sss := hl.s.sv
  have scs := hl.c.sv
  have sps := hl.p.sv
  simp only [maxLen] at lss lcs lps
  haveI : LenC (v8s rs ++ [Value.int .i64 ht]) 17 := ⟨by rw [List.length_append, v8s_length, hrs]; rfl⟩
  haveI : OneC (v8s rs ++ [Value.int .i64 ht]) := ⟨one_v8i _ _⟩
  refine enter (m := 21) (R := Mem w [] [] []) Tryz.func9 rfl rfl (Nat.le_of_ble_eq_true rfl) (Mem.start w) ?_
  refine wpc_seq <| wpc_region ?_
  refine wpl_t (t_box rfl l.c rfl) rfl (fun b2 => ?_)
  refine wpl_t (t_box rfl (v8s rs ++ [Value.int .i64 ht]) rfl) rfl (fun b3 => ?_)
  refine wpl_q (q_pure rfl) rfl <| wpl_nil <| ex_then <| wpc_seq <| wpc_region <| wpl_q (q_ldN Tryz.underlying30 rfl Tryz.ti30 rfl LenC.h) rfl ?_
  refine wpl_tp (t_callP1 Tryz.hb15 rfl fun w h => rvBodyB l w (hl.old h rfl) hnl hk.ss hk.nm) rfl (fun b9 p9 => ?_)
  refine wpl_q (q_pure rfl) rfl <| wpl_q (q_pure rfl) rfl <| wpl_q (q_pure rfl) rfl <| wpl_q (q_pure rfl) rfl <| wpl_q (q_pure rfl) rfl <| wpl_nil <| ex_then <| wpc_seq <| wpc_seq <| wpc_region <| wpl_q (q_pure rfl) rfl <| wpl_q (q_pure rfl) rfl ?_
  refine wpl_nil <| ex_then ?_
  refine wpc_cond rfl (fun hc13 => ?_) (fun hc13 => ?_)
  ·
   have hN : ¬ chkR l = 0 := by simpa using hc13
   refine wpc_seq <| wpc_region <| wpl_q (q_pure rfl) rfl <| wpl_q (q_pure rfl) rfl <| wpl_nil <| ex_then <| wpc_ret ?_
   refine ex_then_ret ?_
   refine ret1 (.inl rfl) rfl rfl ?_
   exact fun w1 h => ⟨by rw [ver_e hN]; rfl, h.below⟩
  ·
   have hZ : chkR l = 0 := by simpa using hc13
   refine wpc_skip <| ex_then <| wpc_seq <| wpc_seq <| wpc_region <| wpl_q (q_ldN Tryz.underlying34 rfl Tryz.ti34 rfl LenC.h) rfl <| wpl_q (q_pure rfl) rfl <| wpl_q (q_field Tryz.underlying30 rfl Tryz.ti28 rfl rfl _ rfl) rfl <| wpl_q (q_ldP Tryz.underlying28 rfl Tryz.ti28 rfl l.sig rfl rfl) rfl ?_
   refine wpl_t (t_pur (v := .bool (decide (verR l rs ht))) Tryz.hb23 rfl fun w h => verify7 rs ht b9 (bdyB l) l.cv l.pv l.chs l.ps l.ix w hrs (h.seen_row zz7) (h.seen_old hl.c) hl.lc (h.seen_old hl.p) hl.lp (glob h hG)) rfl (fun b19 => ?_)
   refine wpl_q (q_pure rfl) rfl <| wpl_nil <| ex_then ?_
   refine wpc_cond rfl (fun hc20 => ?_) (fun hc20 => ?_)
   ·
    have hV : ¬ verR l rs ht := by simpa using hc20
    refine wpc_seq <| wpc_region <| wpl_q (q_pure rfl) rfl <| wpl_nil <| ex_then <| wpc_ret ?_
    refine ex_then_ret ?_
    refine ret1 (.inl rfl) rfl rfl ?_
    exact fun w1 h => ⟨by rw [ver_n hZ hV], h.below⟩
   ·
    have hV : verR l rs ht := by simpa using hc20
    refine wpc_skip <| ex_then <| wpc_seq <| wpc_region <| wpl_q (q_pure rfl) rfl <| wpl_nil <| ex_then <| wpc_ret ?_
    refine ret1 (.inl rfl) rfl rfl ?_
    exact fun w1 h => ⟨by rw [ver_y hZ hV], h.below⟩
theorem rvSign (l : Rv) (s : List UInt8) (ht : Int) (idx : Int) (w : World) (hl : l.seen w.cell?) (hnl : l.nm.length ≤ maxLen) (hs : s.length = 16) (hk : RLim l) (hG : Glb w) :
    Calls Tryz.prog 6 [.agg l.c.toArray, .agg (v8s s).toArray, .int .i64 ht, .int .i64 idx].toArray w (GivesP w (fun y : Rv => SgP l s ht idx y ∧ y.svs) (fun y => .tuple #[.agg y.c.toArray, .int .i64 (snE l ht idx)]) (fun y => rvE y) (fun _ => [])) := by
  haveI := hl.svs.one
  have lss := hl.s.sv.le
  have lcs := hl.c.sv.le
  have lps := hl.p.sv.le
  have sss := hl.s.sv
  have scs := hl.c.sv
  have sps := hl.p.sv
  simp only [maxLen] at lss lcs lps
  haveI : LenC (v8s s) 16 := ⟨by rw [v8s_length]; exact hs⟩
  haveI : OneC (v8s s) := ⟨v8s_one _⟩
  refine enter (m := 39) (R := Mem w [] [] []) Tryz.func6 rfl rfl (Nat.le_of_ble_eq_true rfl) (Mem.start w) ?_
  refine wpc_seq <| wpc_region ?_
  refine wpl_t (t_box rfl l.c rfl) rfl (fun b4 => ?_)
  refine wpl_t (t_box rfl (v8s s) rfl) rfl (fun b5 => ?_)
  refine wpl_t (t_alloc Tryz.ti30 Rv.z.c rfl) rfl (fun b8 => ?_)
  refine wpl_q (q_pure rfl) rfl <| wpl_nil <| ex_then <| wpc_seq <| wpc_region <| wpl_q (q_ldN Tryz.underlying30 rfl Tryz.ti30 rfl LenC.h) rfl ?_
  refine wpl_tp (t_callP3 Tryz.hb14 rfl fun w h => rvTwin l w (hl.old h rfl) hnl hk.ss hk.c hk.p) rfl (fun b13 p13 => ?_)
  haveI : OneC (l.re b13).c := Rv.svs.one (l := l.re b13) p13
  haveI : OneC (usR l b13.1).c := Rv.svs.one (l := (usR l b13.1)) ⟨p13.1, SV.nil, SV.nil⟩
  refine wpl_t0 (t_stA Tryz.ti30 rfl rfl LenC.h OneC.h LenC.h) (fun _ => ?_)
  refine wpl_nil <| ex_then <| wpc_seq <| wpc_region ?_
  refine wpl_q (q_build (cs := [.int .i64 0, .slice none 0 0, .slice none 0 0]) rfl built_kz) rfl ?_
  refine wpl_q (q_field Tryz.underlying30 rfl Tryz.ti28 rfl rfl _ rfl) rfl ?_
  refine wpl_t0 (t_stP Tryz.ti28 rfl rfl zz2 (OneC.cons rfl (OneC.cons rfl (OneC.cons rfl oneC_nil))).h zz51 (usR l b13.1).c rfl) (fun _ => ?_)
  refine wpl_nil <| ex_then <| wpc_seq <| wpc_region <| wpl_q (q_ldN Tryz.underlying30 rfl Tryz.ti30 rfl LenC.h) rfl ?_
  refine wpl_tp (t_callP1 Tryz.hb15 rfl fun w h => rvBodyB (usR l b13.1) w (us_seen (h.seen_row zz7)) hnl (us_lim hk _).ss (us_lim hk _).nm) rfl (fun b18 p18 => ?_)
  refine wpl_q (q_pure rfl) rfl <| wpl_q (q_pure rfl) rfl <| wpl_q (q_pure rfl) rfl <| wpl_q (q_pure rfl) rfl <| wpl_q (q_pure rfl) rfl <| wpl_nil <| ex_then <| wpc_seq <| wpc_seq <| wpc_region <| wpl_q (q_pure rfl) rfl <| wpl_q (q_pure rfl) rfl ?_
  refine wpl_nil <| ex_then ?_
  refine wpc_cond rfl (fun hc22 => ?_) (fun hc22 => ?_)
  ·
   have hN : ¬ chkR (usR l nl) = 0 := by rw [← us_chk l b13.1]; simpa using hc22
   obtain ⟨hE1, hE2⟩ := sn_e (ht := ht) (idx := idx) hN
   refine wpc_seq <| wpc_region ?_
   refine wpl_q (q_build (cs := Rv.z.c) rfl built_rz) rfl ?_
   refine wpl_q (q_pure rfl) rfl ?_
   refine wpl_t0 (t_stA Tryz.ti30 rfl rfl LenC.h OneC.h LenC.h) (fun _ => ?_)
   refine wpl_q (q_pure rfl) rfl <| wpl_nil <| ex_then <| wpc_ret ?_
   refine ex_then_ret ?_
   refine retv2 (.inl rfl) rfl (rv_agg Tryz.underlying30 rfl Tryz.ti30 rfl (fun w h => h.atB) zz2) (rv_tmp rfl) ?_
   exact fun w1 h => ⟨Rv.z, ⟨sg_z hE2, Rv.z_svs⟩, by rw [hE1, us_chk]; rfl, h.below, rvE_z h⟩
  ·
   have hZ : chkR (usR l nl) = 0 := by rw [← us_chk l b13.1]; simpa using hc22
   have hS := sn_s (ht := ht) (idx := idx) hZ
   refine wpc_skip <| ex_then <| wpc_seq <| wpc_seq <| wpc_region <| wpl_q (q_ldN Tryz.underlying32 rfl Tryz.ti32 rfl LenC.h) rfl <| wpl_q (q_pure rfl) rfl <| wpl_q (q_pure rfl) rfl <| wpl_q (q_pure rfl) rfl ?_
   refine wpl_tp (t_callP2 Tryz.hb16 rfl fun w h => by
     have q := sign7 s ht idx b18 (bdyB (usR l b13.1)) w hs (h.seen_row zz7) (glob h hG)
     rwa [us_bdy] at q) rfl (fun b30 p30 => ?_)
   haveI : OneC (sgnR l s ht idx b13.1 b30.1 b30.2).c := Rv.svs.one (l := (sgnR l s ht idx b13.1 b30.1 b30.2)) ⟨p13.1, p30.1, p30.2⟩
   refine wpl_q (q_pure rfl) rfl <| wpl_q (q_pure rfl) rfl <| wpl_q (q_pure rfl) rfl <| wpl_q (q_field Tryz.underlying30 rfl Tryz.ti28 rfl rfl _ rfl) rfl ?_
   refine wpl_t0 (t_stP Tryz.ti28 rfl rfl zz2 (OneC.cons rfl (OneC.cons (SV.one p30.1) (OneC.cons (SV.one p30.2) oneC_nil))).h zz51 (sgnR l s ht idx b13.1 b30.1 b30.2).c rfl) (fun _ => ?_)
   refine wpl_q (q_pure rfl) rfl <| wpl_nil <| ex_then <| wpc_seq <| wpc_region <| wpl_q (q_pure rfl) rfl <| wpl_q (q_pure rfl) rfl <| wpl_nil <| ex_then ?_
   refine wpc_cond rfl (fun hc35 => ?_) (fun hc35 => ?_)
   ·
    have hE2 : snE l ht idx ≠ 0 := by rw [hS]; simpa using hc35
    refine wpc_seq <| wpc_region ?_
    refine wpl_q (q_build (cs := Rv.z.c) rfl built_rz) rfl ?_
    refine wpl_q (q_pure rfl) rfl ?_
    refine wpl_t0 (t_stA Tryz.ti30 rfl rfl LenC.h OneC.h LenC.h) (fun _ => ?_)
    refine wpl_q (q_pure rfl) rfl <| wpl_nil <| ex_then <| wpc_ret ?_
    refine ex_then_ret ?_
    refine retv2 (.inl rfl) rfl (rv_agg Tryz.underlying30 rfl Tryz.ti30 rfl (fun w h => h.atB) zz2) (rv_tmp rfl) ?_
    exact fun w1 h => ⟨Rv.z, ⟨sg_z hE2, Rv.z_svs⟩, by rw [hS]; rfl, h.below, rvE_z h⟩
   ·
    have hE0 : snE l ht idx = 0 := by rw [hS]; simpa using hc35
    refine wpc_skip <| ex_then <| wpc_seq <| wpc_region <| wpl_q (q_ldN Tryz.underlying30 rfl Tryz.ti30 rfl LenC.h) rfl ?_
    refine wpl_t0 (t_stA Tryz.ti30 rfl rfl LenC.h OneC.h LenC.h) (fun _ => ?_)
    refine wpl_q (q_pure rfl) rfl <| wpl_nil <| ex_then <| wpc_ret ?_
    refine retv2 (.inl rfl) rfl (rv_agg Tryz.underlying30 rfl Tryz.ti30 rfl (fun w h => h.atB) zz2) (rv_tmp rfl) ?_
    exact fun w1 h => ⟨(sgnR l s ht idx b13.1 b30.1 b30.2), ⟨⟨by rw [sn_y hE0]; exact sgn_eqv _ _ _ _ _ _ _, sigC_all _ _ _ _, sigP_all _ _ _⟩, ⟨p13.1, p30.1, p30.2⟩⟩, by rw [hE0], h.below, (h.sel (M' := [Ent.row b13.1 l.ss.length 22 1 (v64s l.ss), Ent.row b30.1 (sigC s ht idx (bdyB (usR l nl))).length 32 16 (v8s (sigC s ht idx (bdyB (usR l nl))).flatten), Ent.row b30.2 (sigP s ht idx).length 32 16 (v8s (sigP s ht idx).flatten)])).made (Sub.refl _) .nil⟩
end Go.Proofs.YtgnablliekgbgaaGreatDoor
namespace Go.Proofs.YtgnablliekgbgaaGreatDoor
open Go Go.PL Go.RowKit
theorem refRvVerify (l : Rv) (rs : List UInt8) (ht : Int) (w : World) (hl : l.seen w.cell?) (hnl : l.nm.length ≤ maxLen) (hrs : rs.length = 16) (hk : RLim l) :
    Calls Tryz.prog 10 [.agg l.c.toArray, .agg (v8s rs ++ [Value.int .i64 ht]).toArray].toArray w (Pur w (.int .i64 (verE l rs ht))) := by
  haveI := hl.svs.one
  have lss := hl.s.sv.le
  have lcs := hl.c.sv.le
  have lps := hl.p.sv.le
  have sss := hl.s.sv
  have scs := hl.c.sv
  have sps := hl.p.sv
  simp only [maxLen] at lss lcs lps
  haveI : LenC (v8s rs ++ [Value.int .i64 ht]) 17 := ⟨by rw [List.length_append, v8s_length, hrs]; rfl⟩
  haveI : OneC (v8s rs ++ [Value.int .i64 ht]) := ⟨one_v8i _ _⟩
  refine enter (m := 19) (R := Mem w [] [] []) Tryz.func10 rfl rfl (Nat.le_of_ble_eq_true rfl) (Mem.start w) ?_
  refine wpc_seq <| wpc_region ?_
  refine wpl_t (t_box rfl l.c rfl) rfl (fun b2 => ?_)
  refine wpl_t (t_box rfl (v8s rs ++ [Value.int .i64 ht]) rfl) rfl (fun b3 => ?_)
  refine wpl_q (q_pure rfl) rfl <| wpl_nil <| ex_then <| wpc_seq <| wpc_region <| wpl_q (q_ldN Tryz.underlying30 rfl Tryz.ti30 rfl LenC.h) rfl ?_
  refine wpl_t (t_pur Tryz.hb17 rfl fun w h => refRvCheck l w (hl.old h rfl) hnl) rfl (fun b7 => ?_)
  refine wpl_q (q_pure rfl) rfl <| wpl_nil <| ex_then <| wpc_seq <| wpc_seq <| wpc_region <| wpl_q (q_pure rfl) rfl <| wpl_q (q_pure rfl) rfl <| wpl_nil <| ex_then ?_
  refine wpc_cond rfl (fun hc9 => ?_) (fun hc9 => ?_)
  ·
   have hN : ¬ chkR l = 0 := by simpa using hc9
   refine wpc_seq <| wpc_region <| wpl_q (q_pure rfl) rfl <| wpl_q (q_pure rfl) rfl <| wpl_nil <| ex_then <| wpc_ret ?_
   refine ex_then_ret ?_
   refine ret1 (.inl rfl) rfl rfl ?_
   exact fun w1 h => ⟨by rw [ver_e hN], h.below⟩
  ·
   have hZ : chkR l = 0 := by simpa using hc9
   have hbe := bdy_ok hZ
   refine wpc_skip <| ex_then <| wpc_seq <| wpc_seq ?_
   refine wpc_drawM [.blk b3 34 (v8s rs ++ [Value.int .i64 ht]), .blk b2 30 l.c] 99 zz8 zz6 ?_
   refine wpd_q 0 rfl zz8 trivial (q_ldN Tryz.underlying34 rfl Tryz.ti34 rfl LenC.h) rfl (fun w h => h.sub SubC.h SubC.h) ?_
   refine wpd_q 1 rfl zz8 trivial (q_ldN Tryz.underlying30 rfl Tryz.ti30 rfl LenC.h) rfl (fun w h => h.sub SubC.h SubC.h) ?_
   refine wpd_p 4 rfl zz8 trivial (q_field Tryz.underlying30 rfl Tryz.ti28 rfl rfl _ rfl) rfl (fun w h => .inr (h.sub SubC.h SubC.h)) ?_
   refine wpd_q 5 rfl zz8 trivial (q_ldP Tryz.underlying28 rfl Tryz.ti28 rfl l.sig rfl rfl) rfl (fun w h => h.sub SubC.h SubC.h) ?_
   refine wpd_tp 2 rfl zz8 trivial (t_callPT Tryz.hb20 rfl fun w h => frz (refValue l w (hl.old h rfl) hnl hk.ss hk.nm)) rfl (fun _ => (fun w h => .inr (h.sub SubC.h SubC.h))) (fun b13 p13 => ?_)
   haveI := p13.2.one
   refine wpd_tp 3 rfl zz8 trivial (t_callP1 Tryz.hb19 rfl fun w h => by
     have q := refPut_ok w (Mem.hseenF h zz7) (sm_body hk.ss hk.nm) p13.1
     rwa [← hbe] at q) rfl (fun _ => (fun w h => .inr (h.sub SubC.h SubC.h))) (fun b14 p14 => ?_)
   refine wpd_t 6 rfl zz8 trivial (t_pur (v := .bool (decide (verR l rs ht))) Tryz.hb24 rfl fun w h => refVerify7 rs ht b14 (bdyB l) l.cv l.pv l.chs l.ps l.ix w hrs (h.seen_row zz7) (h.seen_old hl.c) hl.lc (h.seen_old hl.p) hl.lp (bdy_len hk)) rfl (fun _ => (fun w h => .inr (h.sub SubC.h SubC.h))) (fun b17 => ?_)
   refine wpd_p 7 rfl zz8 trivial (q_pure rfl) rfl (fun w h => .inr (h.sub SubC.h SubC.h)) ?_
   refine wpd_done zz8 ?_
   refine ex_then ?_
   refine wpc_cond rfl (fun hc18 => ?_) (fun hc18 => ?_)
   ·
    have hV : ¬ verR l rs ht := by simpa using hc18
    refine wpc_seq <| wpc_region <| wpl_q (q_pure rfl) rfl <| wpl_nil <| ex_then <| wpc_ret ?_
    refine ex_then_ret ?_
    refine ret1 (.inl rfl) rfl rfl ?_
    exact fun w1 h => ⟨by rw [ver_n hZ hV], h.below⟩
   ·
    have hV : verR l rs ht := by simpa using hc18
    refine wpc_skip <| ex_then <| wpc_seq <| wpc_region <| wpl_q (q_pure rfl) rfl <| wpl_nil <| ex_then <| wpc_ret ?_
    refine ret1 (.inl rfl) rfl rfl ?_
    exact fun w1 h => ⟨by rw [ver_y hZ hV], h.below⟩
theorem refRvSign (l : Rv) (s : List UInt8) (ht : Int) (idx : Int) (w : World) (hl : l.seen w.cell?) (hnl : l.nm.length ≤ maxLen) (hs : s.length = 16) (hk : RLim l) :
    Calls Tryz.prog 7 [.agg l.c.toArray, .agg (v8s s).toArray, .int .i64 ht, .int .i64 idx].toArray w (GivesP w (fun y : Rv => SgP l s ht idx y ∧ y.svs) (fun y => .tuple #[.agg y.c.toArray, .int .i64 (snE l ht idx)]) (fun y => rvE y) (fun _ => [])) := by
  haveI := hl.svs.one
  have lss := hl.s.sv.le
  have lcs := hl.c.sv.le
  have lps := hl.p.sv.le
  have sss := hl.s.sv
  have scs := hl.c.sv
  have sps := hl.p.sv
  simp only [maxLen] at lss lcs lps
  haveI : LenC (v8s s) 16 := ⟨by rw [v8s_length]; exact hs⟩
  haveI : OneC (v8s s) := ⟨v8s_one _⟩
  refine enter (m := 41) (R := Mem w [] [] []) Tryz.func7 rfl rfl (Nat.le_of_ble_eq_true rfl) (Mem.start w) ?_
  refine wpc_seq <| wpc_region ?_
  refine wpl_t (t_box rfl l.c rfl) rfl (fun b4 => ?_)
  refine wpl_t (t_box rfl (v8s s) rfl) rfl (fun b5 => ?_)
  refine wpl_t (t_alloc Tryz.ti30 Rv.z.c rfl) rfl (fun b8 => ?_)
  refine wpl_q (q_pure rfl) rfl <| wpl_nil <| ex_then <| wpc_seq <| wpc_region <| wpl_q (q_ldN Tryz.underlying30 rfl Tryz.ti30 rfl LenC.h) rfl ?_
  refine wpl_tp (t_callP3 Tryz.hb5 rfl fun w h => refRvTwin l w (hl.old h rfl) hnl hk.ss hk.c hk.p) rfl (fun b15 p15 => ?_)
  haveI : OneC (l.re b15).c := Rv.svs.one (l := l.re b15) p15
  haveI : OneC (usR l b15.1).c := Rv.svs.one (l := (usR l b15.1)) ⟨p15.1, SV.nil, SV.nil⟩
  refine wpl_t (t_alloc Tryz.ti30 Rv.z.c rfl) rfl (fun b10 => ?_)
  refine wpl_t0 (t_stA Tryz.ti30 rfl rfl LenC.h OneC.h LenC.h) (fun _ => ?_)
  refine wpl_nil <| ex_then <| wpc_seq <| wpc_region ?_
  refine wpl_q (q_build (cs := [.int .i64 0, .slice none 0 0, .slice none 0 0]) rfl built_kz) rfl ?_
  refine wpl_q (q_field Tryz.underlying30 rfl Tryz.ti28 rfl rfl _ rfl) rfl ?_
  refine wpl_t0 (t_stP Tryz.ti28 rfl rfl zz2 (OneC.cons rfl (OneC.cons rfl (OneC.cons rfl oneC_nil))).h zz51 (usR l b15.1).c rfl) (fun _ => ?_)
  refine wpl_nil <| ex_then <| wpc_seq <| wpc_region <| wpl_q (q_ldN Tryz.underlying30 rfl Tryz.ti30 rfl LenC.h) rfl ?_
  refine wpl_t (t_pur Tryz.hb17 rfl fun w h => by
    have q := refRvCheck (usR l b15.1) w (us_seen (h.seen_row zz7)) hnl
    rwa [us_chk] at q) rfl (fun b19 => ?_)
  refine wpl_q (q_pure rfl) rfl <| wpl_nil <| ex_then <| wpc_seq <| wpc_seq <| wpc_region <| wpl_q (q_pure rfl) rfl <| wpl_q (q_pure rfl) rfl <| wpl_nil <| ex_then ?_
  refine wpc_cond rfl (fun hc21 => ?_) (fun hc21 => ?_)
  ·
   have hN : ¬ chkR (usR l nl) = 0 := by simpa using hc21
   obtain ⟨hE1, hE2⟩ := sn_e (ht := ht) (idx := idx) hN
   refine wpc_seq <| wpc_region ?_
   refine wpl_q (q_build (cs := Rv.z.c) rfl built_rz) rfl ?_
   refine wpl_q (q_pure rfl) rfl ?_
   refine wpl_t0 (t_stA Tryz.ti30 rfl rfl LenC.h OneC.h LenC.h) (fun _ => ?_)
   refine wpl_q (q_pure rfl) rfl <| wpl_nil <| ex_then <| wpc_ret ?_
   refine ex_then_ret ?_
   refine retv2 (.inl rfl) rfl (rv_agg Tryz.underlying30 rfl Tryz.ti30 rfl (fun w h => h.atB) zz2) (rv_tmp rfl) ?_
   exact fun w1 h => ⟨Rv.z, ⟨sg_z hE2, Rv.z_svs⟩, by rw [hE1], h.below, rvE_z h⟩
  ·
   have hZ : chkR (usR l nl) = 0 := by simpa using hc21
   have hS := sn_s (ht := ht) (idx := idx) hZ
   have hbe := bdy_ok hZ
   refine wpc_skip <| ex_then <| wpc_seq ?_
   refine wpc_drawM [.blk b10 30 (usR l b15.1).c, .blk b5 32 (v8s s)] 99 zz8 zz6 ?_
   refine wpd_q 0 rfl zz8 trivial (q_ldN Tryz.underlying32 rfl Tryz.ti32 rfl LenC.h) rfl (fun w h => h.sub SubC.h SubC.h) ?_
   refine wpd_p 1 rfl zz8 trivial (q_pure rfl) rfl (fun w h => .inr (h.sub SubC.h SubC.h)) ?_
   refine wpd_p 2 rfl zz8 trivial (q_pure rfl) rfl (fun w h => .inr (h.sub SubC.h SubC.h)) ?_
   refine wpd_q 3 rfl zz8 trivial (q_ldN Tryz.underlying30 rfl Tryz.ti30 rfl LenC.h) rfl (fun w h => h.sub SubC.h SubC.h) ?_
   refine wpd_two 4 10 zz8 ?_ ?_
   ·
    refine wpa_tp 4 rfl trivial (t_callPT Tryz.hb20 rfl fun w h => frz (refValue (usR l b15.1) w (us_seen (h.seen_row zz7)) hnl (us_lim hk _).ss (us_lim hk _).nm)) rfl (fun _ => (fun w h => .inr (h.sub SubC.h SubC.h))) (fun b29 p29 => ?_)
    haveI := p29.2.one
    refine wpd_two 5 10 zz8 ?_ ?_
    ·
     refine wpa_tp 5 rfl trivial (t_callP1 Tryz.hb19 rfl fun w h => by
       have q := refPut_ok w (Mem.hseenF h zz7) (sm_body (us_lim hk b15.1).ss (us_lim hk b15.1).nm) p29.1
       rwa [show enc (bodyT (usR l b15.1)) = bdyB (usR l nl) from hbe.symm] at q) rfl (fun _ => (fun w h => .inr (h.sub SubC.h SubC.h))) (fun b30 p30 => ?_)
     refine wpd_two 6 10 zz8 ?_ ?_
     ·
      refine wpa_tp 6 rfl trivial (t_callP2 Tryz.hb18 rfl fun w h => refSign7 s ht idx b30 (bdyB (usR l nl)) w hs (h.seen_row zz7) (bdy_len (us_lim hk nl))) rfl (fun _ => (fun w h => .inr (h.sub SubC.h SubC.h))) (fun b31 p31 => ?_)
      haveI : OneC (sgnR l s ht idx b15.1 b31.1 b31.2).c := Rv.svs.one (l := (sgnR l s ht idx b15.1 b31.1 b31.2)) ⟨p15.1, p31.1, p31.2⟩
      haveI : OneC [Value.int .i64 (sigI ht idx), b31.1, b31.2] := OneC.cons rfl (OneC.cons (SV.one p31.1) (OneC.cons (SV.one p31.2) oneC_nil))
      refine wpd_p 7 rfl zz8 trivial (q_pure rfl) rfl (fun w h => .inr (h.sub SubC.h SubC.h)) ?_
      refine wpd_p 8 rfl zz8 trivial (q_pure rfl) rfl (fun w h => .inr (h.sub SubC.h SubC.h)) ?_
      refine wpd_p 9 rfl zz8 trivial (q_pure rfl) rfl (fun w h => .inr (h.sub SubC.h SubC.h)) ?_
      refine wpd_t 10 rfl zz8 trivial (t_alloc Tryz.ti28 [.int .i64 0, .slice none 0 0, .slice none 0 0] rfl) rfl (fun _ => (fun w h => .inr (h.sub SubC.h SubC.h))) (fun b12 => ?_)
      refine wpd_t0 11 rfl zz8 trivial (t_stA Tryz.ti28 rfl rfl LenC.h OneC.h LenC.h) (fun _ => (fun w h => .inr (h.sub SubC.h SubC.h))) (fun _ => ?_)
      refine wpd_p 12 rfl zz8 trivial (q_pure rfl) rfl (fun w h => .inr (h.sub SubC.h SubC.h)) ?_
      refine wpd_done zz8 ?_
      refine ex_then <| wpc_seq <| wpc_seq <| wpc_region <| wpl_q (q_pure rfl) rfl <| wpl_q (q_pure rfl) rfl <| wpl_nil <| ex_then ?_
      refine wpc_cond rfl (fun hc35 => ?_) (fun hc35 => ?_)
      ·
       have hE2 : snE l ht idx ≠ 0 := by rw [hS]; simpa using hc35
       refine wpc_seq <| wpc_region ?_
       refine wpl_q (q_build (cs := Rv.z.c) rfl built_rz) rfl ?_
       refine wpl_q (q_pure rfl) rfl ?_
       refine wpl_t0 (t_stA Tryz.ti30 rfl rfl LenC.h OneC.h LenC.h) (fun _ => ?_)
       refine wpl_q (q_pure rfl) rfl <| wpl_nil <| ex_then <| wpc_ret ?_
       refine ex_then_ret ?_
       refine retv2 (.inl rfl) rfl (rv_agg Tryz.underlying30 rfl Tryz.ti30 rfl (fun w h => h.atB) zz2) (rv_tmp rfl) ?_
       exact fun w1 h => ⟨Rv.z, ⟨sg_z hE2, Rv.z_svs⟩, by rw [hS]; rfl, h.below, rvE_z h⟩
      ·
       have hE0 : snE l ht idx = 0 := by rw [hS]; simpa using hc35
       refine wpc_skip <| ex_then <| wpc_seq <| wpc_region <| wpl_q (q_ldN Tryz.underlying28 rfl Tryz.ti28 rfl LenC.h) rfl <| wpl_q (q_field Tryz.underlying30 rfl Tryz.ti28 rfl rfl _ rfl) rfl ?_
       refine wpl_t0 (t_stP Tryz.ti28 rfl rfl zz2 (OneC.cons rfl (OneC.cons (SV.one p31.1) (OneC.cons (SV.one p31.2) oneC_nil))).h zz51 (sgnR l s ht idx b15.1 b31.1 b31.2).c rfl) (fun _ => ?_)
       refine wpl_nil <| ex_then <| wpc_seq <| wpc_region <| wpl_q (q_ldN Tryz.underlying30 rfl Tryz.ti30 rfl LenC.h) rfl ?_
       refine wpl_t0 (t_stA Tryz.ti30 rfl rfl LenC.h OneC.h LenC.h) (fun _ => ?_)
       refine wpl_q (q_pure rfl) rfl <| wpl_nil <| ex_then <| wpc_ret ?_
       refine retv2 (.inl rfl) rfl (rv_agg Tryz.underlying30 rfl Tryz.ti30 rfl (fun w h => h.atB) zz2) (rv_tmp rfl) ?_
       exact fun w1 h => ⟨(sgnR l s ht idx b15.1 b31.1 b31.2), ⟨⟨by rw [sn_y hE0]; exact sgn_eqv _ _ _ _ _ _ _, sigC_all _ _ _ _, sigP_all _ _ _⟩, ⟨p15.1, p31.1, p31.2⟩⟩, by rw [hE0], h.below, (h.sel (M' := [Ent.row b15.1 l.ss.length 22 1 (v64s l.ss), Ent.row b31.1 (sigC s ht idx (bdyB (usR l nl))).length 32 16 (v8s (sigC s ht idx (bdyB (usR l nl))).flatten), Ent.row b31.2 (sigP s ht idx).length 32 16 (v8s (sigP s ht idx).flatten)])).made (Sub.refl _) .nil⟩
     ·
      refine wpa_t 10 rfl trivial (t_alloc Tryz.ti28 [.int .i64 0, .slice none 0 0, .slice none 0 0] rfl) rfl (fun _ => (fun w h => .inr (h.sub SubC.h SubC.h))) (fun b12 => ?_)
      refine wpd_tp 6 rfl zz8 trivial (t_callP2 Tryz.hb18 rfl fun w h => refSign7 s ht idx b30 (bdyB (usR l nl)) w hs (h.seen_row zz7) (bdy_len (us_lim hk nl))) rfl (fun _ => (fun w h => .inr (h.sub SubC.h SubC.h))) (fun b31 p31 => ?_)
      haveI : OneC (sgnR l s ht idx b15.1 b31.1 b31.2).c := Rv.svs.one (l := (sgnR l s ht idx b15.1 b31.1 b31.2)) ⟨p15.1, p31.1, p31.2⟩
      haveI : OneC [Value.int .i64 (sigI ht idx), b31.1, b31.2] := OneC.cons rfl (OneC.cons (SV.one p31.1) (OneC.cons (SV.one p31.2) oneC_nil))
      refine wpd_p 7 rfl zz8 trivial (q_pure rfl) rfl (fun w h => .inr (h.sub SubC.h SubC.h)) ?_
      refine wpd_p 8 rfl zz8 trivial (q_pure rfl) rfl (fun w h => .inr (h.sub SubC.h SubC.h)) ?_
      refine wpd_p 9 rfl zz8 trivial (q_pure rfl) rfl (fun w h => .inr (h.sub SubC.h SubC.h)) ?_
      refine wpd_t0 11 rfl zz8 trivial (t_stA Tryz.ti28 rfl rfl LenC.h OneC.h LenC.h) (fun _ => (fun w h => .inr (h.sub SubC.h SubC.h))) (fun _ => ?_)
      refine wpd_p 12 rfl zz8 trivial (q_pure rfl) rfl (fun w h => .inr (h.sub SubC.h SubC.h)) ?_
      refine wpd_done zz8 ?_
      refine ex_then <| wpc_seq <| wpc_seq <| wpc_region <| wpl_q (q_pure rfl) rfl <| wpl_q (q_pure rfl) rfl <| wpl_nil <| ex_then ?_
      refine wpc_cond rfl (fun hc35 => ?_) (fun hc35 => ?_)
      ·
       have hE2 : snE l ht idx ≠ 0 := by rw [hS]; simpa using hc35
       refine wpc_seq <| wpc_region ?_
       refine wpl_q (q_build (cs := Rv.z.c) rfl built_rz) rfl ?_
       refine wpl_q (q_pure rfl) rfl ?_
       refine wpl_t0 (t_stA Tryz.ti30 rfl rfl LenC.h OneC.h LenC.h) (fun _ => ?_)
       refine wpl_q (q_pure rfl) rfl <| wpl_nil <| ex_then <| wpc_ret ?_
       refine ex_then_ret ?_
       refine retv2 (.inl rfl) rfl (rv_agg Tryz.underlying30 rfl Tryz.ti30 rfl (fun w h => h.atB) zz2) (rv_tmp rfl) ?_
       exact fun w1 h => ⟨Rv.z, ⟨sg_z hE2, Rv.z_svs⟩, by rw [hS]; rfl, h.below, rvE_z h⟩
      ·
       have hE0 : snE l ht idx = 0 := by rw [hS]; simpa using hc35
       refine wpc_skip <| ex_then <| wpc_seq <| wpc_region <| wpl_q (q_ldN Tryz.underlying28 rfl Tryz.ti28 rfl LenC.h) rfl <| wpl_q (q_field Tryz.underlying30 rfl Tryz.ti28 rfl rfl _ rfl) rfl ?_
       refine wpl_t0 (t_stP Tryz.ti28 rfl rfl zz2 (OneC.cons rfl (OneC.cons (SV.one p31.1) (OneC.cons (SV.one p31.2) oneC_nil))).h zz51 (sgnR l s ht idx b15.1 b31.1 b31.2).c rfl) (fun _ => ?_)
       refine wpl_nil <| ex_then <| wpc_seq <| wpc_region <| wpl_q (q_ldN Tryz.underlying30 rfl Tryz.ti30 rfl LenC.h) rfl ?_
       refine wpl_t0 (t_stA Tryz.ti30 rfl rfl LenC.h OneC.h LenC.h) (fun _ => ?_)
       refine wpl_q (q_pure rfl) rfl <| wpl_nil <| ex_then <| wpc_ret ?_
       refine retv2 (.inl rfl) rfl (rv_agg Tryz.underlying30 rfl Tryz.ti30 rfl (fun w h => h.atB) zz2) (rv_tmp rfl) ?_
       exact fun w1 h => ⟨(sgnR l s ht idx b15.1 b31.1 b31.2), ⟨⟨by rw [sn_y hE0]; exact sgn_eqv _ _ _ _ _ _ _, sigC_all _ _ _ _, sigP_all _ _ _⟩, ⟨p15.1, p31.1, p31.2⟩⟩, by rw [hE0], h.below, (h.sel (M' := [Ent.row b15.1 l.ss.length 22 1 (v64s l.ss), Ent.row b31.1 (sigC s ht idx (bdyB (usR l nl))).length 32 16 (v8s (sigC s ht idx (bdyB (usR l nl))).flatten), Ent.row b31.2 (sigP s ht idx).length 32 16 (v8s (sigP s ht idx).flatten)])).made (Sub.refl _) .nil⟩
    ·
     refine wpa_t 10 rfl trivial (t_alloc Tryz.ti28 [.int .i64 0, .slice none 0 0, .slice none 0 0] rfl) rfl (fun _ => (fun w h => .inr (h.sub SubC.h SubC.h))) (fun b12 => ?_)
     refine wpd_tp 5 rfl zz8 trivial (t_callP1 Tryz.hb19 rfl fun w h => by
       have q := refPut_ok w (Mem.hseenF h zz7) (sm_body (us_lim hk b15.1).ss (us_lim hk b15.1).nm) p29.1
       rwa [show enc (bodyT (usR l b15.1)) = bdyB (usR l nl) from hbe.symm] at q) rfl (fun _ => (fun w h => .inr (h.sub SubC.h SubC.h))) (fun b30 p30 => ?_)
     refine wpd_tp 6 rfl zz8 trivial (t_callP2 Tryz.hb18 rfl fun w h => refSign7 s ht idx b30 (bdyB (usR l nl)) w hs (h.seen_row zz7) (bdy_len (us_lim hk nl))) rfl (fun _ => (fun w h => .inr (h.sub SubC.h SubC.h))) (fun b31 p31 => ?_)
     haveI : OneC (sgnR l s ht idx b15.1 b31.1 b31.2).c := Rv.svs.one (l := (sgnR l s ht idx b15.1 b31.1 b31.2)) ⟨p15.1, p31.1, p31.2⟩
     haveI : OneC [Value.int .i64 (sigI ht idx), b31.1, b31.2] := OneC.cons rfl (OneC.cons (SV.one p31.1) (OneC.cons (SV.one p31.2) oneC_nil))
     refine wpd_p 7 rfl zz8 trivial (q_pure rfl) rfl (fun w h => .inr (h.sub SubC.h SubC.h)) ?_
     refine wpd_p 8 rfl zz8 trivial (q_pure rfl) rfl (fun w h => .inr (h.sub SubC.h SubC.h)) ?_
     refine wpd_p 9 rfl zz8 trivial (q_pure rfl) rfl (fun w h => .inr (h.sub SubC.h SubC.h)) ?_
     refine wpd_t0 11 rfl zz8 trivial (t_stA Tryz.ti28 rfl rfl LenC.h OneC.h LenC.h) (fun _ => (fun w h => .inr (h.sub SubC.h SubC.h))) (fun _ => ?_)
     refine wpd_p 12 rfl zz8 trivial (q_pure rfl) rfl (fun w h => .inr (h.sub SubC.h SubC.h)) ?_
     refine wpd_done zz8 ?_
     refine ex_then <| wpc_seq <| wpc_seq <| wpc_region <| wpl_q (q_pure rfl) rfl <| wpl_q (q_pure rfl) rfl <| wpl_nil <| ex_then ?_
     refine wpc_cond rfl (fun hc35 => ?_) (fun hc35 => ?_)
     ·
      have hE2 : snE l ht idx ≠ 0 := by rw [hS]; simpa using hc35
      refine wpc_seq <| wpc_region ?_
      refine wpl_q (q_build (cs := Rv.z.c) rfl built_rz) rfl ?_
      refine wpl_q (q_pure rfl) rfl ?_
      refine wpl_t0 (t_stA Tryz.ti30 rfl rfl LenC.h OneC.h LenC.h) (fun _ => ?_)
      refine wpl_q (q_pure rfl) rfl <| wpl_nil <| ex_then <| wpc_ret ?_
      refine ex_then_ret ?_
      refine retv2 (.inl rfl) rfl (rv_agg Tryz.underlying30 rfl Tryz.ti30 rfl (fun w h => h.atB) zz2) (rv_tmp rfl) ?_
      exact fun w1 h => ⟨Rv.z, ⟨sg_z hE2, Rv.z_svs⟩, by rw [hS]; rfl, h.below, rvE_z h⟩
     ·
      have hE0 : snE l ht idx = 0 := by rw [hS]; simpa using hc35
      refine wpc_skip <| ex_then <| wpc_seq <| wpc_region <| wpl_q (q_ldN Tryz.underlying28 rfl Tryz.ti28 rfl LenC.h) rfl <| wpl_q (q_field Tryz.underlying30 rfl Tryz.ti28 rfl rfl _ rfl) rfl ?_
      refine wpl_t0 (t_stP Tryz.ti28 rfl rfl zz2 (OneC.cons rfl (OneC.cons (SV.one p31.1) (OneC.cons (SV.one p31.2) oneC_nil))).h zz51 (sgnR l s ht idx b15.1 b31.1 b31.2).c rfl) (fun _ => ?_)
      refine wpl_nil <| ex_then <| wpc_seq <| wpc_region <| wpl_q (q_ldN Tryz.underlying30 rfl Tryz.ti30 rfl LenC.h) rfl ?_
      refine wpl_t0 (t_stA Tryz.ti30 rfl rfl LenC.h OneC.h LenC.h) (fun _ => ?_)
      refine wpl_q (q_pure rfl) rfl <| wpl_nil <| ex_then <| wpc_ret ?_
      refine retv2 (.inl rfl) rfl (rv_agg Tryz.underlying30 rfl Tryz.ti30 rfl (fun w h => h.atB) zz2) (rv_tmp rfl) ?_
      exact fun w1 h => ⟨(sgnR l s ht idx b15.1 b31.1 b31.2), ⟨⟨by rw [sn_y hE0]; exact sgn_eqv _ _ _ _ _ _ _, sigC_all _ _ _ _, sigP_all _ _ _⟩, ⟨p15.1, p31.1, p31.2⟩⟩, by rw [hE0], h.below, (h.sel (M' := [Ent.row b15.1 l.ss.length 22 1 (v64s l.ss), Ent.row b31.1 (sigC s ht idx (bdyB (usR l nl))).length 32 16 (v8s (sigC s ht idx (bdyB (usR l nl))).flatten), Ent.row b31.2 (sigP s ht idx).length 32 16 (v8s (sigP s ht idx).flatten)])).made (Sub.refl _) .nil⟩
   ·
    refine wpa_t 10 rfl trivial (t_alloc Tryz.ti28 [.int .i64 0, .slice none 0 0, .slice none 0 0] rfl) rfl (fun _ => (fun w h => .inr (h.sub SubC.h SubC.h))) (fun b12 => ?_)
    refine wpd_tp 4 rfl zz8 trivial (t_callPT Tryz.hb20 rfl fun w h => frz (refValue (usR l b15.1) w (us_seen (h.seen_row zz7)) hnl (us_lim hk _).ss (us_lim hk _).nm)) rfl (fun _ => (fun w h => .inr (h.sub SubC.h SubC.h))) (fun b29 p29 => ?_)
    haveI := p29.2.one
    refine wpd_tp 5 rfl zz8 trivial (t_callP1 Tryz.hb19 rfl fun w h => by
      have q := refPut_ok w (Mem.hseenF h zz7) (sm_body (us_lim hk b15.1).ss (us_lim hk b15.1).nm) p29.1
      rwa [show enc (bodyT (usR l b15.1)) = bdyB (usR l nl) from hbe.symm] at q) rfl (fun _ => (fun w h => .inr (h.sub SubC.h SubC.h))) (fun b30 p30 => ?_)
    refine wpd_tp 6 rfl zz8 trivial (t_callP2 Tryz.hb18 rfl fun w h => refSign7 s ht idx b30 (bdyB (usR l nl)) w hs (h.seen_row zz7) (bdy_len (us_lim hk nl))) rfl (fun _ => (fun w h => .inr (h.sub SubC.h SubC.h))) (fun b31 p31 => ?_)
    haveI : OneC (sgnR l s ht idx b15.1 b31.1 b31.2).c := Rv.svs.one (l := (sgnR l s ht idx b15.1 b31.1 b31.2)) ⟨p15.1, p31.1, p31.2⟩
    haveI : OneC [Value.int .i64 (sigI ht idx), b31.1, b31.2] := OneC.cons rfl (OneC.cons (SV.one p31.1) (OneC.cons (SV.one p31.2) oneC_nil))
    refine wpd_p 7 rfl zz8 trivial (q_pure rfl) rfl (fun w h => .inr (h.sub SubC.h SubC.h)) ?_
    refine wpd_p 8 rfl zz8 trivial (q_pure rfl) rfl (fun w h => .inr (h.sub SubC.h SubC.h)) ?_
    refine wpd_p 9 rfl zz8 trivial (q_pure rfl) rfl (fun w h => .inr (h.sub SubC.h SubC.h)) ?_
    refine wpd_t0 11 rfl zz8 trivial (t_stA Tryz.ti28 rfl rfl LenC.h OneC.h LenC.h) (fun _ => (fun w h => .inr (h.sub SubC.h SubC.h))) (fun _ => ?_)
    refine wpd_p 12 rfl zz8 trivial (q_pure rfl) rfl (fun w h => .inr (h.sub SubC.h SubC.h)) ?_
    refine wpd_done zz8 ?_
    refine ex_then <| wpc_seq <| wpc_seq <| wpc_region <| wpl_q (q_pure rfl) rfl <| wpl_q (q_pure rfl) rfl <| wpl_nil <| ex_then ?_
    refine wpc_cond rfl (fun hc35 => ?_) (fun hc35 => ?_)
    ·
     have hE2 : snE l ht idx ≠ 0 := by rw [hS]; simpa using hc35
     refine wpc_seq <| wpc_region ?_
     refine wpl_q (q_build (cs := Rv.z.c) rfl built_rz) rfl ?_
     refine wpl_q (q_pure rfl) rfl ?_
     refine wpl_t0 (t_stA Tryz.ti30 rfl rfl LenC.h OneC.h LenC.h) (fun _ => ?_)
     refine wpl_q (q_pure rfl) rfl <| wpl_nil <| ex_then <| wpc_ret ?_
     refine ex_then_ret ?_
     refine retv2 (.inl rfl) rfl (rv_agg Tryz.underlying30 rfl Tryz.ti30 rfl (fun w h => h.atB) zz2) (rv_tmp rfl) ?_
     exact fun w1 h => ⟨Rv.z, ⟨sg_z hE2, Rv.z_svs⟩, by rw [hS]; rfl, h.below, rvE_z h⟩
    ·
     have hE0 : snE l ht idx = 0 := by rw [hS]; simpa using hc35
     refine wpc_skip <| ex_then <| wpc_seq <| wpc_region <| wpl_q (q_ldN Tryz.underlying28 rfl Tryz.ti28 rfl LenC.h) rfl <| wpl_q (q_field Tryz.underlying30 rfl Tryz.ti28 rfl rfl _ rfl) rfl ?_
     refine wpl_t0 (t_stP Tryz.ti28 rfl rfl zz2 (OneC.cons rfl (OneC.cons (SV.one p31.1) (OneC.cons (SV.one p31.2) oneC_nil))).h zz51 (sgnR l s ht idx b15.1 b31.1 b31.2).c rfl) (fun _ => ?_)
     refine wpl_nil <| ex_then <| wpc_seq <| wpc_region <| wpl_q (q_ldN Tryz.underlying30 rfl Tryz.ti30 rfl LenC.h) rfl ?_
     refine wpl_t0 (t_stA Tryz.ti30 rfl rfl LenC.h OneC.h LenC.h) (fun _ => ?_)
     refine wpl_q (q_pure rfl) rfl <| wpl_nil <| ex_then <| wpc_ret ?_
     refine retv2 (.inl rfl) rfl (rv_agg Tryz.underlying30 rfl Tryz.ti30 rfl (fun w h => h.atB) zz2) (rv_tmp rfl) ?_
     exact fun w1 h => ⟨(sgnR l s ht idx b15.1 b31.1 b31.2), ⟨⟨by rw [sn_y hE0]; exact sgn_eqv _ _ _ _ _ _ _, sigC_all _ _ _ _, sigP_all _ _ _⟩, ⟨p15.1, p31.1, p31.2⟩⟩, by rw [hE0], h.below, (h.sel (M' := [Ent.row b15.1 l.ss.length 22 1 (v64s l.ss), Ent.row b31.1 (sigC s ht idx (bdyB (usR l nl))).length 32 16 (v8s (sigC s ht idx (bdyB (usR l nl))).flatten), Ent.row b31.2 (sigP s ht idx).length 32 16 (v8s (sigP s ht idx).flatten)])).made (Sub.refl _) .nil⟩
end Go.Proofs.YtgnablliekgbgaaGreatDoor
namespace Go.Proofs.YtgnablliekgbgaaGreatDoor
open Go Go.PL Go.RowKit
set_option maxHeartbeats 1000000
theorem sg_both {l y z : Rv} {s : List UInt8} {ht idx : Int} (h : SgP l s ht idx y) (k : SgP l s ht idx z) : y.eqv z := eqv_trans h.1 (eqv_symm k.1)
theorem lawSigns11 (l : Rv) (s : List UInt8) (hh : Int) (idx : Int) (rs : List UInt8) (ht : Int) (w : World) (hl : l.seen w.cell?) (hnl : l.nm.length ≤ maxLen) (hs : s.length = 16) (hrs : rs.length = 16) (hG : Glb w) :
    Calls Tryz.prog 3 [.agg l.c.toArray, .agg (v8s s).toArray, .int .i64 hh, .int .i64 idx, .agg (v8s rs ++ [Value.int .i64 ht]).toArray].toArray w (Pur w (.bool true)) := by
  haveI := hl.svs.one
  have lss := hl.s.sv.le
  have lcs := hl.c.sv.le
  have lps := hl.p.sv.le
  have sss := hl.s.sv
  have scs := hl.c.sv
  have sps := hl.p.sv
  simp only [maxLen] at lss lcs lps
  haveI : LenC (v8s s) 16 := ⟨by rw [v8s_length]; exact hs⟩
  haveI : OneC (v8s s) := ⟨v8s_one _⟩
  haveI : LenC (v8s rs ++ [Value.int .i64 ht]) 17 := ⟨by rw [List.length_append, v8s_length, hrs]; rfl⟩
  haveI : OneC (v8s rs ++ [Value.int .i64 ht]) := ⟨one_v8i _ _⟩
  refine enter (m := 70) (R := Mem w [] [] []) Tryz.func3 rfl rfl (Nat.le_of_ble_eq_true rfl) (Mem.start w) ?_
  refine wpc_seq <| wpc_region ?_
  refine wpl_t (t_box rfl l.c rfl) rfl (fun b5 => ?_)
  refine wpl_t (t_box rfl (v8s s) rfl) rfl (fun b6 => ?_)
  refine wpl_t (t_box rfl (v8s rs ++ [Value.int .i64 ht]) rfl) rfl (fun b9 => ?_)
  refine wpl_q (q_pure rfl) rfl <| wpl_nil <| ex_then <| wpc_seq <| wpc_seq <| wpc_region <| wpl_q (q_ldN Tryz.underlying30 rfl Tryz.ti30 rfl LenC.h) rfl ?_
  refine wpl_t (t_pur Tryz.hb4 rfl fun w h => refRvGreat l w (hl.old h rfl) hnl) rfl (fun b18 => ?_)
  refine wpl_q (q_pure rfl) rfl ?_
  refine wpl_bool2 19 18 rfl rfl (fun hb19 => ?_) (fun hb19 => ?_)
  ·
   refine wpl_off rfl rfl rfl rfl <| wpl_off rfl rfl rfl rfl <| wpl_off rfl rfl rfl rfl <| wpl_off rfl rfl rfl rfl <| wpl_off rfl rfl rfl rfl <| wpl_off rfl rfl rfl rfl <| wpl_q (q_pure rfl) rfl <| wpl_nil <| ex_then ?_
   refine wpc_cond_t rfl ?_
   refine wpc_seq <| wpc_region <| wpl_q (q_pure rfl) rfl <| wpl_nil <| ex_then <| wpc_ret ?_
   refine ex_then_ret ?_
   refine ret1 (.inl rfl) rfl rfl ?_
   exact fun w h => ⟨by first | rfl | simp, h.below⟩
  ·
   have hk : RLim l := lim_no (l := l) hb19
   refine wpl_on rfl rfl <| wpl_q (q_pure rfl) rfl <| wpl_on rfl rfl <| wpl_q (q_pure rfl) rfl <| wpl_on rfl rfl <| wpl_q (q_pure rfl) rfl ?_
   refine wpl_bool2 22 21 rfl rfl (fun hb22 => ?_) (fun hb22 => ?_)
   ·
    try simp only [decide_eq_true_eq, decide_eq_false_iff_not, Bool.and_eq_true, Bool.or_eq_true, beq_iff_eq, bne_iff_ne, ne_eq, Bool.not_eq_true', Bool.not_eq_false', Decidable.not_not] at hb22
    refine wpl_on rfl rfl <| wpl_q (q_pure rfl) rfl <| wpl_on rfl rfl <| wpl_q (q_pure rfl) rfl <| wpl_on rfl rfl <| wpl_q (q_pure rfl) rfl <| wpl_q (q_pure rfl) rfl <| wpl_nil <| ex_then ?_
    refine wpc_cond rfl (fun hc26 => ?_) (fun hc26 => ?_)
    ·
     try simp only [decide_eq_true_eq, decide_eq_false_iff_not, Bool.and_eq_true, Bool.or_eq_true, beq_iff_eq, bne_iff_ne, ne_eq, Bool.not_eq_true', Bool.not_eq_false', Decidable.not_not] at hc26
     refine wpc_seq <| wpc_region <| wpl_q (q_pure rfl) rfl <| wpl_nil <| ex_then <| wpc_ret ?_
     refine ex_then_ret ?_
     refine ret1 (.inl rfl) rfl rfl ?_
     exact fun w h => ⟨by first | rfl | simp, h.below⟩
    ·
     try simp only [decide_eq_true_eq, decide_eq_false_iff_not, Bool.and_eq_true, Bool.or_eq_true, beq_iff_eq, bne_iff_ne, ne_eq, Bool.not_eq_true', Bool.not_eq_false', Decidable.not_not] at hc26
     refine wpc_skip <| ex_then <| wpc_seq <| wpc_region <| wpl_q (q_ldN Tryz.underlying30 rfl Tryz.ti30 rfl LenC.h) rfl ?_
     refine wpl_tp (t_callP3 Tryz.hb5 rfl fun w h => refRvTwin l w (hl.old h rfl) hnl hk.ss hk.c hk.p) rfl (fun b28 p28 => ?_)
     haveI : OneC (l.re b28).c := Rv.svs.one (l := l.re b28) p28
     refine wpl_t (t_alloc Tryz.ti30 Rv.z.c rfl) rfl (fun b11 => ?_)
     refine wpl_t0 (t_stA Tryz.ti30 rfl rfl LenC.h OneC.h LenC.h) (fun _ => ?_)
     refine wpl_nil <| ex_then <| wpc_seq <| wpc_region <| wpl_q (q_ldN Tryz.underlying30 rfl Tryz.ti30 rfl LenC.h) rfl <| wpl_q (q_ldN Tryz.underlying32 rfl Tryz.ti32 rfl LenC.h) rfl <| wpl_q (q_pure rfl) rfl <| wpl_q (q_pure rfl) rfl ?_
     refine wpl_tp (t_callP3 Tryz.hb6 rfl fun w h => rvSign l s hh idx w (hl.old h rfl) hnl hs hk (glob h hG)) rfl (fun b34 p34 => ?_)
     haveI := p34.2.one
     refine wpl_q (q_pure rfl) rfl <| wpl_q (q_pure rfl) rfl <| wpl_q (q_pure rfl) rfl ?_
     refine wpl_t (t_alloc Tryz.ti30 Rv.z.c rfl) rfl (fun b12 => ?_)
     refine wpl_t0 (t_stA Tryz.ti30 rfl rfl LenC.h OneC.h LenC.h) (fun _ => ?_)
     refine wpl_q (q_pure rfl) rfl <| wpl_nil <| ex_then <| wpc_seq <| wpc_region <| wpl_q (q_ldN Tryz.underlying30 rfl Tryz.ti30 rfl LenC.h) rfl <| wpl_q (q_ldN Tryz.underlying32 rfl Tryz.ti32 rfl LenC.h) rfl <| wpl_q (q_pure rfl) rfl <| wpl_q (q_pure rfl) rfl ?_
     refine wpl_tp (t_callP3 Tryz.hb7 rfl fun w h => refRvSign l s hh idx w (hl.old h rfl) hnl hs hk) rfl (fun b42 p42 => ?_)
     haveI := p42.2.one
     have hye := sg_both p34.1 p42.1
     refine wpl_q (q_pure rfl) rfl <| wpl_q (q_pure rfl) rfl <| wpl_q (q_pure rfl) rfl ?_
     refine wpl_t (t_alloc Tryz.ti30 Rv.z.c rfl) rfl (fun b14 => ?_)
     refine wpl_t0 (t_stA Tryz.ti30 rfl rfl LenC.h OneC.h LenC.h) (fun _ => ?_)
     refine wpl_q (q_pure rfl) rfl <| wpl_nil <| ex_then <| wpc_seq ?_
     refine wpc_draw 18 zz8 (fun _ h => h.drew) ?_
     refine wpd_q 0 rfl zz8 trivial (q_ldN Tryz.underlying30 rfl Tryz.ti30 rfl LenC.h) rfl (fun _ h => h) ?_
     refine wpd_q 1 rfl zz8 trivial (q_ldN Tryz.underlying30 rfl Tryz.ti30 rfl LenC.h) rfl (fun _ h => h) ?_
     refine wpd_t 2 rfl zz8 trivial (t_pur (v := .bool true) Tryz.hb8 rfl fun w h => by
       have q := refRvSame b34 b42 w ⟨h.seen_row zz7, h.seen_row zz7, p34.1.2.1, h.seen_row zz7, p34.1.2.2⟩ ⟨h.seen_row zz7, h.seen_row zz7, p42.1.2.1, h.seen_row zz7, p42.1.2.2⟩
       rwa [decide_eq_true hye] at q) rfl (fun _ => sk0) (fun b47 => ?_)
     refine wpd_p 3 rfl zz8 trivial (q_pure rfl) rfl sk0 ?_
     refine wpd_p 4 rfl zz8 ⟨_, rfl, rfl⟩ (q_pure rfl) rfl sk0 ?_
     refine wpd_p 5 rfl zz8 ⟨_, rfl, rfl⟩ (q_pure rfl) rfl sk0 ?_
     refine wpd_p 6 rfl zz8 ⟨_, rfl, rfl⟩ (q_tru (q_eqI rfl rfl) rfl) rfl sk0 ?_
     refine wpd_p 7 rfl zz8 trivial (q_pure rfl) rfl sk0 ?_
     refine wpd_p 8 rfl zz8 trivial (q_pure rfl) rfl sk0 ?_
     refine wpd_q 9 rfl zz8 ⟨_, rfl, rfl⟩ (q_ldN Tryz.underlying30 rfl Tryz.ti30 rfl LenC.h) rfl (fun _ h => h) ?_
     refine wpd_q 10 rfl zz8 ⟨_, rfl, rfl⟩ (q_ldN Tryz.underlying34 rfl Tryz.ti34 rfl LenC.h) rfl (fun _ h => h) ?_
     refine wpd_q 12 rfl zz8 ⟨_, rfl, rfl⟩ (q_ldN Tryz.underlying30 rfl Tryz.ti30 rfl LenC.h) rfl (fun _ h => h) ?_
     refine wpd_q 13 rfl zz8 ⟨_, rfl, rfl⟩ (q_ldN Tryz.underlying34 rfl Tryz.ti34 rfl LenC.h) rfl (fun _ h => h) ?_
     refine wpd_t 11 rfl zz8 ⟨_, rfl, rfl⟩ (t_pur Tryz.hb9 rfl fun w h => rvVerify l rs ht w (hl.old h rfl) hnl hrs hk (glob h hG)) rfl (fun _ => sk0) (fun b56 => ?_)
     refine wpd_t 14 rfl zz8 ⟨_, rfl, rfl⟩ (t_pur Tryz.hb10 rfl fun w h => refRvVerify l rs ht w (hl.old h rfl) hnl hrs hk) rfl (fun _ => sk0) (fun b59 => ?_)
     refine wpd_p 15 rfl zz8 ⟨_, rfl, rfl⟩ (q_tru (q_eqI rfl rfl) rfl) rfl sk0 ?_
     refine wpd_p 16 rfl zz8 trivial (q_pure rfl) rfl sk0 ?_
     refine wpd_p 17 rfl zz8 trivial (q_pure rfl) rfl sk0 ?_
     refine wpd_done zz8 ?_
     refine ex_then <| wpc_seq <| wpc_region <| wpl_q (q_ldN Tryz.underlying30 rfl Tryz.ti30 rfl LenC.h) rfl ?_
     refine wpl_tp (t_callL [.row b34.sv b34.ss.length 22 1 (v64s b34.ss), .row b34.cv b34.chs.length 32 16 (v8s b34.chs.flatten)] [.blk b11 30 (l.re b28).c, .row b28.1 l.ss.length 22 1 (v64s l.ss), .row b28.2.1 l.chs.length 32 16 (v8s l.chs.flatten), .row b28.2.2 l.ps.length 32 16 (v8s l.ps.flatten), .blk b5 30 l.c] [.row b34.sv b34.ss.length 22 1 (v64s b34.ss), .row b34.cv b34.chs.length 32 16 (v8s b34.chs.flatten), .blk b11 30 (l.re b28).c, .row b28.1 l.ss.length 22 1 (v64s l.ss), .row b28.2.1 l.chs.length 32 16 (v8s l.chs.flatten), .row b28.2.2 l.ps.length 32 16 (v8s l.ps.flatten), .blk b5 30 l.c] (fun x => [.row b34.sv b34.ss.length 22 1 (v64s x.1), .row b34.cv b34.chs.length 32 16 (v8s x.2), .blk b11 30 (l.re b28).c, .row b28.1 l.ss.length 22 1 (v64s l.ss), .row b28.2.1 l.chs.length 32 16 (v8s l.chs.flatten), .row b28.2.2 l.ps.length 32 16 (v8s l.ps.flatten), .blk b5 30 l.c]) rfl inferInstance (fun _ => rfl) Tryz.hb11 rfl fun w h h2 => spoil b34 w h2 p34.2 p34.1.2.1) rfl (fun b63 p63 => ?_)
     refine wpl_nil <| ex_then <| wpc_seq <| wpc_region <| wpl_q (q_pure rfl) rfl <| wpl_q (q_pure rfl) rfl <| wpl_on rfl rfl <| wpl_q (q_ldN Tryz.underlying30 rfl Tryz.ti30 rfl LenC.h) rfl <| wpl_on rfl rfl <| wpl_q (q_ldN Tryz.underlying30 rfl Tryz.ti30 rfl LenC.h) rfl <| wpl_on rfl rfl ?_
     refine wpl_t (t_pur (v := .bool true) Tryz.hb8 rfl fun w h => by
       have q := refRvSame l (l.re b28) w (hl.old h rfl) (re_seen (h.seen_row zz7) (h.seen_row zz7) (h.seen_row zz7) hl.lc hl.lp)
       rwa [decide_eq_true (re_eqv l b28)] at q) rfl (fun b68 => ?_)
     refine wpl_q (q_pure rfl) rfl <| wpl_q (q_pure rfl) rfl <| wpl_nil <| ex_then <| wpc_ret ?_
     refine ret1 (.inl rfl) rfl rfl ?_
     exact fun w h => ⟨by first | rfl | simp, h.below⟩
   ·
    try simp only [decide_eq_true_eq, decide_eq_false_iff_not, Bool.and_eq_true, Bool.or_eq_true, beq_iff_eq, bne_iff_ne, ne_eq, Bool.not_eq_true', Bool.not_eq_false', Decidable.not_not] at hb22
    refine wpl_off rfl rfl rfl rfl <| wpl_off rfl rfl rfl rfl <| wpl_on rfl rfl <| wpl_q (q_pure rfl) rfl <| wpl_q (q_pure rfl) rfl <| wpl_nil <| ex_then ?_
    refine wpc_cond_f rfl ?_
    refine wpc_skip <| ex_then <| wpc_seq <| wpc_region <| wpl_q (q_ldN Tryz.underlying30 rfl Tryz.ti30 rfl LenC.h) rfl ?_
    refine wpl_tp (t_callP3 Tryz.hb5 rfl fun w h => refRvTwin l w (hl.old h rfl) hnl hk.ss hk.c hk.p) rfl (fun b28 p28 => ?_)
    haveI : OneC (l.re b28).c := Rv.svs.one (l := l.re b28) p28
    refine wpl_t (t_alloc Tryz.ti30 Rv.z.c rfl) rfl (fun b11 => ?_)
    refine wpl_t0 (t_stA Tryz.ti30 rfl rfl LenC.h OneC.h LenC.h) (fun _ => ?_)
    refine wpl_nil <| ex_then <| wpc_seq <| wpc_region <| wpl_q (q_ldN Tryz.underlying30 rfl Tryz.ti30 rfl LenC.h) rfl <| wpl_q (q_ldN Tryz.underlying32 rfl Tryz.ti32 rfl LenC.h) rfl <| wpl_q (q_pure rfl) rfl <| wpl_q (q_pure rfl) rfl ?_
    refine wpl_tp (t_callP3 Tryz.hb6 rfl fun w h => rvSign l s hh idx w (hl.old h rfl) hnl hs hk (glob h hG)) rfl (fun b34 p34 => ?_)
    haveI := p34.2.one
    refine wpl_q (q_pure rfl) rfl <| wpl_q (q_pure rfl) rfl <| wpl_q (q_pure rfl) rfl ?_
    refine wpl_t (t_alloc Tryz.ti30 Rv.z.c rfl) rfl (fun b12 => ?_)
    refine wpl_t0 (t_stA Tryz.ti30 rfl rfl LenC.h OneC.h LenC.h) (fun _ => ?_)
    refine wpl_q (q_pure rfl) rfl <| wpl_nil <| ex_then <| wpc_seq <| wpc_region <| wpl_q (q_ldN Tryz.underlying30 rfl Tryz.ti30 rfl LenC.h) rfl <| wpl_q (q_ldN Tryz.underlying32 rfl Tryz.ti32 rfl LenC.h) rfl <| wpl_q (q_pure rfl) rfl <| wpl_q (q_pure rfl) rfl ?_
    refine wpl_tp (t_callP3 Tryz.hb7 rfl fun w h => refRvSign l s hh idx w (hl.old h rfl) hnl hs hk) rfl (fun b42 p42 => ?_)
    haveI := p42.2.one
    have hye := sg_both p34.1 p42.1
    refine wpl_q (q_pure rfl) rfl <| wpl_q (q_pure rfl) rfl <| wpl_q (q_pure rfl) rfl ?_
    refine wpl_t (t_alloc Tryz.ti30 Rv.z.c rfl) rfl (fun b14 => ?_)
    refine wpl_t0 (t_stA Tryz.ti30 rfl rfl LenC.h OneC.h LenC.h) (fun _ => ?_)
    refine wpl_q (q_pure rfl) rfl <| wpl_nil <| ex_then <| wpc_seq ?_
    refine wpc_draw 18 zz8 (fun _ h => h.drew) ?_
    refine wpd_q 0 rfl zz8 trivial (q_ldN Tryz.underlying30 rfl Tryz.ti30 rfl LenC.h) rfl (fun _ h => h) ?_
    refine wpd_q 1 rfl zz8 trivial (q_ldN Tryz.underlying30 rfl Tryz.ti30 rfl LenC.h) rfl (fun _ h => h) ?_
    refine wpd_t 2 rfl zz8 trivial (t_pur (v := .bool true) Tryz.hb8 rfl fun w h => by
      have q := refRvSame b34 b42 w ⟨h.seen_row zz7, h.seen_row zz7, p34.1.2.1, h.seen_row zz7, p34.1.2.2⟩ ⟨h.seen_row zz7, h.seen_row zz7, p42.1.2.1, h.seen_row zz7, p42.1.2.2⟩
      rwa [decide_eq_true hye] at q) rfl (fun _ => sk0) (fun b47 => ?_)
    refine wpd_p 3 rfl zz8 trivial (q_pure rfl) rfl sk0 ?_
    refine wpd_p 4 rfl zz8 ⟨_, rfl, rfl⟩ (q_pure rfl) rfl sk0 ?_
    refine wpd_p 5 rfl zz8 ⟨_, rfl, rfl⟩ (q_pure rfl) rfl sk0 ?_
    refine wpd_p 6 rfl zz8 ⟨_, rfl, rfl⟩ (q_tru (q_eqI rfl rfl) rfl) rfl sk0 ?_
    refine wpd_p 7 rfl zz8 trivial (q_pure rfl) rfl sk0 ?_
    refine wpd_p 8 rfl zz8 trivial (q_pure rfl) rfl sk0 ?_
    refine wpd_q 9 rfl zz8 ⟨_, rfl, rfl⟩ (q_ldN Tryz.underlying30 rfl Tryz.ti30 rfl LenC.h) rfl (fun _ h => h) ?_
    refine wpd_q 10 rfl zz8 ⟨_, rfl, rfl⟩ (q_ldN Tryz.underlying34 rfl Tryz.ti34 rfl LenC.h) rfl (fun _ h => h) ?_
    refine wpd_q 12 rfl zz8 ⟨_, rfl, rfl⟩ (q_ldN Tryz.underlying30 rfl Tryz.ti30 rfl LenC.h) rfl (fun _ h => h) ?_
    refine wpd_q 13 rfl zz8 ⟨_, rfl, rfl⟩ (q_ldN Tryz.underlying34 rfl Tryz.ti34 rfl LenC.h) rfl (fun _ h => h) ?_
    refine wpd_t 11 rfl zz8 ⟨_, rfl, rfl⟩ (t_pur Tryz.hb9 rfl fun w h => rvVerify l rs ht w (hl.old h rfl) hnl hrs hk (glob h hG)) rfl (fun _ => sk0) (fun b56 => ?_)
    refine wpd_t 14 rfl zz8 ⟨_, rfl, rfl⟩ (t_pur Tryz.hb10 rfl fun w h => refRvVerify l rs ht w (hl.old h rfl) hnl hrs hk) rfl (fun _ => sk0) (fun b59 => ?_)
    refine wpd_p 15 rfl zz8 ⟨_, rfl, rfl⟩ (q_tru (q_eqI rfl rfl) rfl) rfl sk0 ?_
    refine wpd_p 16 rfl zz8 trivial (q_pure rfl) rfl sk0 ?_
    refine wpd_p 17 rfl zz8 trivial (q_pure rfl) rfl sk0 ?_
    refine wpd_done zz8 ?_
    refine ex_then <| wpc_seq <| wpc_region <| wpl_q (q_ldN Tryz.underlying30 rfl Tryz.ti30 rfl LenC.h) rfl ?_
    refine wpl_tp (t_callL [.row b34.sv b34.ss.length 22 1 (v64s b34.ss), .row b34.cv b34.chs.length 32 16 (v8s b34.chs.flatten)] [.blk b11 30 (l.re b28).c, .row b28.1 l.ss.length 22 1 (v64s l.ss), .row b28.2.1 l.chs.length 32 16 (v8s l.chs.flatten), .row b28.2.2 l.ps.length 32 16 (v8s l.ps.flatten), .blk b5 30 l.c] [.row b34.sv b34.ss.length 22 1 (v64s b34.ss), .row b34.cv b34.chs.length 32 16 (v8s b34.chs.flatten), .blk b11 30 (l.re b28).c, .row b28.1 l.ss.length 22 1 (v64s l.ss), .row b28.2.1 l.chs.length 32 16 (v8s l.chs.flatten), .row b28.2.2 l.ps.length 32 16 (v8s l.ps.flatten), .blk b5 30 l.c] (fun x => [.row b34.sv b34.ss.length 22 1 (v64s x.1), .row b34.cv b34.chs.length 32 16 (v8s x.2), .blk b11 30 (l.re b28).c, .row b28.1 l.ss.length 22 1 (v64s l.ss), .row b28.2.1 l.chs.length 32 16 (v8s l.chs.flatten), .row b28.2.2 l.ps.length 32 16 (v8s l.ps.flatten), .blk b5 30 l.c]) rfl inferInstance (fun _ => rfl) Tryz.hb11 rfl fun w h h2 => spoil b34 w h2 p34.2 p34.1.2.1) rfl (fun b63 p63 => ?_)
    refine wpl_nil <| ex_then <| wpc_seq <| wpc_region <| wpl_q (q_pure rfl) rfl <| wpl_q (q_pure rfl) rfl <| wpl_on rfl rfl <| wpl_q (q_ldN Tryz.underlying30 rfl Tryz.ti30 rfl LenC.h) rfl <| wpl_on rfl rfl <| wpl_q (q_ldN Tryz.underlying30 rfl Tryz.ti30 rfl LenC.h) rfl <| wpl_on rfl rfl ?_
    refine wpl_t (t_pur (v := .bool true) Tryz.hb8 rfl fun w h => by
      have q := refRvSame l (l.re b28) w (hl.old h rfl) (re_seen (h.seen_row zz7) (h.seen_row zz7) (h.seen_row zz7) hl.lc hl.lp)
      rwa [decide_eq_true (re_eqv l b28)] at q) rfl (fun b68 => ?_)
    refine wpl_q (q_pure rfl) rfl <| wpl_q (q_pure rfl) rfl <| wpl_nil <| ex_then <| wpc_ret ?_
    refine ret1 (.inl rfl) rfl rfl ?_
    exact fun w h => ⟨by first | rfl | simp, h.below⟩
end Go.Proofs.YtgnablliekgbgaaGreatDoor
