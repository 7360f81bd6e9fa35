/- What the statement reaches, in order. -/
import Derived.Test.YtjpfhkjmjnjggaaDoorMSTI
import Derived.Test.YtjpfhkjmjnjggaaDoorMSPLI
import Derived.Test.YtjpfhkjmjnjggaaDoorMSPLZ
import Derived.Test.YtjpfhkjmjnjggaaDoorMSPLL
import Derived.Test.YtjpfhkjmjnjggaaDoorMSPLN
import Derived.Test.YtjpfhkjmjnjggaaDoorMSPLP
import Derived.WalkKit
import Derived.ProofKit
import Derived.OpenShut
import Derived.ChangeOld
import Derived.Below
import Derived.Carry
import Derived.LaidMore
import Derived.Deep.DeepHandedRow
import Derived.Deep.DeepWitnessRowRef
import Derived.Lib.LaidTab
import Derived.Stop.Joined
import Derived.Test.YtjpfhkjmjnjggaaDoorMS2
set_option linter.unusedSimpArgs false
set_option linter.unusedVariables false
set_option maxRecDepth 100000
namespace Go.Proofs.YtjpfhkjmjnjggaaDoor
open Go Go.PL Go.RowKit
theorem built_sig {v1 v2 : Value} {n1 n2 : Nat} (h1 : SV v1 n1) (h2 : SV v2 n2) (idx : Int) : Tryd.prog.built 66 [(0, .int .i64 idx), (1, v1), (2, v2)] = some #[.int .i64 idx, v1, v2] := by
  obtain ⟨a1, c1, rfl, _⟩ := h1
  obtain ⟨a2, c2, rfl, _⟩ := h2
  kernel_rfl
theorem sig_one {v1 v2 : Value} {n1 n2 : Nat} (h1 : SV v1 n1) (h2 : SV v2 n2) (idx : Int) : ∀ u ∈ [Value.int .i64 idx, v1, v2], u.oneCell' = true := by
  intro u hu
  simp only [List.mem_cons, List.not_mem_nil, or_false] at hu
  rcases hu with rfl | rfl | rfl
  · rfl
  · exact h1.one
  · exact h2.one
theorem key_len (rs : List UInt8) (ht : Int) (h : rs.length = 16) : (v8s rs ++ [Value.int .i64 ht]).length = 17 := by rw [List.length_append, v8s_length, h]; rfl
theorem refSame7 (cv pv : Value) (chs ps : List (List UInt8)) (idx : Int) (dv qv : Value) (dhs qs : List (List UInt8)) (jdx : Int) (w : World) (hcv : Seen w.cell? cv chs.length 16 (v8s chs.flatten)) (hlchs : ∀ x ∈ chs, x.length = 16) (hpv : Seen w.cell? pv ps.length 16 (v8s ps.flatten)) (hlps : ∀ x ∈ ps, x.length = 16) (hdv : Seen w.cell? dv dhs.length 16 (v8s dhs.flatten)) (hldhs : ∀ x ∈ dhs, x.length = 16) (hqv : Seen w.cell? qv qs.length 16 (v8s qs.flatten)) (hlqs : ∀ x ∈ qs, x.length = 16)  :
    Calls Tryd.prog 46 [.agg #[.int .i64 idx, cv, pv], .agg #[.int .i64 jdx, dv, qv]].toArray w (Pur w (.bool (decide (idx = jdx ∧ chs = dhs ∧ ps = qs)))) := by
  have scv := hcv.sv
  have lcv := scv.le
  simp only [maxLen] at lcv
  have spv := hpv.sv
  have lpv := spv.le
  simp only [maxLen] at lpv
  have sdv := hdv.sv
  have ldv := sdv.le
  simp only [maxLen] at ldv
  have sqv := hqv.sv
  have lqv := sqv.le
  simp only [maxLen] at lqv
  refine enter (m := 24) (R := Mem w [] [] []) Tryd.func46 rfl rfl (Nat.le_of_ble_eq_true rfl) (Mem.start w) ?_
  refine wpc_seq <| wpc_region ?_
  refine wpl_t (t_box rfl [.int .i64 idx, cv, pv] rfl) rfl (fun b2 => ?_)
  refine wpl_t (t_box rfl [.int .i64 jdx, dv, qv] rfl) rfl (fun b3 => ?_)
  refine wpl_q (q_pure rfl) rfl <| wpl_nil <| ex_then <| wpc_seq <| wpc_region <| wpl_q (q_field Tryd.underlying66 rfl Tryd.ti3 rfl rfl _ rfl) rfl ?_
  refine wpl_q (q_ld Tryd.underlying3 rfl rfl zz34) rfl ?_
  refine wpl_q (q_field Tryd.underlying66 rfl Tryd.ti3 rfl rfl _ rfl) rfl ?_
  refine wpl_q (q_ld Tryd.underlying3 rfl rfl zz34) rfl ?_
  refine wpl_q (q_pure rfl) rfl <| wpl_q (q_pure rfl) rfl ?_
  refine wpl_bool2 10 9 rfl rfl (fun hb10 => ?_) (fun hb10 => ?_)
  ·
   try simp only [decide_eq_true_eq, decide_eq_false_iff_not, Bool.and_eq_true, Bool.or_eq_true, beq_iff_eq, bne_iff_ne, ne_eq, Bool.not_eq_true', Bool.not_eq_false', Decidable.not_not] at hb10
   refine wpl_on rfl rfl <| wpl_q (q_field Tryd.underlying66 rfl Tryd.ti64 rfl rfl _ rfl) rfl <| wpl_on rfl rfl <| wpl_q (q_ld Tryd.underlying64 rfl rfl rfl) rfl <| wpl_on rfl rfl <| wpl_q (q_field Tryd.underlying66 rfl Tryd.ti64 rfl rfl _ rfl) rfl <| wpl_on rfl rfl <| wpl_q (q_ld Tryd.underlying64 rfl rfl rfl) rfl <| wpl_on rfl rfl ?_
   refine wpl_t (t_pur Tryd.hb70 rfl fun w h => refSame6 _ _ _ _ w zz12 zz36 zz12 zz36) rfl (fun b15 => ?_)
   refine wpl_q (q_pure rfl) rfl <| wpl_q (q_pure rfl) rfl ?_
   refine wpl_bool2 17 15 rfl rfl (fun hb17 => ?_) (fun hb17 => ?_)
   ·
    try simp only [decide_eq_true_eq, decide_eq_false_iff_not, Bool.and_eq_true, Bool.or_eq_true, beq_iff_eq, bne_iff_ne, ne_eq, Bool.not_eq_true', Bool.not_eq_false', Decidable.not_not] at hb17
    refine wpl_on rfl rfl <| wpl_q (q_field Tryd.underlying66 rfl Tryd.ti64 rfl rfl _ rfl) rfl <| wpl_on rfl rfl <| wpl_q (q_ld Tryd.underlying64 rfl rfl rfl) rfl <| wpl_on rfl rfl <| wpl_q (q_field Tryd.underlying66 rfl Tryd.ti64 rfl rfl _ rfl) rfl <| wpl_on rfl rfl <| wpl_q (q_ld Tryd.underlying64 rfl rfl rfl) rfl <| wpl_on rfl rfl ?_
    refine wpl_t (t_pur Tryd.hb70 rfl fun w h => refSame6 _ _ _ _ w zz12 zz36 zz12 zz36) rfl (fun b22 => ?_)
    refine wpl_q (q_pure rfl) rfl <| wpl_q (q_pure rfl) rfl <| wpl_nil <| ex_then <| wpc_ret ?_
    refine ret1 (.inl rfl) rfl rfl ?_
    exact fun w h => ⟨by simp_all, h.below⟩
   ·
    try simp only [decide_eq_true_eq, decide_eq_false_iff_not, Bool.and_eq_true, Bool.or_eq_true, beq_iff_eq, bne_iff_ne, ne_eq, Bool.not_eq_true', Bool.not_eq_false', Decidable.not_not] at hb17
    refine wpl_off rfl rfl rfl rfl <| wpl_off rfl rfl rfl rfl <| wpl_off rfl rfl rfl rfl <| wpl_off rfl rfl rfl rfl <| wpl_off rfl rfl rfl rfl <| wpl_q (q_pure rfl) rfl <| wpl_q (q_pure rfl) rfl <| wpl_nil <| ex_then <| wpc_ret ?_
    refine ret1 (.inl rfl) rfl rfl ?_
    exact fun w h => ⟨by simp_all, h.below⟩
  ·
   try simp only [decide_eq_true_eq, decide_eq_false_iff_not, Bool.and_eq_true, Bool.or_eq_true, beq_iff_eq, bne_iff_ne, ne_eq, Bool.not_eq_true', Bool.not_eq_false', Decidable.not_not] at hb10
   refine wpl_off rfl rfl rfl rfl <| wpl_off rfl rfl rfl rfl <| wpl_off rfl rfl rfl rfl <| wpl_off rfl rfl rfl rfl <| wpl_off rfl rfl rfl rfl <| wpl_q (q_pure rfl) rfl <| wpl_q (q_pure rfl) rfl <| wpl_off rfl rfl rfl rfl <| wpl_off rfl rfl rfl rfl <| wpl_off rfl rfl rfl rfl <| wpl_off rfl rfl rfl rfl <| wpl_off rfl rfl rfl rfl ?_
   refine wpl_q (q_pure rfl) rfl <| wpl_q (q_pure rfl) rfl <| wpl_nil <| ex_then <| wpc_ret ?_
   refine ret1 (.inl rfl) rfl rfl ?_
   exact fun w h => ⟨by simp_all, h.below⟩
theorem refTwin7 (cv pv : Value) (chs ps : List (List UInt8)) (idx : Int) (w : World) (hcv : Seen w.cell? cv chs.length 16 (v8s chs.flatten)) (hlchs : ∀ x ∈ chs, x.length = 16) (hpv : Seen w.cell? pv ps.length 16 (v8s ps.flatten)) (hlps : ∀ x ∈ ps, x.length = 16) (hnc : chs.length ≤ 200) (hnp : ps.length ≤ 200) :
    Calls Tryd.prog 37 [.agg #[.int .i64 idx, cv, pv]].toArray w (GivesP w (fun x : Value × Value => SV x.1 chs.length ∧ SV x.2 ps.length) (fun x : Value × Value => .agg #[.int .i64 idx, x.1, x.2]) (fun x => [.row x.1 chs.length 61 16 (v8s chs.flatten), .row x.2 ps.length 61 16 (v8s ps.flatten)]) (fun _ => [])) := by
  have scv := hcv.sv
  have lcv := scv.le
  simp only [maxLen] at lcv
  have spv := hpv.sv
  have lpv := spv.le
  simp only [maxLen] at lpv
  refine enter (m := 14) (R := Mem w [] [] []) Tryd.func37 rfl rfl (Nat.le_of_ble_eq_true rfl) (Mem.start w) ?_
  refine wpc_seq <| wpc_region ?_
  refine wpl_t (t_box rfl [.int .i64 idx, cv, pv] rfl) rfl (fun b1 => ?_)
  refine wpl_t (t_alloc Tryd.ti66 _ rfl) rfl (fun b2 => ?_)
  refine wpl_nil <| ex_then <| wpc_seq ?_
  refine wpc_draw 11 zz6 (fun _ h => h.drew) ?_
  refine wpd_p 0 rfl zz6 trivial (q_field Tryd.underlying66 rfl Tryd.ti3 rfl rfl _ rfl) rfl sk0 ?_
  refine wpd_q 1 rfl zz6 trivial (q_ld Tryd.underlying3 rfl rfl zz34) rfl (fun _ h => h) ?_
  refine wpd_p 3 rfl zz6 trivial (q_field Tryd.underlying66 rfl Tryd.ti64 rfl rfl _ rfl) rfl sk0 ?_
  refine wpd_q 4 rfl zz6 trivial (q_ld Tryd.underlying64 rfl rfl rfl) rfl (fun _ h => h) ?_
  refine wpd_p 7 rfl zz6 trivial (q_field Tryd.underlying66 rfl Tryd.ti64 rfl rfl _ rfl) rfl sk0 ?_
  refine wpd_q 8 rfl zz6 trivial (q_ld Tryd.underlying64 rfl rfl rfl) rfl (fun _ h => h) ?_
  refine wpd_two 2 6 zz6 ?_ ?_
  ·
   refine wpa_tp 2 rfl trivial (t_bs0W Tryd.underlying64 Tryd.ti61) rfl (fun _ => (fun w h => .inr (h.sub SubC.h SubC.h))) (fun b5 p5 => ?_)
   refine wpd_two 5 6 zz6 ?_ ?_
   ·
    refine wpa_tp 5 rfl trivial (t_ap0 Tryd.underlying64 Tryd.ti61 rfl zz19 rfl rfl (fun w h => zz11) (v8s_one _) zz1 zz1) rfl (fun _ => (fun w h => .inr (h.sub SubC.h SubC.h))) (fun b8 p8 => ?_)
    refine wpd_tp 6 rfl zz6 trivial (t_bs0W Tryd.underlying64 Tryd.ti61) rfl (fun _ => (fun w h => .inr (h.sub SubC.h SubC.h))) (fun b9 p9 => ?_)
    refine wpd_tp 9 rfl zz6 trivial (t_ap0 Tryd.underlying64 Tryd.ti61 rfl zz19 rfl rfl (fun w h => zz11) (v8s_one _) zz1 zz1) rfl (fun _ => (fun w h => .inr (h.sub SubC.h SubC.h))) (fun b12 p12 => ?_)
    refine wpd_p 10 rfl zz6 trivial (q_build (cs := [.int .i64 idx, b8, b12]) rfl (built_sig p8 p12 idx)) rfl (fun w h => .inr (h.sub SubC.h SubC.h)) ?_
    refine wpd_t0 11 rfl zz6 trivial (t_stA Tryd.ti66 rfl rfl zz2 (sig_one p8 p12 idx) zz2) (fun _ => skk rfl) (fun _ => ?_)
    refine wpd_done zz6 ?_
    refine ex_then <| wpc_ret ?_
    refine retv1 (.inl rfl) rfl (rv_agg Tryd.underlying66 rfl Tryd.ti66 rfl (fun w h => h.atB) zz2) ?_
    exact fun w h => ⟨(b8, b12), ⟨p8, p12⟩, rfl, h.below, by first | exact h.made (.keep (.keep .nil)) .nil | exact h.swap.made (.keep (.keep .nil)) .nil⟩
   ·
    refine wpa_tp 6 rfl trivial (t_bs0W Tryd.underlying64 Tryd.ti61) rfl (fun _ => (fun w h => .inr (h.sub SubC.h SubC.h))) (fun b9 p9 => ?_)
    refine wpd_tp 5 rfl zz6 trivial (t_ap0 Tryd.underlying64 Tryd.ti61 rfl zz19 rfl rfl (fun w h => zz11) (v8s_one _) zz1 zz1) rfl (fun _ => (fun w h => .inr (h.sub SubC.h SubC.h))) (fun b8 p8 => ?_)
    refine wpd_tp 9 rfl zz6 trivial (t_ap0 Tryd.underlying64 Tryd.ti61 rfl zz19 rfl rfl (fun w h => zz11) (v8s_one _) zz1 zz1) rfl (fun _ => (fun w h => .inr (h.sub SubC.h SubC.h))) (fun b12 p12 => ?_)
    refine wpd_p 10 rfl zz6 trivial (q_build (cs := [.int .i64 idx, b8, b12]) rfl (built_sig p8 p12 idx)) rfl (fun w h => .inr (h.sub SubC.h SubC.h)) ?_
    refine wpd_t0 11 rfl zz6 trivial (t_stA Tryd.ti66 rfl rfl zz2 (sig_one p8 p12 idx) zz2) (fun _ => skk rfl) (fun _ => ?_)
    refine wpd_done zz6 ?_
    refine ex_then <| wpc_ret ?_
    refine retv1 (.inl rfl) rfl (rv_agg Tryd.underlying66 rfl Tryd.ti66 rfl (fun w h => h.atB) zz2) ?_
    exact fun w h => ⟨(b8, b12), ⟨p8, p12⟩, rfl, h.below, by first | exact h.made (.keep (.keep .nil)) .nil | exact h.swap.made (.keep (.keep .nil)) .nil⟩
  ·
   refine wpa_tp 6 rfl trivial (t_bs0W Tryd.underlying64 Tryd.ti61) rfl (fun _ => (fun w h => .inr (h.sub SubC.h SubC.h))) (fun b9 p9 => ?_)
   refine wpd_tp 2 rfl zz6 trivial (t_bs0W Tryd.underlying64 Tryd.ti61) rfl (fun _ => (fun w h => .inr (h.sub SubC.h SubC.h))) (fun b5 p5 => ?_)
   refine wpd_tp 5 rfl zz6 trivial (t_ap0 Tryd.underlying64 Tryd.ti61 rfl zz19 rfl rfl (fun w h => zz11) (v8s_one _) zz1 zz1) rfl (fun _ => (fun w h => .inr (h.sub SubC.h SubC.h))) (fun b8 p8 => ?_)
   refine wpd_tp 9 rfl zz6 trivial (t_ap0 Tryd.underlying64 Tryd.ti61 rfl zz19 rfl rfl (fun w h => zz11) (v8s_one _) zz1 zz1) rfl (fun _ => (fun w h => .inr (h.sub SubC.h SubC.h))) (fun b12 p12 => ?_)
   refine wpd_p 10 rfl zz6 trivial (q_build (cs := [.int .i64 idx, b8, b12]) rfl (built_sig p8 p12 idx)) rfl (fun w h => .inr (h.sub SubC.h SubC.h)) ?_
   refine wpd_t0 11 rfl zz6 trivial (t_stA Tryd.ti66 rfl rfl zz2 (sig_one p8 p12 idx) zz2) (fun _ => skk rfl) (fun _ => ?_)
   refine wpd_done zz6 ?_
   refine ex_then <| wpc_ret ?_
   refine retv1 (.inl rfl) rfl (rv_agg Tryd.underlying66 rfl Tryd.ti66 rfl (fun w h => h.atB) zz2) ?_
   exact fun w h => ⟨(b8, b12), ⟨p8, p12⟩, rfl, h.below, by first | exact h.made (.keep (.keep .nil)) .nil | exact h.swap.made (.keep (.keep .nil)) .nil⟩
end Go.Proofs.YtjpfhkjmjnjggaaDoor
namespace Go.Proofs.YtjpfhkjmjnjggaaDoor
open Go Go.PL Go.RowKit
def nodeF (s : List UInt8) : Nat → Nat → List UInt8
  | 0, k => publicF (leafF s k)
  | l + 1, k => joinedF (nodeF s l (2 * k)) (nodeF s l (2 * k + 1))
theorem nodeF_length (s : List UInt8) : ∀ l k, (nodeF s l k).length = 16
  | 0, k => by rw [nodeF]; exact publicF_length _
  | l + 1, k => by rw [nodeF]; exact joinedF_length _ _
instance l16_node {s : List UInt8} {l k : Nat} : L16 (nodeF s l k) := ⟨nodeF_length s l k⟩
def lev (s : List UInt8) (l n : Nat) : List (List UInt8) := (List.range n).map (nodeF s l)
theorem lev_length (s : List UInt8) (l n : Nat) : (lev s l n).length = n := by simp [lev]
theorem lev_all (s : List UInt8) (l n : Nat) : ∀ x ∈ lev s l n, x.length = 16 := fun x hx => by
  obtain ⟨i, _, rfl⟩ := List.mem_map.1 hx; exact nodeF_length _ _ _
theorem lev_get (s : List UInt8) (l n i : Nat) (h : i < n) : (lev s l n).getD i [] = nodeF s l i := by
  rw [lev, List.getD_eq_getElem?_getD, List.getElem?_map, List.getElem?_eq_getElem (by simpa using h)]; simp
theorem lev_succ (s : List UInt8) (l n : Nat) : lev s l (n + 1) = lev s l n ++ [nodeF s l n] := by simp [lev, List.range_succ]
theorem lev_next (s : List UInt8) (l n i : Nat) (h : 2 * i + 1 < n) : lev s (l + 1) i ++ [joinedF ((lev s l n).getD (2 * i) []) ((lev s l n).getD (2 * i + 1) [])] = lev s (l + 1) (i + 1) := by
  rw [lev_succ, lev_get s l n _ zz14, lev_get s l n _ h]; rfl
theorem cells_pre {r : Rd} {a : Addr} {xs ys : List Value} (h : CellsAt r a (xs ++ ys)) : CellsAt r a xs := fun j u hj => h j u (by
  rw [List.getElem?_append_left (List.getElem?_eq_some_iff.1 hj).1]; exact hj)
structure LevelsOk (s : List UInt8) (m : Nat) (qs : List (Value × List (List UInt8))) (n : Nat) : Prop where
  len : qs.length = n
  rows : ∀ j q, qs[j]? = some q → q.2 = lev s j (2 ^ (m - j))
  sv : ∀ q ∈ qs, SV q.1 q.2.length
theorem LevelsOk.snoc {s : List UInt8} {m n : Nat} {qs : List (Value × List (List UInt8))} {v : Value} (h : LevelsOk s m qs n) (hv : SV v (2 ^ (m - n))) : LevelsOk s m (qs ++ [(v, lev s n (2 ^ (m - n)))]) (n + 1) := by
  refine ⟨by rw [List.length_append, h.len]; rfl, fun j q hj => ?_, fun q hq => ?_⟩
  · rw [List.getElem?_append] at hj
    split at hj
    · exact h.rows j q hj
    · rename_i hlt
      rw [h.len] at hj hlt
      have h1 : j - n = 0 := by
        have := (List.getElem?_eq_some_iff.1 hj).1
        simp at this; omega
      rw [h1] at hj
      obtain rfl : j = n := by omega
      simp at hj; subst hj; rfl
  · rcases List.mem_append.1 hq with hq | hq
    · exact h.sv q hq
    · rw [List.mem_singleton.1 hq]
      show SV v (lev s n (2 ^ (m - n))).length
      rw [lev_length]; exact hv
theorem LevelsOk.get {s : List UInt8} {m n : Nat} {qs : List (Value × List (List UInt8))} (h : LevelsOk s m qs n) {j : Nat} (hj : j < n) : ∃ v, (qs.map Prod.fst)[j]? = some v ∧ (v, lev s j (2 ^ (m - j))) ∈ qs ∧ SV v (2 ^ (m - j)) := by
  have hlt : j < qs.length := by rw [h.len]; exact hj
  have h1 := h.rows j _ (List.getElem?_eq_getElem hlt)
  have h2 := List.getElem_mem hlt
  refine ⟨qs[j].1, by rw [List.getElem?_map, List.getElem?_eq_getElem hlt]; rfl, ?_, ?_⟩
  · rw [← h1]; exact h2
  · have := h.sv _ h2
    rw [h1, lev_length] at this; exact this
theorem pow_half {m l : Nat} (h : l < m) : 2 ^ (m - l) = 2 * 2 ^ (m - (l + 1)) := by
  rw [show m - l = (m - (l + 1)) + 1 from zz14, Nat.pow_succ]; omega
theorem one_one {v : Value} (h : v.oneCell' = true) : ∀ u ∈ [v], u.oneCell' = true := fun u hu => by rw [List.mem_singleton.1 hu]; exact h
theorem levels_one {s : List UInt8} {m : Nat} {v : Value} (hv : SV v (2 ^ m)) : LevelsOk s m [(v, lev s 0 (2 ^ m))] 1 := by
  have := LevelsOk.snoc (s := s) (m := m) (n := 0) (qs := []) (v := v) ⟨rfl, fun j q h => by simp at h, fun q h => by cases h⟩ hv
  exact this
theorem levels_init {w0 w : World} {s : List UInt8} {m : Nat} {v b : Value} {M : List Ent} {t e : TypeId} (h : Mem w0 [] (.row b 1 t 1 [v] :: .row v (2 ^ m) e 16 (v8s (lev s 0 (2 ^ m)).flatten) :: M) [] w) :
    Mem w0 [] (.row b (0 + 1) t 1 ([(v, lev s 0 (2 ^ m))].map Prod.fst) :: M) [Go.PL.seen v (2 ^ (m - 0)) 16 (v8s (lev s 0 (2 ^ (m - 0))).flatten), rowsF 16 [(v, lev s 0 (2 ^ m))]] w := by
  refine (h.freezeRow (.there .here)).imp fun r hr t ht => ?_
  have h1 : Seen r v (2 ^ m) 16 (v8s (lev s 0 (2 ^ m)).flatten) := hr _ (List.mem_cons_self ..)
  rcases List.mem_cons.1 ht with rfl | ht
  · exact h1
  · rw [List.mem_singleton.1 ht]
    intro q hq
    rw [List.mem_singleton.1 hq]
    show Seen r v (lev s 0 (2 ^ m)).length 16 _
    rw [lev_length]; exact h1
theorem levels_next {w0 w : World} {s : List UInt8} {m l : Nat} {v vl b b2 : Value} {qs : List (Value × List (List UInt8))} {x : List Value} {M : List Ent} {t t2 e : TypeId} {N : Nat} {ws : List Value}
    (h : Mem w0 [] (.row b2 1 t2 1 x :: .row v (2 ^ (m - (l + 1))) e 16 (v8s (lev s (l + 1) (2 ^ (m - (l + 1)))).flatten) :: .row b (l + 1 + 1) t 1 (qs.map Prod.fst ++ [v]) :: M) [Go.PL.seen vl N 16 ws, rowsF 16 qs] w) :
    Mem w0 [] (.row b (l + 1 + 1) t 1 ((qs ++ [(v, lev s (l + 1) (2 ^ (m - (l + 1))))]).map Prod.fst) :: M) [Go.PL.seen v (2 ^ (m - (l + 1))) 16 (v8s (lev s (l + 1) (2 ^ (m - (l + 1)))).flatten), rowsF 16 (qs ++ [(v, lev s (l + 1) (2 ^ (m - (l + 1))))])] w := by
  rw [List.map_append]
  refine ((h.sub (.drop (Sub.refl _)) (Sub.refl _)).freezeRow .here).imp fun r hr t ht => ?_
  have h1 : Seen r v (2 ^ (m - (l + 1))) 16 (v8s (lev s (l + 1) (2 ^ (m - (l + 1)))).flatten) := hr _ (List.mem_cons_self ..)
  have h2 : ∀ q ∈ qs, Seen r q.1 q.2.length 16 (v8s q.2.flatten) := hr (rowsF 16 qs) zz50
  rcases List.mem_cons.1 ht with rfl | ht
  · exact h1
  · rw [List.mem_singleton.1 ht]
    intro q hq
    rcases List.mem_append.1 hq with hq | hq
    · exact h2 q hq
    · rw [List.mem_singleton.1 hq]
      show Seen r v (lev s (l + 1) (2 ^ (m - (l + 1)))).length 16 _
      rw [lev_length]; exact h1
theorem leaf7 (xs : List UInt8) (ht : Int) (i : Nat) (w : World) (hxs : xs.length = 16) (hG : Glb w) :
    Calls Tryd.prog 98 [.agg (v8s xs ++ [Value.int .i64 ht]).toArray, .int .i64 ((i : Nat) : Int)].toArray w (Pur w (.agg (v8s (leafF xs i)).toArray)) := by
  refine enter (m := 12) (R := Mem w [] [] []) Tryd.func98 rfl rfl (Nat.le_of_ble_eq_true rfl) (Mem.start w) ?_
  refine wpc_seq <| wpc_region ?_
  refine wpl_t (t_box rfl (v8s xs ++ [Value.int .i64 ht]) rfl) rfl (fun b2 => ?_)
  refine wpl_t (t_alloc Tryd.ti61 (v8s (List.replicate 16 0)) (by rfl)) rfl (fun b4 => ?_)
  refine wpl_nil <| ex_then <| wpc_seq <| wpc_region <| wpl_q (q_field Tryd.underlying145 rfl Tryd.ti61 rfl rfl _ rfl) rfl <| wpl_q (q_arAll Tryd.underlying61 Tryd.ti5 rfl rfl) rfl <| wpl_q (q_pure rfl) rfl <| wpl_q (q8_conv Tryd.underlying3 Tryd.underlying5 rfl) rfl ?_
  refine wpl_tp (t_bsV (v8s [_, (254 : UInt8), (0 : UInt8)]) Tryd.underlying32 Tryd.ti5 rfl rfl zz19 zz19 rfl (v8s_one _)) rfl (fun b9 p9 => ?_)
  refine wpl_tp (t_apF Tryd.underlying32 Tryd.ti5 rfl rfl rfl (fun w h => seen_whole (cells_pre h.atB) zz19 ((v8s_length _).trans hxs)) (fun w h => zz11) zz1 zz1 zz1 _ zz16) rfl (fun b10 p10 => ?_)
  refine wpl_t (t_pur Tryd.hb118 rfl fun w h => shortW _ _ w zz12 (glob h hG)) rfl (fun b11 => ?_)
  refine wpl_t0 (t_stA Tryd.ti61 rfl rfl zz2 (v8s_one _) zz2) (fun _ => ?_)
  refine wpl_nil <| ex_then <| wpc_ret ?_
  refine retv1 (.inl rfl) rfl (rv_agg Tryd.underlying61 rfl Tryd.ti61 rfl (fun w h => h.atB) zz2) ?_
  exact fun w h => ⟨rfl, h.below⟩
theorem levels7 (xs : List UInt8) (m : Nat) (w : World) (hxs : xs.length = 16) (hm : m ≤ 4) (hG : Glb w) :
    Calls Tryd.prog 83 [.agg (v8s xs ++ [Value.int .i64 ((m : Nat) : Int)]).toArray].toArray w (GivesP w (fun x : Value × List (Value × List (List UInt8)) => SV x.1 (m + 1) ∧ LevelsOk xs m x.2 (m + 1)) (fun x => x.1) (fun x => [.row x.1 (m + 1) 64 1 (x.2.map Prod.fst)]) (fun x => [rowsF 16 x.2])) := by
  have hpm := pow_le16 hm
  refine enter (m := 52) (R := Mem w [] [] []) Tryd.func83 rfl rfl (Nat.le_of_ble_eq_true rfl) (Mem.start w) ?_
  refine wpc_seq <| wpc_region ?_
  refine wpl_t (t_box rfl (v8s xs ++ [Value.int .i64 ((m : Nat) : Int)]) rfl) rfl (fun b1 => ?_)
  refine wpl_q (q_pure rfl) rfl <| wpl_nil <| ex_then <| wpc_seq <| wpc_region <| wpl_q (q_pure rfl) rfl <| wpl_nil <| ex_then <| wpc_seq <| wpc_seq <| wpc_region <| wpl_q (q_field Tryd.underlying145 rfl Tryd.ti3 rfl rfl _ rfl) rfl ?_
  refine wpl_q (q_ld Tryd.underlying3 rfl rfl (key_height xs m hxs)) rfl ?_
  refine wpl_q (q_shlN (a := 1) rfl rfl zz30 zz1) rfl ?_
  refine wpl_q (q_pure rfl) rfl <| wpl_nil <| ex_then <| wpc_block ?_
  refine wpc_loopc (ι := { x : Nat × Value // (x.1 ≤ 2 ^ m) ∧ (SV x.2 x.1) }) [(1, _), (10, _)] (fun x Lc => (11, .int .i64 ((x.1.1 : Nat) : Int)) :: (3, x.1.2) :: Lc) (fun x => Mem w [] [.row x.1.2 x.1.1 61 16 (v8s (lev xs 0 x.1.1).flatten), .blk b1 145 (v8s xs ++ [Value.int .i64 ((m : Nat) : Int)])] []) (fun x => 2 ^ m - x.1.1) ⟨(0, .slice none 0 0), ⟨Nat.zero_le _, SV.nil⟩⟩ zz10 ?_ ?_
  ·
   exact fun w h => h.nilRow 61 16
  ·
   rintro ⟨⟨i, v⟩, ⟨hi0, hi1⟩⟩; try dsimp only
   have hi0 : i ≤ 2 ^ m := hi0; have hi1 : SV v i := hi1
   refine wpc_seq <| wpc_region <| wpl_q (q_pure rfl) rfl <| wpl_nil <| ex_then <| wpc_seq ?_
   refine wpc_cond rfl (fun hc12 => ?_) (fun hc12 => ?_)
   ·
    simp only [decide_eq_true_eq] at hc12
    refine wpc_skip <| ex_then <| wpc_seq <| wpc_block <| wpc_seq <| wpc_region <| wpl_q (q_pure rfl) rfl <| wpl_q (q_pure rfl) rfl <| wpl_nil <| ex_then <| wpc_region <| wpl_q (q_pure rfl) rfl ?_
    refine wpl_q (q_ldN Tryd.underlying145 rfl Tryd.ti145 rfl (key_len xs m hxs)) rfl <| wpl_q (q_pure rfl) rfl ?_
    refine wpl_t (t_pur Tryd.hb98 rfl fun w h => leaf7 _ _ _ w zz20 (glob h hG)) rfl (fun b17 => ?_)
    refine wpl_t (t_pur Tryd.hb102 rfl fun w h => public_ _ w zz20 (glob h hG)) rfl (fun b18 => ?_)
    refine wpl_tp (t_bsS [_] Tryd.underlying64 Tryd.ti61 rfl zz19 rfl zz19 zz19 rfl (all_one zz20)) rfl (fun b19 p19 => ?_)
    refine wpl_tp (t_apW Tryd.underlying64 Tryd.ti61 rfl zz19 rfl rfl (fun w h => zz11) zz3 zz1 zz1 _ zz16) rfl (fun b20 p20 => ?_)
    refine wpl_q (q_pure rfl) rfl <| wpl_nil <| ex_block <| ex_then <| wpc_region ?_
    refine wpl_q (q_addN (b := 1) rfl rfl zz1) rfl ?_
    refine wpl_q (q_pure rfl) rfl <| wpl_nil ?_
    refine ex_again ⟨(i + 1, b20), ⟨zz14, p20⟩⟩ ?_ ?_ ?_
    ·
     exact zz10
    ·
     exact fun w h => by
       dsimp only
       rw [lev_succ, List.flatten_append]
       exact h.sub (.drop (Sub.refl _)) (Sub.refl _)
    ·
     (show 2 ^ m - (i + 1) < 2 ^ m - i); omega
   ·
    simp only [decide_eq_false_iff_not] at hc12
    obtain rfl : i = 2 ^ m := by omega
    refine wpc_exit ?_
    refine ex_then_exit ?_
    refine ex_then_exit ?_
    refine ex_block_hit ?_
    refine ex_then <| wpc_seq <| wpc_region <| wpl_q (q_pure rfl) rfl ?_
    refine wpl_tp (t_bsV [v] Tryd.underlying143 Tryd.ti64 rfl rfl zz19 zz19 rfl (one_one hi1.one)) rfl (fun b23 p23 => ?_)
    refine wpl_q (q_pure rfl) rfl <| wpl_nil <| ex_then <| wpc_seq <| wpc_block ?_
    refine wpc_loopc (ι := { x : Nat × Value × Value × List (Value × List (List UInt8)) // (x.1 ≤ m) ∧ (SV x.2.1 (2 ^ (m - x.1))) ∧ (SV x.2.2.1 (x.1 + 1)) ∧ (LevelsOk xs m x.2.2.2 (x.1 + 1)) }) [] (fun x Lc => (3, x.1.2.1) :: (5, x.1.2.2.1) :: Lc) (fun x => Mem w [] [.row x.1.2.2.1 (x.1.1 + 1) 64 1 (x.1.2.2.2.map Prod.fst), .blk b1 145 (v8s xs ++ [Value.int .i64 ((m : Nat) : Int)])] [Go.PL.seen x.1.2.1 (2 ^ (m - x.1.1)) 16 (v8s (lev xs x.1.1 (2 ^ (m - x.1.1))).flatten), rowsF 16 x.1.2.2.2]) (fun x => m - x.1.1) ⟨(0, v, b23, [(v, lev xs 0 (2 ^ m))]), ⟨Nat.zero_le _, hi1, p23, levels_one hi1⟩⟩ zz10 ?_ ?_
    ·
     exact fun w h => levels_init h
    ·
     rintro ⟨⟨l, vl, vt, qs⟩, ⟨hi0, hi1, hi2, hi3⟩⟩; try dsimp only
     have hi0 : l ≤ m := hi0; have hi1 : SV vl (2 ^ (m - l)) := hi1; have hi2 : SV vt (l + 1) := hi2; have hi3 : LevelsOk xs m qs (l + 1) := hi3
     refine wpc_seq <| wpc_seq <| wpc_region <| wpl_q (q_pure rfl) rfl ?_
     refine wpl_q (q_lenW Tryd.underlying64 rfl zz4) rfl ?_
     refine wpl_q (q_pure rfl) rfl <| wpl_nil <| ex_then ?_
     refine wpc_cond rfl (fun hc26 => ?_) (fun hc26 => ?_)
     ·
      simp only [decide_eq_true_eq] at hc26
      have hlm : l < m := by
        apply Classical.byContradiction
        intro hn
        have : m - l = 0 := by omega
        rw [this] at hc26
        omega
      have hpw := pow_half hlm
      have hpl : 2 ^ (m - l) ≤ 16 := pow_le16 zz14
      have hll := lev_length xs l (2 ^ (m - l))
      have hla := lev_all xs l (2 ^ (m - l))
      refine wpc_skip <| ex_then <| wpc_block <| wpc_seq <| wpc_region <| wpl_q (q_pure rfl) rfl <| wpl_nil <| ex_then <| wpc_seq <| wpc_seq <| wpc_region <| wpl_q (q_pure rfl) rfl ?_
      refine wpl_nil <| ex_then <| wpc_block ?_
      refine wpc_loopc (ι := { x : Nat × Nat × Value // (x.1 ≤ 2 ^ (m - (l + 1))) ∧ (x.2.1 = 2 * x.1) ∧ (SV x.2.2 x.1) }) [(3, _), (5, _)] (fun x Lc => (7, .int .i64 ((x.1.2.1 : Nat) : Int)) :: (6, x.1.2.2) :: Lc) (fun x => Mem w [] [.row x.1.2.2 x.1.1 61 16 (v8s (lev xs (l + 1) x.1.1).flatten), .row vt (l + 1) 64 1 (qs.map Prod.fst), .blk b1 145 (v8s xs ++ [Value.int .i64 ((m : Nat) : Int)])] [Go.PL.seen vl (2 ^ (m - l)) 16 (v8s (lev xs l (2 ^ (m - l))).flatten), rowsF 16 qs]) (fun x => 2 ^ (m - (l + 1)) - x.1.1) ⟨(0, 0, .slice none 0 0), ⟨Nat.zero_le _, rfl, SV.nil⟩⟩ zz10 ?_ ?_
      ·
       exact fun w h => h.nilRow 61 16
      ·
       rintro ⟨⟨i, j, v6⟩, ⟨hi0, hi1, hi2⟩⟩; try dsimp only
       have hi0 : i ≤ 2 ^ (m - (l + 1)) := hi0; have hi1 : j = 2 * i := hi1; have hi2 : SV v6 i := hi2
       refine wpc_seq <| wpc_seq <| wpc_region <| wpl_q (q_pure rfl) rfl <| wpl_q (q_pure rfl) rfl ?_
       refine wpl_q (q_lenW Tryd.underlying64 rfl zz4) rfl ?_
       refine wpl_q (q_pure rfl) rfl <| wpl_nil <| ex_then ?_
       refine wpc_cond rfl (fun hc30 => ?_) (fun hc30 => ?_)
       ·
        simp only [decide_eq_true_eq] at hc30
        have hg1 := getD_mem_len hla (i := j) zz14
        have hg2 := getD_mem_len hla (i := j + 1) zz14
        refine wpc_skip <| ex_then <| wpc_seq <| wpc_block ?_
        refine wpc_draw 12 zz6 (fun _ h => h.drew) ?_
        refine wpd_p 0 rfl zz6 trivial (q_pure rfl) rfl sk0 ?_
        refine wpd_p 1 rfl zz6 trivial (q_pure rfl) rfl sk0 ?_
        refine wpd_p 2 rfl zz6 trivial (q_pure rfl) rfl sk0 ?_
        refine wpd_p 3 rfl zz6 trivial (q_idxW Tryd.underlying64 Tryd.ti61 rfl rfl zz4 zz1) rfl sk0 ?_
        refine wpd_qB 4 [10, 11, 12] rfl zz6 trivial (q_ldWN Tryd.underlying61 rfl Tryd.ti61 rfl (fun w h => zz11) (v8s ((lev xs l (2 ^ (m - l))).getD j [])) (part8 hla zz14) ((v8s_length _).trans hg1)) rfl (fun _ h => h) ?_
        refine wpd_p 5 rfl zz6 trivial (q_pure rfl) rfl sk0 ?_
        refine wpd_p 6 rfl zz6 trivial (q_pure rfl) rfl sk0 ?_
        refine wpd_p 7 rfl zz6 trivial (q_addN (b := 1) rfl rfl zz1) rfl sk0 ?_
        refine wpd_p 8 rfl zz6 trivial (q_idxW Tryd.underlying64 Tryd.ti61 rfl rfl zz4 zz1) rfl sk0 ?_
        refine wpd_qB 9 [10, 11, 12] rfl zz6 trivial (q_ldWN Tryd.underlying61 rfl Tryd.ti61 rfl (fun w h => zz11) (v8s ((lev xs l (2 ^ (m - l))).getD (j + 1) [])) (part8 hla zz14) ((v8s_length _).trans hg2)) rfl (fun _ h => h) ?_
        refine wpd_t 10 rfl zz6 trivial (t_pur Tryd.hb103 rfl fun w h => joined7 _ _ w zz20 zz20 (glob h hG)) rfl (fun _ => sk0) (fun b43 => ?_)
        refine wpd_tp 11 rfl zz6 trivial (t_bsS [_] Tryd.underlying64 Tryd.ti61 rfl zz19 rfl zz19 zz19 rfl (all_one zz20)) rfl (fun _ => (fun w h => .inr (h.sub SubC.h SubC.h))) (fun b44 p44 => ?_)
        refine wpd_tp 12 rfl zz6 trivial (t_apW Tryd.underlying64 Tryd.ti61 rfl zz19 rfl rfl (fun w h => zz11) zz3 zz1 zz1 _ zz16) rfl (fun _ => skk rfl) (fun b45 p45 => ?_)
        refine wpd_p 13 rfl zz6 trivial (q_pure rfl) rfl (skk rfl) ?_
        refine wpd_done zz6 ?_
        refine ex_block <| ex_then <| wpc_region <| wpl_q (q_pure rfl) rfl ?_
        refine wpl_q (q_addN (b := 2) rfl rfl zz1) rfl ?_
        refine wpl_q (q_pure rfl) rfl <| wpl_nil ?_
        refine ex_again ⟨(i + 1, j + 2, b45), ⟨zz59, zz59, p45⟩⟩ ?_ ?_ ?_
        ·
         exact zz10
        ·
         exact fun w h => by
           dsimp only
           rw [← lev_next xs l (2 ^ (m - l)) i zz14, List.flatten_append]
           rw [hi1] at h
           first | exact h.sub SubC.h SubC.h | exact h.sub zz8 zz8
        ·
         (show 2 ^ (m - (l + 1)) - (i + 1) < 2 ^ (m - (l + 1)) - i); omega
       ·
        simp only [decide_eq_false_iff_not] at hc30
        obtain rfl : i = 2 ^ (m - (l + 1)) := by omega
        have hv6 := hi2
        refine wpc_exit ?_
        refine ex_then_exit ?_
        refine ex_then_exit ?_
        refine ex_block_hit ?_
        refine ex_then <| wpc_seq <| wpc_region <| wpl_q (q_pure rfl) rfl <| wpl_q (q_pure rfl) rfl <| wpl_nil <| ex_then <| wpc_region <| wpl_q (q_pure rfl) rfl <| wpl_q (q_pure rfl) rfl ?_
        refine wpl_tp (t_bsV [v6] Tryd.underlying143 Tryd.ti64 rfl rfl zz19 zz19 rfl (one_one hv6.one)) rfl (fun b49 p49 => ?_)
        refine wpl_tp (t_apW Tryd.underlying143 Tryd.ti64 rfl zz19 rfl rfl (fun w h => h.seenV) (one_one hv6.one) zz1 zz1 (qs.map Prod.fst ++ [v6]) rfl) rfl (fun b50 p50 => ?_)
        refine wpl_q (q_pure rfl) rfl <| wpl_nil <| ex_block ?_
        refine ex_again ⟨(l + 1, v6, b50, qs ++ [(v6, lev xs (l + 1) (2 ^ (m - (l + 1))))]), ⟨zz14, hv6, p50, hi3.snoc hv6⟩⟩ ?_ ?_ ?_
        ·
         exact zz10
        ·
         exact fun w h => levels_next h
        ·
         (show m - (l + 1) < m - l); omega
     ·
      simp only [decide_eq_false_iff_not] at hc26
      obtain rfl : l = m := by
        apply Classical.byContradiction
        intro hn
        have := pow_half (show l < m from zz14)
        have := Nat.two_pow_pos (m - (l + 1))
        omega
      refine wpc_exit ?_
      refine ex_then_exit ?_
      refine ex_then_exit ?_
      refine ex_block_hit ?_
      refine ex_then <| wpc_seq <| wpc_region <| wpl_q (q_pure rfl) rfl <| wpl_q (q_pure rfl) rfl <| wpl_nil <| ex_then <| wpc_ret ?_
      refine ret1 (.inl rfl) rfl rfl ?_
      exact fun w h => ⟨(vt, qs), ⟨hi2, hi3⟩, rfl, h.below, h.made (.keep .nil) (.drop (.keep .nil))⟩
end Go.Proofs.YtjpfhkjmjnjggaaDoor
namespace Go.Proofs.YtjpfhkjmjnjggaaDoor
open Go Go.PL Go.RowKit
theorem list16 {xs : List UInt8} (h : xs.length = 16) : ∃ a0 a1 a2 a3 a4 a5 a6 a7 a8 a9 a10 a11 a12 a13 a14 a15, xs = [a0, a1, a2, a3, a4, a5, a6, a7, a8, a9, a10, a11, a12, a13, a14, a15] := by
  iterate 16 (cases xs with | nil => simp at h | cons a xs => ?_)
  cases xs with
  | nil => exact ⟨_, _, _, _, _, _, _, _, _, _, _, _, _, _, _, _, rfl⟩
  | cons a xs => simp at h
theorem built_key (xs : List UInt8) (ht : Int) (h : xs.length = 16) : Tryd.prog.built 63 [(0, .agg (v8s xs).toArray), (1, .int .i64 ht)] = some (v8s xs ++ [Value.int .i64 ht]).toArray := by
  obtain ⟨a0, a1, a2, a3, a4, a5, a6, a7, a8, a9, a10, a11, a12, a13, a14, a15, rfl⟩ := list16 h
  kernel_rfl
theorem built_tree (xs : List UInt8) (ht : Int) (h : xs.length = 16) : Tryd.prog.built 145 [(0, .agg (v8s xs).toArray), (1, .int .i64 ht)] = some (v8s xs ++ [Value.int .i64 ht]).toArray := by
  obtain ⟨a0, a1, a2, a3, a4, a5, a6, a7, a8, a9, a10, a11, a12, a13, a14, a15, rfl⟩ := list16 h
  kernel_rfl
theorem built_key0 : Tryd.prog.built 63 [] = some (v8s (List.replicate 16 0) ++ [Value.int .i64 0]).toArray := by kernel_rfl
theorem built_sig0 : Tryd.prog.built 66 [] = some #[.int .i64 0, .slice none 0 0, .slice none 0 0] := by kernel_rfl
theorem built_sig2 {v1 : Value} {n1 : Nat} (h1 : SV v1 n1) (idx : Int) : Tryd.prog.built 66 [(0, .int .i64 idx), (1, v1)] = some #[.int .i64 idx, v1, .slice none 0 0] := by
  obtain ⟨a1, c1, rfl, _⟩ := h1
  kernel_rfl
theorem key_one (xs : List UInt8) (ht : Int) : ∀ u ∈ v8s xs ++ [Value.int .i64 ht], u.oneCell' = true := fun u hu => by
  rcases List.mem_append.1 hu with hu | hu
  · exact v8s_one _ u hu
  · rw [List.mem_singleton.1 hu]; rfl
def keyR (s : List UInt8) (ht : Int) : List UInt8 := if 0 ≤ ht ∧ ht ≤ 4 then nodeF s ht.toNat 0 else List.replicate 16 0
def keyH (ht : Int) : Int := if 0 ≤ ht ∧ ht ≤ 4 then ht else 0
def keyE (ht : Int) : Int := if 0 ≤ ht ∧ ht ≤ 4 then 0 else 2
theorem keyR_length (s : List UInt8) (ht : Int) : (keyR s ht).length = 16 := by
  unfold keyR; split
  · exact nodeF_length _ _ _
  · exact List.length_replicate
instance l16_keyR {s : List UInt8} {ht : Int} : L16 (keyR s ht) := ⟨keyR_length s ht⟩
def okS (ht idx : Int) : Prop := (0 ≤ ht ∧ ht ≤ 4) ∧ 0 ≤ idx ∧ idx < ((2 ^ ht.toNat : Nat) : Int)
instance (ht idx : Int) : Decidable (okS ht idx) := by unfold okS; infer_instance
def pathF (s : List UInt8) (k m : Nat) : List (List UInt8) := (List.range m).map fun l => nodeF s l ((k / 2 ^ l) ^^^ 1)
theorem pathF_length (s : List UInt8) (k m : Nat) : (pathF s k m).length = m := by simp [pathF]
theorem pathF_all (s : List UInt8) (k m : Nat) : ∀ x ∈ pathF s k m, x.length = 16 := fun x hx => by
  obtain ⟨i, _, rfl⟩ := List.mem_map.1 hx; exact nodeF_length _ _ _
theorem pathF_succ (s : List UInt8) (k m : Nat) : pathF s k (m + 1) = pathF s k m ++ [nodeF s m ((k / 2 ^ m) ^^^ 1)] := by simp [pathF, List.range_succ]
theorem sib_lt {q m k : Nat} (h : q < 2 ^ m) (hk : k < m) : (q / 2 ^ k) ^^^ 1 < 2 ^ (m - k) := by
  refine Nat.xor_lt_two_pow ?_ ?_
  · rw [Nat.div_lt_iff_lt_mul (Nat.two_pow_pos k), ← Nat.pow_add, Nat.sub_add_cancel (Nat.le_of_lt hk)]; exact h
  · exact Nat.one_lt_two_pow zz14
def sigC (s : List UInt8) (ht idx : Int) (bs : List UInt8) : List (List UInt8) := if okS ht idx then signF (leafF s idx.toNat) bs else []
def sigP (s : List UInt8) (ht idx : Int) : List (List UInt8) := if okS ht idx then pathF s idx.toNat ht.toNat else []
def sigI (ht idx : Int) : Int := if okS ht idx then idx else 0
def sigE (ht idx : Int) : Int := if okS ht idx then 0 else 2
theorem sigC_all (s : List UInt8) (ht idx : Int) (bs : List UInt8) : ∀ x ∈ sigC s ht idx bs, x.length = 16 := by
  unfold sigC; split
  · exact signF_all _ _
  · intro x hx; cases hx
theorem sigP_all (s : List UInt8) (ht idx : Int) : ∀ x ∈ sigP s ht idx, x.length = 16 := by
  unfold sigP; split
  · exact pathF_all _ _ _
  · intro x hx; cases hx
theorem okS_nat {m q : Nat} (hm : m ≤ 4) (hq : q < 2 ^ m) : okS (m : Int) (q : Int) := ⟨⟨zz14, zz14⟩, zz14, by rw [Int.toNat_natCast]; omega⟩
theorem key7 (xs : List UInt8) (ht : Int) (w : World) (hxs : xs.length = 16) (hG : Glb w) :
    Calls Tryd.prog 54 [.agg (v8s xs).toArray, .int .i64 ht].toArray w (Pur w (.tuple #[.agg (v8s (keyR xs ht) ++ [Value.int .i64 (keyH ht)]).toArray, .int .i64 (keyE ht)])) := by
  refine enter (m := 21) (R := Mem w [] [] []) Tryd.func54 rfl rfl (Nat.le_of_ble_eq_true rfl) (Mem.start w) ?_
  refine wpc_seq <| wpc_region ?_
  refine wpl_t (t_box rfl (v8s xs) rfl) rfl (fun b2 => ?_)
  refine wpl_t (t_alloc Tryd.ti63 _ rfl) rfl (fun b4 => ?_)
  refine wpl_q (q_pure rfl) rfl <| wpl_nil <| ex_then <| wpc_seq <| wpc_seq <| wpc_region <| wpl_q (q_pure rfl) rfl ?_
  refine wpl_t (t_pur Tryd.hb65 rfl fun w h => good _ w) rfl (fun b7 => ?_)
  refine wpl_q (q_pure rfl) rfl <| wpl_nil <| ex_then ?_
  refine wpc_cond rfl (fun hc8 => ?_) (fun hc8 => ?_)
  ·
   simp only [Bool.not_eq_true', decide_eq_false_iff_not] at hc8
   have e1 : keyR xs ht = (List.replicate 16 0) := if_neg hc8
   have e2 : keyH ht = 0 := if_neg hc8
   have e3 : keyE ht = 2 := if_neg hc8
   refine wpc_seq <| wpc_region ?_
   refine wpl_q (q_build (cs := v8s (List.replicate 16 0) ++ [Value.int .i64 0]) rfl built_key0) rfl ?_
   refine wpl_t0 (t_stA Tryd.ti63 rfl rfl zz2 zz3 zz2) (fun _ => ?_)
   refine wpl_q (q_pure rfl) rfl <| wpl_nil <| ex_then <| wpc_ret ?_
   refine ex_then_ret ?_
   refine retv2 (.inl rfl) rfl (rv_agg Tryd.underlying63 rfl Tryd.ti63 rfl (fun w h => h.atB) (key_len _ _ zz20)) (rv_tmp rfl) ?_
   exact fun w h => ⟨by rw [e1, e2, e3], h.below⟩
  ·
   simp only [Bool.not_eq_false', decide_eq_true_eq] at hc8
   obtain ⟨m, rfl⟩ : ∃ m : Nat, ht = (m : Int) := ⟨ht.toNat, zz14⟩
   have e1 : keyR xs m = nodeF xs m 0 := if_pos hc8
   have e2 : keyH m = m := if_pos hc8
   have e3 : keyE m = 0 := if_pos hc8
   refine wpc_skip <| ex_then <| wpc_seq <| wpc_region ?_
   refine wpl_q (q_ldN Tryd.underlying61 rfl Tryd.ti61 rfl zz2) rfl ?_
   refine wpl_q (q_pure rfl) rfl ?_
   refine wpl_q (q_build (cs := v8s xs ++ [Value.int .i64 ((m : Nat) : Int)]) rfl (built_tree _ _ hxs)) rfl ?_
   refine wpl_tp (t_callPF Tryd.hb83 rfl fun w h => levels7 _ _ w zz20 zz14 (glob h hG)) rfl (fun b13 p13 => ?_)
   obtain ⟨hq1, hq2⟩ := p13
   obtain ⟨u, hu1, hu2, hu3⟩ := hq2.get (show m < m + 1 from zz14)
   rw [Nat.sub_self] at hu2 hu3
   refine wpl_q (q_pure rfl) rfl ?_
   refine wpl_q (q_idxW1 Tryd.underlying143 Tryd.ti64 rfl rfl zz4 zz1) rfl ?_
   refine wpl_q (q_ldW Tryd.underlying64 rfl rfl (fun w h => zz11) hu1) rfl ?_
   refine wpl_q (q_idxW (j := 0) Tryd.underlying64 Tryd.ti61 rfl rfl zz4 zz1) rfl ?_
   refine wpl_q (q_ldWN Tryd.underlying61 rfl Tryd.ti61 rfl (fun w h => h.rowsF zz7 hu2) (v8s ((lev xs m (2 ^ 0)).getD 0 [])) (part8 (lev_all _ _ _) (by rw [lev_length]; decide)) ((v8s_length _).trans (getD_mem_len (lev_all _ _ _) (by rw [lev_length]; decide)))) rfl ?_
   refine wpl_re 18 rfl (congrArg (fun l : List UInt8 => Value.agg (v8s l).toArray) (lev_get xs m (2 ^ 0) 0 zz19)) ?_
   refine wpl_q (q_pure rfl) rfl ?_
   refine wpl_q (q_build (cs := v8s (nodeF xs m 0) ++ [Value.int .i64 ((m : Nat) : Int)]) rfl (built_key _ _ (nodeF_length _ _ _))) rfl ?_
   refine wpl_t0 (t_stA Tryd.ti63 rfl rfl zz2 zz3 zz2) (fun _ => ?_)
   refine wpl_q (q_pure rfl) rfl <| wpl_nil <| ex_then <| wpc_ret ?_
   refine retv2 (.inl rfl) rfl (rv_agg Tryd.underlying63 rfl Tryd.ti63 rfl (fun w h => h.atB) (key_len _ _ zz20)) (rv_tmp rfl) ?_
   exact fun w h => ⟨by rw [e1, e2, e3], h.below⟩
end Go.Proofs.YtjpfhkjmjnjggaaDoor
namespace Go.Proofs.YtjpfhkjmjnjggaaDoor
open Go Go.PL Go.RowKit
theorem sign7 (xs : List UInt8) (ht : Int) (idx : Int) (bv : Value) (bs : List UInt8) (w : World) (hxs : xs.length = 16) (hbv : Seen w.cell? bv bs.length 1 (v8s bs)) (hG : Glb w) :
    Calls Tryd.prog 80 [.agg (v8s xs).toArray, .int .i64 ht, .int .i64 idx, bv].toArray w (GivesP w (fun x : Value × Value => SV x.1 (sigC xs ht idx bs).length ∧ SV x.2 (sigP xs ht idx).length) (fun x : Value × Value => .tuple #[.agg #[.int .i64 (sigI ht idx), x.1, x.2], .int .i64 (sigE ht idx)]) (fun x => [.row x.1 (sigC xs ht idx bs).length 61 16 (v8s (sigC xs ht idx bs).flatten), .row x.2 (sigP xs ht idx).length 61 16 (v8s (sigP xs ht idx).flatten)]) (fun _ => [])) := by
  have sbv := hbv.sv
  have lbv := sbv.le
  simp only [maxLen] at lbv
  refine enter (m := 62) (R := Mem w [] [] []) Tryd.func80 rfl rfl (Nat.le_of_ble_eq_true rfl) (Mem.start w) ?_
  refine wpc_seq <| wpc_region ?_
  refine wpl_t (t_box rfl (v8s xs) rfl) rfl (fun b4 => ?_)
  refine wpl_t (t_alloc Tryd.ti66 _ rfl) rfl (fun b8 => ?_)
  refine wpl_q (q_pure rfl) rfl <| wpl_nil <| ex_then <| wpc_seq <| wpc_seq <| wpc_region <| wpl_q (q_pure rfl) rfl ?_
  refine wpl_t (t_pur Tryd.hb65 rfl fun w h => good _ w) rfl (fun b15 => ?_)
  refine wpl_q (q_pure rfl) rfl <| wpl_q (q_pure rfl) rfl ?_
  refine wpl_bool2 17 16 rfl rfl (fun hb17 => ?_) (fun hb17 => ?_)
  ·
   try simp only [decide_eq_true_eq, decide_eq_false_iff_not, Bool.and_eq_true, Bool.or_eq_true, beq_iff_eq, bne_iff_ne, ne_eq, Bool.not_eq_true', Bool.not_eq_false', Decidable.not_not] at hb17
   refine wpl_off rfl rfl rfl rfl <| wpl_off rfl rfl rfl rfl <| wpl_q (q_pure rfl) rfl <| wpl_q (q_pure rfl) rfl <| wpl_off rfl rfl rfl rfl <| wpl_off rfl rfl rfl rfl <| wpl_off rfl rfl rfl rfl <| wpl_off rfl rfl rfl rfl <| wpl_q (q_pure rfl) rfl <| wpl_nil <| ex_then ?_
   refine wpc_cond_t rfl ?_
   refine wpc_seq <| wpc_region ?_
   refine wpl_q (q_build (cs := [.int .i64 0, .slice none 0 0, .slice none 0 0]) rfl built_sig0) rfl ?_
   refine wpl_t0 (t_stA Tryd.ti66 rfl rfl zz2 zz3 zz2) (fun _ => ?_)
   refine wpl_q (q_pure rfl) rfl <| wpl_nil <| ex_then <| wpc_ret ?_
   refine ex_then_ret ?_
   refine retv2 (.inl rfl) rfl (rv_agg Tryd.underlying66 rfl Tryd.ti66 rfl (fun w h => h.atB) rfl) (rv_tmp rfl) ?_
   exact fun w h => by
     first
     | (
       have hno : ¬ okS ht idx := fun hk => by
         obtain ⟨h1, h2, h3⟩ := hk
         try rw [Int.toNat_natCast] at h3
         first | omega | (simp only [Bool.not_eq_true', decide_eq_false_iff_not, decide_eq_true_eq] at *; omega) | (simp_all; done)
       have e1 : sigC xs ht idx bs = [] := if_neg hno
       have e2 : sigP xs ht idx = [] := if_neg hno
       have e3 : sigI ht idx = 0 := if_neg hno
       have e4 : sigE ht idx = 2 := if_neg hno
       rw [e1, e2, e3, e4]
       exact ⟨(.slice none 0 0, .slice none 0 0), ⟨SV.nil, SV.nil⟩, rfl, h.below, ((h.nilRow 61 16).nilRow 61 16).made (.keep (.keep .nil)) .nil⟩)
     | (
       have hno : ¬ okS (m : Int) idx := fun hk => by
         obtain ⟨h1, h2, h3⟩ := hk
         try rw [Int.toNat_natCast] at h3
         first | omega | (simp only [Bool.not_eq_true', decide_eq_false_iff_not, decide_eq_true_eq] at *; omega) | (simp_all; done)
       have e1 : sigC xs (m : Int) idx bs = [] := if_neg hno
       have e2 : sigP xs (m : Int) idx = [] := if_neg hno
       have e3 : sigI (m : Int) idx = 0 := if_neg hno
       have e4 : sigE (m : Int) idx = 2 := if_neg hno
       rw [e1, e2, e3, e4]
       exact ⟨(.slice none 0 0, .slice none 0 0), ⟨SV.nil, SV.nil⟩, rfl, h.below, ((h.nilRow 61 16).nilRow 61 16).made (.keep (.keep .nil)) .nil⟩)
  ·
   simp only [Bool.not_eq_false', decide_eq_true_eq] at hb17
   obtain ⟨m, rfl⟩ : ∃ m : Nat, ht = (m : Int) := ⟨ht.toNat, zz14⟩
   have hpw := pow_le16 (m := m) zz14
   refine wpl_on rfl rfl <| wpl_q (q_pure rfl) rfl <| wpl_on rfl rfl <| wpl_q (q_pure rfl) rfl <| wpl_q (q_pure rfl) rfl <| wpl_q (q_pure rfl) rfl ?_
   refine wpl_bool2 21 19 rfl rfl (fun hb21 => ?_) (fun hb21 => ?_)
   ·
    try simp only [decide_eq_true_eq, decide_eq_false_iff_not, Bool.and_eq_true, Bool.or_eq_true, beq_iff_eq, bne_iff_ne, ne_eq, Bool.not_eq_true', Bool.not_eq_false', Decidable.not_not] at hb21
    refine wpl_off rfl rfl rfl rfl <| wpl_off rfl rfl rfl rfl <| wpl_off rfl rfl rfl rfl <| wpl_off rfl rfl rfl rfl <| wpl_q (q_pure rfl) rfl <| wpl_nil <| ex_then ?_
    refine wpc_cond_t rfl ?_
    refine wpc_seq <| wpc_region ?_
    refine wpl_q (q_build (cs := [.int .i64 0, .slice none 0 0, .slice none 0 0]) rfl built_sig0) rfl ?_
    refine wpl_t0 (t_stA Tryd.ti66 rfl rfl zz2 zz3 zz2) (fun _ => ?_)
    refine wpl_q (q_pure rfl) rfl <| wpl_nil <| ex_then <| wpc_ret ?_
    refine ex_then_ret ?_
    refine retv2 (.inl rfl) rfl (rv_agg Tryd.underlying66 rfl Tryd.ti66 rfl (fun w h => h.atB) rfl) (rv_tmp rfl) ?_
    exact fun w h => by
      first
      | (
        have hno : ¬ okS ht idx := fun hk => by
          obtain ⟨h1, h2, h3⟩ := hk
          try rw [Int.toNat_natCast] at h3
          first | omega | (simp only [Bool.not_eq_true', decide_eq_false_iff_not, decide_eq_true_eq] at *; omega) | (simp_all; done)
        have e1 : sigC xs ht idx bs = [] := if_neg hno
        have e2 : sigP xs ht idx = [] := if_neg hno
        have e3 : sigI ht idx = 0 := if_neg hno
        have e4 : sigE ht idx = 2 := if_neg hno
        rw [e1, e2, e3, e4]
        exact ⟨(.slice none 0 0, .slice none 0 0), ⟨SV.nil, SV.nil⟩, rfl, h.below, ((h.nilRow 61 16).nilRow 61 16).made (.keep (.keep .nil)) .nil⟩)
      | (
        have hno : ¬ okS (m : Int) idx := fun hk => by
          obtain ⟨h1, h2, h3⟩ := hk
          try rw [Int.toNat_natCast] at h3
          first | omega | (simp only [Bool.not_eq_true', decide_eq_false_iff_not, decide_eq_true_eq] at *; omega) | (simp_all; done)
        have e1 : sigC xs (m : Int) idx bs = [] := if_neg hno
        have e2 : sigP xs (m : Int) idx = [] := if_neg hno
        have e3 : sigI (m : Int) idx = 0 := if_neg hno
        have e4 : sigE (m : Int) idx = 2 := if_neg hno
        rw [e1, e2, e3, e4]
        exact ⟨(.slice none 0 0, .slice none 0 0), ⟨SV.nil, SV.nil⟩, rfl, h.below, ((h.nilRow 61 16).nilRow 61 16).made (.keep (.keep .nil)) .nil⟩)
   ·
    try simp only [decide_eq_true_eq, decide_eq_false_iff_not, Bool.and_eq_true, Bool.or_eq_true, beq_iff_eq, bne_iff_ne, ne_eq, Bool.not_eq_true', Bool.not_eq_false', Decidable.not_not] at hb21
    refine wpl_on rfl rfl <| wpl_q (q_pure rfl) rfl <| wpl_on rfl rfl <| wpl_q (q_pure rfl) rfl <| wpl_on rfl rfl ?_
    refine wpl_q (q_shlN (a := 1) rfl rfl zz30 zz1) rfl ?_
    refine wpl_on rfl rfl <| wpl_q (q_pure rfl) rfl <| wpl_q (q_pure rfl) rfl <| wpl_nil <| ex_then ?_
    refine wpc_cond rfl (fun hc26 => ?_) (fun hc26 => ?_)
    ·
     try simp only [decide_eq_true_eq, decide_eq_false_iff_not, Bool.and_eq_true, Bool.or_eq_true, beq_iff_eq, bne_iff_ne, ne_eq, Bool.not_eq_true', Bool.not_eq_false', Decidable.not_not] at hc26
     refine wpc_seq <| wpc_region ?_
     refine wpl_q (q_build (cs := [.int .i64 0, .slice none 0 0, .slice none 0 0]) rfl built_sig0) rfl ?_
     refine wpl_t0 (t_stA Tryd.ti66 rfl rfl zz2 zz3 zz2) (fun _ => ?_)
     refine wpl_q (q_pure rfl) rfl <| wpl_nil <| ex_then <| wpc_ret ?_
     refine ex_then_ret ?_
     refine retv2 (.inl rfl) rfl (rv_agg Tryd.underlying66 rfl Tryd.ti66 rfl (fun w h => h.atB) rfl) (rv_tmp rfl) ?_
     exact fun w h => by
       first
       | (
         have hno : ¬ okS ht idx := fun hk => by
           obtain ⟨h1, h2, h3⟩ := hk
           try rw [Int.toNat_natCast] at h3
           first | omega | (simp only [Bool.not_eq_true', decide_eq_false_iff_not, decide_eq_true_eq] at *; omega) | (simp_all; done)
         have e1 : sigC xs ht idx bs = [] := if_neg hno
         have e2 : sigP xs ht idx = [] := if_neg hno
         have e3 : sigI ht idx = 0 := if_neg hno
         have e4 : sigE ht idx = 2 := if_neg hno
         rw [e1, e2, e3, e4]
         exact ⟨(.slice none 0 0, .slice none 0 0), ⟨SV.nil, SV.nil⟩, rfl, h.below, ((h.nilRow 61 16).nilRow 61 16).made (.keep (.keep .nil)) .nil⟩)
       | (
         have hno : ¬ okS (m : Int) idx := fun hk => by
           obtain ⟨h1, h2, h3⟩ := hk
           try rw [Int.toNat_natCast] at h3
           first | omega | (simp only [Bool.not_eq_true', decide_eq_false_iff_not, decide_eq_true_eq] at *; omega) | (simp_all; done)
         have e1 : sigC xs (m : Int) idx bs = [] := if_neg hno
         have e2 : sigP xs (m : Int) idx = [] := if_neg hno
         have e3 : sigI (m : Int) idx = 0 := if_neg hno
         have e4 : sigE (m : Int) idx = 2 := if_neg hno
         rw [e1, e2, e3, e4]
         exact ⟨(.slice none 0 0, .slice none 0 0), ⟨SV.nil, SV.nil⟩, rfl, h.below, ((h.nilRow 61 16).nilRow 61 16).made (.keep (.keep .nil)) .nil⟩)
    ·
     obtain ⟨q, rfl⟩ : ∃ q : Nat, idx = (q : Int) := ⟨idx.toNat, zz14⟩
     have hq : q < 2 ^ m := by
       simp only [decide_eq_false_iff_not] at hc26
       omega
     have hok : okS (m : Int) (q : Int) := okS_nat zz14 hq
     have e1 : sigC xs m q bs = signF (leafF xs q) bs := if_pos hok
     have e2 : sigP xs m q = pathF xs q m := if_pos hok
     have e3 : sigI m q = q := if_pos hok
     have e4 : sigE m q = 0 := if_pos hok
     refine wpc_skip <| ex_then <| wpc_seq <| wpc_region ?_
     refine wpl_q (q_ldN Tryd.underlying61 rfl Tryd.ti61 rfl zz2) rfl ?_
     refine wpl_q (q_pure rfl) rfl ?_
     refine wpl_q (q_build (cs := v8s xs ++ [Value.int .i64 ((m : Nat) : Int)]) rfl (built_tree _ _ hxs)) rfl ?_
     refine wpl_t (t_alloc Tryd.ti145 _ rfl) rfl (fun b10 => ?_)
     refine wpl_t0 (t_stA Tryd.ti145 rfl rfl zz2 zz3 zz2) (fun _ => ?_)
     refine wpl_nil <| ex_then <| wpc_seq <| wpc_region <| wpl_q (q_pure rfl) rfl ?_
     refine wpl_q (q_ldN Tryd.underlying145 rfl Tryd.ti145 rfl zz2) rfl ?_
     refine wpl_q (q_pure rfl) rfl ?_
     refine wpl_t (t_pur Tryd.hb98 rfl fun w h => leaf7 _ _ _ w zz20 (glob h hG)) rfl (fun b34 => ?_)
     refine wpl_q (q_pure rfl) rfl ?_
     refine wpl_tp (t_callP1 Tryd.hb97 rfl fun w h => sign1 _ _ _ w zz20 zz12 (glob h hG)) rfl (fun b36 p36 => ?_)
     refine wpl_q (q_build (cs := [.int .i64 ((q : Nat) : Int), b36, .slice none 0 0]) rfl (built_sig2 p36 _)) rfl ?_
     refine wpl_t (t_alloc Tryd.ti66 _ rfl) rfl (fun b11 => ?_)
     refine wpl_t0 (t_stA Tryd.ti66 rfl rfl zz2 zz3 zz2) (fun _ => ?_)
     refine wpl_nil <| ex_then <| wpc_seq <| wpc_seq <| wpc_region <| wpl_q (q_ldN Tryd.underlying145 rfl Tryd.ti145 rfl (key_len _ _ hxs)) rfl ?_
     refine wpl_tp (t_callPF Tryd.hb83 rfl fun w h => levels7 _ _ w zz20 zz14 (glob h hG)) rfl (fun b39 p39 => ?_)
     obtain ⟨hq1, hq2⟩ := p39
     refine wpl_q (q_pure rfl) rfl ?_
     refine wpl_q (q_slWh Tryd.underlying143 Tryd.ti64 rfl rfl zz4 zz14) rfl ?_
     refine wpl_q (q_lenW Tryd.underlying143 rfl zz4) rfl ?_
     refine wpl_q (q_pure rfl) rfl <| wpl_nil <| ex_then <| wpc_block ?_
     refine wpc_loopc (ι := { x : Nat × Value // (x.1 ≤ m) ∧ (SV x.2 x.1) }) [(2, _), (8, _), (11, _), (41, _), (42, _)] (fun x Lc => (43, .int .i64 ((x.1.1 : Nat) : Int)) :: Lc) (fun x => Mem w [] [.row x.1.2 x.1.1 61 16 (v8s (pathF xs q x.1.1).flatten), .row b39.1 (m + 1) 64 1 (b39.2.map Prod.fst), .blk b11 66 [.int .i64 ((q : Nat) : Int), b36, x.1.2], .row b36 35 61 16 (v8s (signF (leafF xs q) bs).flatten), .blk b10 145 (v8s xs ++ [Value.int .i64 ((m : Nat) : Int)]), .blk b8 66 [.int .i64 0, .slice none 0 0, .slice none 0 0]] [rowsF 16 b39.2]) (fun x => m - x.1.1) ⟨(0, .slice none 0 0), ⟨Nat.zero_le _, SV.nil⟩⟩ zz10 ?_ ?_
     ·
      exact fun w h => by
        dsimp only
        exact (h.nilRow 61 16).sub (.keep (.keep (.keep (.keep (.keep (.keep .nil)))))) (Sub.refl _)
     ·
      rintro ⟨⟨k, vp⟩, ⟨hi0, hi1⟩⟩; try dsimp only
      have hi0 : k ≤ m := hi0; have hi1 : SV vp k := hi1
      refine wpc_seq <| wpc_region <| wpl_q (q_pure rfl) rfl <| wpl_nil <| ex_then <| wpc_seq ?_
      refine wpc_cond rfl (fun hc44 => ?_) (fun hc44 => ?_)
      ·
       simp only [decide_eq_true_eq] at hc44
       have hkm : k < m := by omega
       obtain ⟨u, hu1, hu2, hu3⟩ := hq2.get (show k < m + 1 from zz14)
       have hsl := sib_lt hq hkm
       have hqk : q / 2 ^ k ≤ q := Nat.div_le_self _ _
       have hpk : 2 ^ k ≤ 16 := pow_le16 zz14
       have hll := lev_length xs k (2 ^ (m - k))
       have hla := lev_all xs k (2 ^ (m - k))
       have hgl := getD_mem_len hla (i := ((q / 2 ^ k) ^^^ 1)) (by rw [hll]; exact hsl)
       refine wpc_skip <| ex_then <| wpc_seq <| wpc_block <| wpc_seq <| wpc_region <| wpl_q (q_pure rfl) rfl ?_
       refine wpl_q (q_idxW1 Tryd.underlying143 Tryd.ti64 rfl rfl zz4 zz1) rfl ?_
       refine wpl_q (q_ldW Tryd.underlying64 rfl rfl (fun w h => h.seenV.slv 0 m (Nat.zero_le _) zz14) (by rw [Nat.zero_mul, List.drop_zero, List.getElem?_take, if_pos zz14]; exact hu1)) rfl ?_
       refine wpl_q (q_pure rfl) rfl <| wpl_q (q_pure rfl) rfl <| wpl_nil <| ex_then ?_
       refine wpc_draw 10 zz6 (fun _ h => h.drew) ?_
       refine wpd_p 0 rfl zz6 trivial (q_field Tryd.underlying66 rfl Tryd.ti64 rfl rfl _ rfl) rfl sk0 ?_
       refine wpd_q 1 rfl zz6 trivial (q_ld Tryd.underlying64 rfl rfl rfl) rfl (fun _ h => h) ?_
       refine wpd_p 2 rfl zz6 trivial (q_pure rfl) rfl sk0 ?_
       refine wpd_p 3 rfl zz6 trivial (q_pure rfl) rfl sk0 ?_
       refine wpd_p 4 rfl zz6 trivial (q_pure rfl) rfl sk0 ?_
       refine wpd_p 5 rfl zz6 trivial (q_shrN rfl rfl zz30) rfl sk0 ?_
       refine wpd_p 6 rfl zz6 trivial (q_xorN (b := 1) rfl rfl zz1 zz1) rfl sk0 ?_
       refine wpd_p 7 rfl zz6 trivial (q_idxW Tryd.underlying64 Tryd.ti61 rfl rfl zz4 zz1) rfl sk0 ?_
       refine wpd_qB 8 [9, 10] rfl zz6 trivial (q_ldWN Tryd.underlying61 rfl Tryd.ti61 rfl (fun w h => h.rowsF zz7 hu2) (v8s ((lev xs k (2 ^ (m - k))).getD ((q / 2 ^ k) ^^^ 1) [])) (part8 hla (by rw [hll]; exact hsl)) ((v8s_length _).trans hgl)) rfl (fun _ h => h) ?_
       refine wpd_tp 9 rfl zz6 trivial (t_bsS [_] Tryd.underlying64 Tryd.ti61 rfl zz19 rfl zz19 zz19 rfl (all_one zz20)) rfl (fun _ => (fun w h => .inr (h.sub SubC.h SubC.h))) (fun b57 p57 => ?_)
       refine wpd_tp 10 rfl zz6 trivial (t_apW Tryd.underlying64 Tryd.ti61 rfl zz19 rfl rfl (fun w h => zz11) zz3 zz1 zz1 (v8s (pathF xs q (k + 1)).flatten) (by rw [pathF_succ, List.flatten_append, v8s_append, ← lev_get xs k (2 ^ (m - k)) ((q / 2 ^ k) ^^^ 1) hsl])) rfl (fun _ => skk rfl) (fun b58 p58 => ?_)
       refine wpd_p 11 rfl zz6 trivial (q_field Tryd.underlying66 rfl Tryd.ti64 rfl rfl _ rfl) rfl (skk rfl) ?_
       refine wpd_t0 12 rfl zz6 trivial (t_st1 Tryd.ti64 rfl rfl (SV.one zz4) zz5 _ rfl) (fun _ => skk rfl) (fun _ => ?_)
       refine wpd_done zz6 ?_
       refine ex_block <| ex_then <| wpc_region ?_
       refine wpl_q (q_addN (b := 1) rfl rfl zz1) rfl ?_
       refine wpl_q (q_pure rfl) rfl <| wpl_nil ?_
       refine ex_again ⟨(k + 1, b58), ⟨zz14, p58⟩⟩ ?_ ?_ ?_
       ·
        exact zz10
       ·
        exact fun w h => h.sub (.drop (Sub.refl _)) (Sub.refl _)
       ·
        (show m - (k + 1) < m - k); omega
      ·
       simp only [decide_eq_false_iff_not] at hc44
       obtain rfl : k = m := by omega
       refine wpc_exit ?_
       refine ex_then_exit ?_
       refine ex_then_exit ?_
       refine ex_block_hit ?_
       refine ex_then <| wpc_seq <| wpc_region ?_
       refine wpl_q (q_ldN Tryd.underlying66 rfl Tryd.ti66 rfl zz2) rfl ?_
       refine wpl_t0 (t_stA Tryd.ti66 rfl rfl zz2 zz3 zz2) (fun _ => ?_)
       refine wpl_q (q_pure rfl) rfl <| wpl_nil <| ex_then <| wpc_ret ?_
       refine retv2 (.inl rfl) rfl (rv_agg Tryd.underlying66 rfl Tryd.ti66 rfl (fun w h => h.atB) rfl) (rv_tmp rfl) ?_
       exact fun w h => by
         rw [e1, e2, e3, e4, signF_length, pathF_length]
         exact ⟨(b36, vp), ⟨p36, hi1⟩, rfl, h.below, by first | exact h.made (.keep (.keep .nil)) .nil | exact (h.sub (M' := [_, _]) SubC.h .nil).swap.made (.keep (.keep .nil)) .nil⟩
end Go.Proofs.YtjpfhkjmjnjggaaDoor
namespace Go.Proofs.YtjpfhkjmjnjggaaDoor
open Go Go.PL Go.RowKit
theorem node_bound {i k : Nat} (hi : i ≤ 100) (hk : k ≤ 4) : (i + 1) * 2 ^ k ≤ 2 ^ 40 := Nat.le_trans (Nat.mul_le_mul (show i + 1 ≤ 101 from zz14) (pow_le16 hk)) zz19
theorem sib_eq (j : Nat) : j ^^^ 1 = if j % 2 = 1 then j - 1 else j + 1 := by
  have h := Nat.div_add_mod j 2
  split
  · rename_i h1
    have e : j = 2 * (j / 2) + 1 := by omega
    generalize j / 2 = c at e
    subst e
    rw [show 2 * c + 1 - 1 = 2 * c from zz14]
    apply Nat.eq_of_testBit_eq
    intro i
    cases i with
    | zero => simp [Nat.testBit_zero, Nat.testBit_xor]
    | succ i => simp [Nat.testBit_succ, Nat.xor_div_two]; congr 1; omega
  · have e : j = 2 * (j / 2) := by omega
    generalize j / 2 = c at e
    subst e
    apply Nat.eq_of_testBit_eq
    intro i
    cases i with
    | zero => simp [Nat.testBit_zero, Nat.testBit_xor]
    | succ i => simp [Nat.testBit_succ, Nat.xor_div_two]; congr 1; omega
theorem refNode0 (xs : List UInt8) (i : Nat) (w : World) (hxs : xs.length = 16)  :
    Calls Tryd.prog 99 [.agg (v8s xs).toArray, .int .i64 ((0 : Nat) : Int), .int .i64 ((i : Nat) : Int)].toArray w (Pur w (.agg (v8s (nodeF xs 0 i)).toArray)) := by
  refine enter (m := 27) (R := Mem w [] [] []) Tryd.func99 rfl rfl (Nat.le_of_ble_eq_true rfl) (Mem.start w) ?_
  refine wpc_seq <| wpc_region ?_
  refine wpl_t (t_box rfl (v8s xs) rfl) rfl (fun b3 => ?_)
  refine wpl_t (t_alloc Tryd.ti61 (v8s (List.replicate 16 0)) (by rfl)) rfl (fun b6 => ?_)
  refine wpl_nil <| ex_then <| wpc_seq <| wpc_seq <| wpc_region <| wpl_q (q_pure rfl) rfl <| wpl_q (q_pure rfl) rfl <| wpl_nil <| ex_then ?_
  refine wpc_cond rfl (fun hc8 => ?_) (fun hc8 => ?_)
  ·
   try simp only [decide_eq_true_eq, decide_eq_false_iff_not, Bool.and_eq_true, Bool.or_eq_true, beq_iff_eq, bne_iff_ne, ne_eq, Bool.not_eq_true', Bool.not_eq_false', Decidable.not_not] at hc8
   refine wpc_seq <| wpc_region ?_
   refine wpl_q (q_ldN Tryd.underlying61 rfl Tryd.ti61 rfl zz2) rfl ?_
   refine wpl_q (q_pure rfl) rfl ?_
   refine wpl_t (t_pur Tryd.hb101 rfl fun w h => refSeed7 _ _ w zz20) rfl (fun b11 => ?_)
   refine wpl_t (t_pur Tryd.hb119 rfl fun w h => refPublic _ w zz20) rfl (fun b12 => ?_)
   refine wpl_t0 (t_stA Tryd.ti61 rfl rfl zz2 (v8s_one _) zz2) (fun _ => ?_)
   refine wpl_nil <| ex_then <| wpc_ret ?_
   refine ex_then_ret ?_
   refine retv1 (.inl rfl) rfl (rv_agg Tryd.underlying61 rfl Tryd.ti61 rfl (fun w h => h.atB) zz2) ?_
   exact fun w h => ⟨rfl, h.below⟩
  ·
   simp at hc8
theorem refNodeS (xs : List UInt8) (l : Nat) (i : Nat) (N : Nat) (w : World) (hxs : xs.length = 16) (ih : ∀ (i : Nat) (w : World), i + 1 ≤ N → Calls Tryd.prog 99 [.agg (v8s xs).toArray, .int .i64 ((l : Nat) : Int), .int .i64 ((i : Nat) : Int)].toArray w (Pur w (.agg (v8s (nodeF xs l i)).toArray))) (hN : 2 * (i + 1) ≤ N) (hN2 : N ≤ 2 ^ 41) (hl : l ≤ 1000) :
    Calls Tryd.prog 99 [.agg (v8s xs).toArray, .int .i64 ((l + 1 : Nat) : Int), .int .i64 ((i : Nat) : Int)].toArray w (Pur w (.agg (v8s (nodeF xs (l + 1) i)).toArray)) := by
  have hn1 := nodeF_length xs l (2 * i)
  have hn2 := nodeF_length xs l (2 * i + 1)
  refine enter (m := 27) (R := Mem w [] [] []) Tryd.func99 rfl rfl (Nat.le_of_ble_eq_true rfl) (Mem.start w) ?_
  refine wpc_seq <| wpc_region ?_
  refine wpl_t (t_box rfl (v8s xs) rfl) rfl (fun b3 => ?_)
  refine wpl_t (t_alloc Tryd.ti61 (v8s (List.replicate 16 0)) (by rfl)) rfl (fun b6 => ?_)
  refine wpl_nil <| ex_then <| wpc_seq <| wpc_seq <| wpc_region <| wpl_q (q_pure rfl) rfl <| wpl_q (q_pure rfl) rfl <| wpl_nil <| ex_then ?_
  refine wpc_cond rfl (fun hc8 => ?_) (fun hc8 => ?_)
  ·
   simp at hc8; omega
  ·
   try simp only [decide_eq_true_eq, decide_eq_false_iff_not, Bool.and_eq_true, Bool.or_eq_true, beq_iff_eq, bne_iff_ne, ne_eq, Bool.not_eq_true', Bool.not_eq_false', Decidable.not_not] at hc8
   refine wpc_skip <| ex_then <| wpc_seq ?_
   refine wpc_draw 14 zz6 (fun _ h => h.drew) ?_
   refine wpd_q 0 rfl zz6 trivial (q_ldN Tryd.underlying61 rfl Tryd.ti61 rfl zz2) rfl (fun _ h => h) ?_
   refine wpd_p 1 rfl zz6 trivial (q_pure rfl) rfl sk0 ?_
   refine wpd_p 2 rfl zz6 trivial (q_subN (b := 1) rfl rfl zz14 zz1) rfl sk0 ?_
   refine wpd_p 3 rfl zz6 trivial (q_pure rfl) rfl sk0 ?_
   refine wpd_p 4 rfl zz6 trivial (q_mulN (a := 2) rfl rfl zz1) rfl sk0 ?_
   refine wpd_q 6 rfl zz6 trivial (q_ldN Tryd.underlying61 rfl Tryd.ti61 rfl zz2) rfl (fun _ h => h) ?_
   refine wpd_p 7 rfl zz6 trivial (q_pure rfl) rfl sk0 ?_
   refine wpd_p 8 rfl zz6 trivial (q_subN (b := 1) rfl rfl zz14 zz1) rfl sk0 ?_
   refine wpd_p 9 rfl zz6 trivial (q_pure rfl) rfl sk0 ?_
   refine wpd_p 10 rfl zz6 trivial (q_mulN (a := 2) rfl rfl zz1) rfl sk0 ?_
   refine wpd_p 11 rfl zz6 trivial (q_addN (b := 1) rfl rfl zz1) rfl sk0 ?_
   refine wpd_t 5 rfl zz6 trivial (t_pur Tryd.hb99 rfl fun w h => ih (2 * i) w zz14) rfl (fun _ => sk0) (fun b18 => ?_)
   refine wpd_t 12 rfl zz6 trivial (t_pur Tryd.hb99 rfl fun w h => ih (2 * i + 1) w zz14) rfl (fun _ => sk0) (fun b25 => ?_)
   refine wpd_t 13 rfl zz6 trivial (t_pur Tryd.hb95 rfl fun w h => refJoined7 _ _ w zz20 zz20) rfl (fun _ => sk0) (fun b26 => ?_)
   refine wpd_t0 14 rfl zz6 trivial (t_stA Tryd.ti61 rfl rfl zz2 (v8s_one _) zz2) (fun _ => skk rfl) (fun _ => ?_)
   refine wpd_done zz6 ?_
   refine ex_then <| wpc_ret ?_
   refine retv1 (.inl rfl) rfl (rv_agg Tryd.underlying61 rfl Tryd.ti61 rfl (fun w h => h.atB) zz2) ?_
   exact fun w h => ⟨rfl, h.below⟩
theorem refNode7 (xs : List UInt8) : ∀ (l i : Nat) (w : World), xs.length = 16 → (i + 1) * 2 ^ l ≤ 2 ^ 40 → Calls Tryd.prog 99 [.agg (v8s xs).toArray, .int .i64 ((l : Nat) : Int), .int .i64 ((i : Nat) : Int)].toArray w (Pur w (.agg (v8s (nodeF xs l i)).toArray))
  | 0, i, w, hx, _ => refNode0 xs i w hx
  | l + 1, i, w, hx, hb => by
    have h1 : 2 * (i + 1) * 2 ^ l ≤ 2 ^ 40 := by rw [Nat.mul_comm 2, Nat.mul_assoc, ← Nat.pow_succ']; exact hb
    have h2 : 2 * (i + 1) ≤ 2 * (i + 1) * 2 ^ l := Nat.le_mul_of_pos_right _ (Nat.two_pow_pos l)
    exact refNodeS xs l i (2 * (i + 1)) w hx (fun j w hj => refNode7 xs l j w hx (Nat.le_trans (Nat.mul_le_mul_right _ hj) h1)) (Nat.le_refl _) zz14 (by
      have h3 : 2 ^ l ≤ 2 ^ 40 := Nat.le_trans (Nat.le_mul_of_pos_left _ (show 0 < 2 * (i + 1) from zz14)) h1
      have := (Nat.pow_le_pow_iff_right (show 1 < 2 from zz19)).1 h3
      omega)
theorem refKey7 (xs : List UInt8) (ht : Int) (w : World) (hxs : xs.length = 16)  :
    Calls Tryd.prog 81 [.agg (v8s xs).toArray, .int .i64 ht].toArray w (Pur w (.tuple #[.agg (v8s (keyR xs ht) ++ [Value.int .i64 (keyH ht)]).toArray, .int .i64 (keyE ht)])) := by
  refine enter (m := 18) (R := Mem w [] [] []) Tryd.func81 rfl rfl (Nat.le_of_ble_eq_true rfl) (Mem.start w) ?_
  refine wpc_seq <| wpc_region ?_
  refine wpl_t (t_box rfl (v8s xs) rfl) rfl (fun b2 => ?_)
  refine wpl_t (t_alloc Tryd.ti63 _ rfl) rfl (fun b4 => ?_)
  refine wpl_q (q_pure rfl) rfl <| wpl_nil <| ex_then <| wpc_seq <| wpc_seq <| wpc_region <| wpl_q (q_pure rfl) rfl <| wpl_q (q_pure rfl) rfl <| wpl_q (q_pure rfl) rfl ?_
  refine wpl_bool2 8 7 rfl rfl (fun hb8 => ?_) (fun hb8 => ?_)
  ·
   try simp only [decide_eq_true_eq, decide_eq_false_iff_not, Bool.and_eq_true, Bool.or_eq_true, beq_iff_eq, bne_iff_ne, ne_eq, Bool.not_eq_true', Bool.not_eq_false', Decidable.not_not] at hb8
   refine wpl_off rfl rfl rfl rfl <| wpl_off rfl rfl rfl rfl <| wpl_q (q_pure rfl) rfl <| wpl_nil <| ex_then ?_
   refine wpc_cond_t rfl ?_
   refine wpc_seq <| wpc_region ?_
   refine wpl_q (q_build (cs := v8s (List.replicate 16 0) ++ [Value.int .i64 0]) rfl built_key0) rfl ?_
   refine wpl_t0 (t_stA Tryd.ti63 rfl rfl zz2 zz3 zz2) (fun _ => ?_)
   refine wpl_q (q_pure rfl) rfl <| wpl_nil <| ex_then <| wpc_ret ?_
   refine ex_then_ret ?_
   refine retv2 (.inl rfl) rfl (rv_agg Tryd.underlying63 rfl Tryd.ti63 rfl (fun w h => h.atB) (key_len _ _ zz20)) (rv_tmp rfl) ?_
   exact fun w h => by
     have hc8 : ¬ (0 ≤ ht ∧ ht ≤ 4) := by first | omega | (simp only [decide_eq_true_eq] at *; omega)
     have e1 : keyR xs ht = (List.replicate 16 0) := if_neg hc8
     have e2 : keyH ht = 0 := if_neg hc8
     have e3 : keyE ht = 2 := if_neg hc8
     exact ⟨by rw [e1, e2, e3], h.below⟩
  ·
   try simp only [decide_eq_true_eq, decide_eq_false_iff_not, Bool.and_eq_true, Bool.or_eq_true, beq_iff_eq, bne_iff_ne, ne_eq, Bool.not_eq_true', Bool.not_eq_false', Decidable.not_not] at hb8
   refine wpl_on rfl rfl <| wpl_q (q_pure rfl) rfl <| wpl_on rfl rfl <| wpl_q (q_pure rfl) rfl <| wpl_q (q_pure rfl) rfl <| wpl_nil <| ex_then ?_
   refine wpc_cond rfl (fun hc11 => ?_) (fun hc11 => ?_)
   ·
    try simp only [decide_eq_true_eq, decide_eq_false_iff_not, Bool.and_eq_true, Bool.or_eq_true, beq_iff_eq, bne_iff_ne, ne_eq, Bool.not_eq_true', Bool.not_eq_false', Decidable.not_not] at hc11
    refine wpc_seq <| wpc_region ?_
    refine wpl_q (q_build (cs := v8s (List.replicate 16 0) ++ [Value.int .i64 0]) rfl built_key0) rfl ?_
    refine wpl_t0 (t_stA Tryd.ti63 rfl rfl zz2 zz3 zz2) (fun _ => ?_)
    refine wpl_q (q_pure rfl) rfl <| wpl_nil <| ex_then <| wpc_ret ?_
    refine ex_then_ret ?_
    refine retv2 (.inl rfl) rfl (rv_agg Tryd.underlying63 rfl Tryd.ti63 rfl (fun w h => h.atB) (key_len _ _ zz20)) (rv_tmp rfl) ?_
    exact fun w h => by
      have hc8 : ¬ (0 ≤ ht ∧ ht ≤ 4) := by first | omega | (simp only [decide_eq_true_eq] at *; omega)
      have e1 : keyR xs ht = (List.replicate 16 0) := if_neg hc8
      have e2 : keyH ht = 0 := if_neg hc8
      have e3 : keyE ht = 2 := if_neg hc8
      exact ⟨by rw [e1, e2, e3], h.below⟩
   ·
    simp only [decide_eq_false_iff_not] at hc11
    obtain ⟨m, rfl⟩ : ∃ m : Nat, ht = (m : Int) := ⟨ht.toNat, zz14⟩
    have hok : 0 ≤ (m : Int) ∧ (m : Int) ≤ 4 := by omega
    have e1 : keyR xs m = nodeF xs m 0 := if_pos hok
    have e2 : keyH m = m := if_pos hok
    have e3 : keyE m = 0 := if_pos hok
    refine wpc_skip <| ex_then <| wpc_seq <| wpc_region ?_
    refine wpl_q (q_ldN Tryd.underlying61 rfl Tryd.ti61 rfl zz2) rfl ?_
    refine wpl_q (q_pure rfl) rfl ?_
    refine wpl_t (t_pur Tryd.hb99 rfl fun w h => refNode7 xs m 0 w zz20 (node_bound zz14 zz14)) rfl (fun b15 => ?_)
    refine wpl_q (q_pure rfl) rfl ?_
    refine wpl_q (q_build (cs := v8s (nodeF xs m 0) ++ [Value.int .i64 ((m : Nat) : Int)]) rfl (built_key _ _ (nodeF_length _ _ _))) rfl ?_
    refine wpl_t0 (t_stA Tryd.ti63 rfl rfl zz2 zz3 zz2) (fun _ => ?_)
    refine wpl_q (q_pure rfl) rfl <| wpl_nil <| ex_then <| wpc_ret ?_
    refine retv2 (.inl rfl) rfl (rv_agg Tryd.underlying63 rfl Tryd.ti63 rfl (fun w h => h.atB) (key_len _ _ zz20)) (rv_tmp rfl) ?_
    exact fun w h => ⟨by rw [e1, e2, e3], h.below⟩
theorem refSign7 (xs : List UInt8) (ht : Int) (idx : Int) (bv : Value) (bs : List UInt8) (w : World) (hxs : xs.length = 16) (hbv : Seen w.cell? bv bs.length 1 (v8s bs)) (hbl : bs.length ≤ 100000) :
    Calls Tryd.prog 82 [.agg (v8s xs).toArray, .int .i64 ht, .int .i64 idx, bv].toArray w (GivesP w (fun x : Value × Value => SV x.1 (sigC xs ht idx bs).length ∧ SV x.2 (sigP xs ht idx).length) (fun x : Value × Value => .tuple #[.agg #[.int .i64 (sigI ht idx), x.1, x.2], .int .i64 (sigE ht idx)]) (fun x => [.row x.1 (sigC xs ht idx bs).length 61 16 (v8s (sigC xs ht idx bs).flatten), .row x.2 (sigP xs ht idx).length 61 16 (v8s (sigP xs ht idx).flatten)]) (fun _ => [])) := by
  have sbv := hbv.sv
  have lbv := sbv.le
  simp only [maxLen] at lbv
  refine enter (m := 63) (R := Mem w [] [] []) Tryd.func82 rfl rfl (Nat.le_of_ble_eq_true rfl) (Mem.start w) ?_
  refine wpc_seq <| wpc_region ?_
  refine wpl_t (t_box rfl (v8s xs) rfl) rfl (fun b4 => ?_)
  refine wpl_t (t_alloc Tryd.ti66 _ rfl) rfl (fun b8 => ?_)
  refine wpl_q (q_pure rfl) rfl <| wpl_nil <| ex_then <| wpc_seq <| wpc_seq <| wpc_region <| wpl_q (q_pure rfl) rfl <| wpl_q (q_pure rfl) rfl <| wpl_q (q_pure rfl) rfl ?_
  refine wpl_bool2 16 15 rfl rfl (fun hb16 => ?_) (fun hb16 => ?_)
  ·
   try simp only [decide_eq_true_eq, decide_eq_false_iff_not, Bool.and_eq_true, Bool.or_eq_true, beq_iff_eq, bne_iff_ne, ne_eq, Bool.not_eq_true', Bool.not_eq_false', Decidable.not_not] at hb16
   refine wpl_off rfl rfl rfl rfl <| wpl_off rfl rfl rfl rfl <| wpl_q (q_pure rfl) rfl <| wpl_q (q_pure rfl) rfl <| wpl_off rfl rfl rfl rfl <| wpl_off rfl rfl rfl rfl <| wpl_q (q_pure rfl) rfl <| wpl_q (q_pure rfl) rfl <| wpl_off rfl rfl rfl rfl <| wpl_off rfl rfl rfl rfl <| wpl_off rfl rfl rfl rfl <| wpl_off rfl rfl rfl rfl ?_
   refine wpl_q (q_pure rfl) rfl <| wpl_nil <| ex_then ?_
   refine wpc_cond_t rfl ?_
   refine wpc_seq <| wpc_region ?_
   refine wpl_q (q_build (cs := [.int .i64 0, .slice none 0 0, .slice none 0 0]) rfl built_sig0) rfl ?_
   refine wpl_t0 (t_stA Tryd.ti66 rfl rfl zz2 zz3 zz2) (fun _ => ?_)
   refine wpl_q (q_pure rfl) rfl <| wpl_nil <| ex_then <| wpc_ret ?_
   refine ex_then_ret ?_
   refine retv2 (.inl rfl) rfl (rv_agg Tryd.underlying66 rfl Tryd.ti66 rfl (fun w h => h.atB) rfl) (rv_tmp rfl) ?_
   exact fun w h => by
     first
     | (
       have hno : ¬ okS ht idx := fun hk => by
         obtain ⟨h1, h2, h3⟩ := hk
         try rw [Int.toNat_natCast] at h3
         first | omega | (simp only [Bool.not_eq_true', decide_eq_false_iff_not, decide_eq_true_eq] at *; omega) | (simp_all; done)
       have e1 : sigC xs ht idx bs = [] := if_neg hno
       have e2 : sigP xs ht idx = [] := if_neg hno
       have e3 : sigI ht idx = 0 := if_neg hno
       have e4 : sigE ht idx = 2 := if_neg hno
       rw [e1, e2, e3, e4]
       exact ⟨(.slice none 0 0, .slice none 0 0), ⟨SV.nil, SV.nil⟩, rfl, h.below, ((h.nilRow 61 16).nilRow 61 16).made (.keep (.keep .nil)) .nil⟩)
     | (
       have hno : ¬ okS (m : Int) idx := fun hk => by
         obtain ⟨h1, h2, h3⟩ := hk
         try rw [Int.toNat_natCast] at h3
         first | omega | (simp only [Bool.not_eq_true', decide_eq_false_iff_not, decide_eq_true_eq] at *; omega) | (simp_all; done)
       have e1 : sigC xs (m : Int) idx bs = [] := if_neg hno
       have e2 : sigP xs (m : Int) idx = [] := if_neg hno
       have e3 : sigI (m : Int) idx = 0 := if_neg hno
       have e4 : sigE (m : Int) idx = 2 := if_neg hno
       rw [e1, e2, e3, e4]
       exact ⟨(.slice none 0 0, .slice none 0 0), ⟨SV.nil, SV.nil⟩, rfl, h.below, ((h.nilRow 61 16).nilRow 61 16).made (.keep (.keep .nil)) .nil⟩)
  ·
   try simp only [decide_eq_true_eq, decide_eq_false_iff_not, Bool.and_eq_true, Bool.or_eq_true, beq_iff_eq, bne_iff_ne, ne_eq, Bool.not_eq_true', Bool.not_eq_false', Decidable.not_not] at hb16
   refine wpl_on rfl rfl <| wpl_q (q_pure rfl) rfl <| wpl_on rfl rfl <| wpl_q (q_pure rfl) rfl <| wpl_q (q_pure rfl) rfl <| wpl_q (q_pure rfl) rfl ?_
   refine wpl_bool2 20 18 rfl rfl (fun hb20 => ?_) (fun hb20 => ?_)
   ·
    try simp only [decide_eq_true_eq, decide_eq_false_iff_not, Bool.and_eq_true, Bool.or_eq_true, beq_iff_eq, bne_iff_ne, ne_eq, Bool.not_eq_true', Bool.not_eq_false', Decidable.not_not] at hb20
    refine wpl_off rfl rfl rfl rfl <| wpl_off rfl rfl rfl rfl <| wpl_q (q_pure rfl) rfl <| wpl_q (q_pure rfl) rfl <| wpl_off rfl rfl rfl rfl <| wpl_off rfl rfl rfl rfl <| wpl_off rfl rfl rfl rfl <| wpl_off rfl rfl rfl rfl <| wpl_q (q_pure rfl) rfl <| wpl_nil <| ex_then ?_
    refine wpc_cond_t rfl ?_
    refine wpc_seq <| wpc_region ?_
    refine wpl_q (q_build (cs := [.int .i64 0, .slice none 0 0, .slice none 0 0]) rfl built_sig0) rfl ?_
    refine wpl_t0 (t_stA Tryd.ti66 rfl rfl zz2 zz3 zz2) (fun _ => ?_)
    refine wpl_q (q_pure rfl) rfl <| wpl_nil <| ex_then <| wpc_ret ?_
    refine ex_then_ret ?_
    refine retv2 (.inl rfl) rfl (rv_agg Tryd.underlying66 rfl Tryd.ti66 rfl (fun w h => h.atB) rfl) (rv_tmp rfl) ?_
    exact fun w h => by
      first
      | (
        have hno : ¬ okS ht idx := fun hk => by
          obtain ⟨h1, h2, h3⟩ := hk
          try rw [Int.toNat_natCast] at h3
          first | omega | (simp only [Bool.not_eq_true', decide_eq_false_iff_not, decide_eq_true_eq] at *; omega) | (simp_all; done)
        have e1 : sigC xs ht idx bs = [] := if_neg hno
        have e2 : sigP xs ht idx = [] := if_neg hno
        have e3 : sigI ht idx = 0 := if_neg hno
        have e4 : sigE ht idx = 2 := if_neg hno
        rw [e1, e2, e3, e4]
        exact ⟨(.slice none 0 0, .slice none 0 0), ⟨SV.nil, SV.nil⟩, rfl, h.below, ((h.nilRow 61 16).nilRow 61 16).made (.keep (.keep .nil)) .nil⟩)
      | (
        have hno : ¬ okS (m : Int) idx := fun hk => by
          obtain ⟨h1, h2, h3⟩ := hk
          try rw [Int.toNat_natCast] at h3
          first | omega | (simp only [Bool.not_eq_true', decide_eq_false_iff_not, decide_eq_true_eq] at *; omega) | (simp_all; done)
        have e1 : sigC xs (m : Int) idx bs = [] := if_neg hno
        have e2 : sigP xs (m : Int) idx = [] := if_neg hno
        have e3 : sigI (m : Int) idx = 0 := if_neg hno
        have e4 : sigE (m : Int) idx = 2 := if_neg hno
        rw [e1, e2, e3, e4]
        exact ⟨(.slice none 0 0, .slice none 0 0), ⟨SV.nil, SV.nil⟩, rfl, h.below, ((h.nilRow 61 16).nilRow 61 16).made (.keep (.keep .nil)) .nil⟩)
   ·
    try simp only [decide_eq_false_iff_not] at hb20
    obtain ⟨m, rfl⟩ : ∃ m : Nat, ht = (m : Int) := ⟨ht.toNat, zz14⟩
    have hpw := pow_le16 (m := m) zz14
    refine wpl_on rfl rfl <| wpl_q (q_pure rfl) rfl <| wpl_on rfl rfl <| wpl_q (q_pure rfl) rfl <| wpl_q (q_pure rfl) rfl <| wpl_q (q_pure rfl) rfl ?_
    refine wpl_bool2 24 22 rfl rfl (fun hb24 => ?_) (fun hb24 => ?_)
    ·
     try simp only [decide_eq_true_eq, decide_eq_false_iff_not, Bool.and_eq_true, Bool.or_eq_true, beq_iff_eq, bne_iff_ne, ne_eq, Bool.not_eq_true', Bool.not_eq_false', Decidable.not_not] at hb24
     refine wpl_off rfl rfl rfl rfl <| wpl_off rfl rfl rfl rfl <| wpl_off rfl rfl rfl rfl <| wpl_off rfl rfl rfl rfl <| wpl_q (q_pure rfl) rfl <| wpl_nil <| ex_then ?_
     refine wpc_cond_t rfl ?_
     refine wpc_seq <| wpc_region ?_
     refine wpl_q (q_build (cs := [.int .i64 0, .slice none 0 0, .slice none 0 0]) rfl built_sig0) rfl ?_
     refine wpl_t0 (t_stA Tryd.ti66 rfl rfl zz2 zz3 zz2) (fun _ => ?_)
     refine wpl_q (q_pure rfl) rfl <| wpl_nil <| ex_then <| wpc_ret ?_
     refine ex_then_ret ?_
     refine retv2 (.inl rfl) rfl (rv_agg Tryd.underlying66 rfl Tryd.ti66 rfl (fun w h => h.atB) rfl) (rv_tmp rfl) ?_
     exact fun w h => by
       first
       | (
         have hno : ¬ okS ht idx := fun hk => by
           obtain ⟨h1, h2, h3⟩ := hk
           try rw [Int.toNat_natCast] at h3
           first | omega | (simp only [Bool.not_eq_true', decide_eq_false_iff_not, decide_eq_true_eq] at *; omega) | (simp_all; done)
         have e1 : sigC xs ht idx bs = [] := if_neg hno
         have e2 : sigP xs ht idx = [] := if_neg hno
         have e3 : sigI ht idx = 0 := if_neg hno
         have e4 : sigE ht idx = 2 := if_neg hno
         rw [e1, e2, e3, e4]
         exact ⟨(.slice none 0 0, .slice none 0 0), ⟨SV.nil, SV.nil⟩, rfl, h.below, ((h.nilRow 61 16).nilRow 61 16).made (.keep (.keep .nil)) .nil⟩)
       | (
         have hno : ¬ okS (m : Int) idx := fun hk => by
           obtain ⟨h1, h2, h3⟩ := hk
           try rw [Int.toNat_natCast] at h3
           first | omega | (simp only [Bool.not_eq_true', decide_eq_false_iff_not, decide_eq_true_eq] at *; omega) | (simp_all; done)
         have e1 : sigC xs (m : Int) idx bs = [] := if_neg hno
         have e2 : sigP xs (m : Int) idx = [] := if_neg hno
         have e3 : sigI (m : Int) idx = 0 := if_neg hno
         have e4 : sigE (m : Int) idx = 2 := if_neg hno
         rw [e1, e2, e3, e4]
         exact ⟨(.slice none 0 0, .slice none 0 0), ⟨SV.nil, SV.nil⟩, rfl, h.below, ((h.nilRow 61 16).nilRow 61 16).made (.keep (.keep .nil)) .nil⟩)
    ·
     try simp only [decide_eq_true_eq, decide_eq_false_iff_not, Bool.and_eq_true, Bool.or_eq_true, beq_iff_eq, bne_iff_ne, ne_eq, Bool.not_eq_true', Bool.not_eq_false', Decidable.not_not] at hb24
     refine wpl_on rfl rfl <| wpl_q (q_pure rfl) rfl <| wpl_on rfl rfl <| wpl_q (q_pure rfl) rfl <| wpl_on rfl rfl ?_
     refine wpl_t (t_pur Tryd.hb69 rfl fun w h => refPower7 _ w zz14) rfl (fun b27 => ?_)
     refine wpl_on rfl rfl <| wpl_q (q_pure rfl) rfl <| wpl_q (q_pure rfl) rfl <| wpl_nil <| ex_then ?_
     refine wpc_cond rfl (fun hc29 => ?_) (fun hc29 => ?_)
     ·
      try simp only [decide_eq_true_eq, decide_eq_false_iff_not, Bool.and_eq_true, Bool.or_eq_true, beq_iff_eq, bne_iff_ne, ne_eq, Bool.not_eq_true', Bool.not_eq_false', Decidable.not_not] at hc29
      refine wpc_seq <| wpc_region ?_
      refine wpl_q (q_build (cs := [.int .i64 0, .slice none 0 0, .slice none 0 0]) rfl built_sig0) rfl ?_
      refine wpl_t0 (t_stA Tryd.ti66 rfl rfl zz2 zz3 zz2) (fun _ => ?_)
      refine wpl_q (q_pure rfl) rfl <| wpl_nil <| ex_then <| wpc_ret ?_
      refine ex_then_ret ?_
      refine retv2 (.inl rfl) rfl (rv_agg Tryd.underlying66 rfl Tryd.ti66 rfl (fun w h => h.atB) rfl) (rv_tmp rfl) ?_
      exact fun w h => by
        first
        | (
          have hno : ¬ okS ht idx := fun hk => by
            obtain ⟨h1, h2, h3⟩ := hk
            try rw [Int.toNat_natCast] at h3
            first | omega | (simp only [Bool.not_eq_true', decide_eq_false_iff_not, decide_eq_true_eq] at *; omega) | (simp_all; done)
          have e1 : sigC xs ht idx bs = [] := if_neg hno
          have e2 : sigP xs ht idx = [] := if_neg hno
          have e3 : sigI ht idx = 0 := if_neg hno
          have e4 : sigE ht idx = 2 := if_neg hno
          rw [e1, e2, e3, e4]
          exact ⟨(.slice none 0 0, .slice none 0 0), ⟨SV.nil, SV.nil⟩, rfl, h.below, ((h.nilRow 61 16).nilRow 61 16).made (.keep (.keep .nil)) .nil⟩)
        | (
          have hno : ¬ okS (m : Int) idx := fun hk => by
            obtain ⟨h1, h2, h3⟩ := hk
            try rw [Int.toNat_natCast] at h3
            first | omega | (simp only [Bool.not_eq_true', decide_eq_false_iff_not, decide_eq_true_eq] at *; omega) | (simp_all; done)
          have e1 : sigC xs (m : Int) idx bs = [] := if_neg hno
          have e2 : sigP xs (m : Int) idx = [] := if_neg hno
          have e3 : sigI (m : Int) idx = 0 := if_neg hno
          have e4 : sigE (m : Int) idx = 2 := if_neg hno
          rw [e1, e2, e3, e4]
          exact ⟨(.slice none 0 0, .slice none 0 0), ⟨SV.nil, SV.nil⟩, rfl, h.below, ((h.nilRow 61 16).nilRow 61 16).made (.keep (.keep .nil)) .nil⟩)
     ·
      obtain ⟨q, rfl⟩ : ∃ q : Nat, idx = (q : Int) := ⟨idx.toNat, zz14⟩
      have hq : q < 2 ^ m := by
        simp only [decide_eq_false_iff_not] at hc29
        omega
      have hok : okS (m : Int) (q : Int) := okS_nat zz14 hq
      have e1 : sigC xs m q bs = signF (leafF xs q) bs := if_pos hok
      have e2 : sigP xs m q = pathF xs q m := if_pos hok
      have e3 : sigI m q = q := if_pos hok
      have e4 : sigE m q = 0 := if_pos hok
      refine wpc_skip <| ex_then <| wpc_seq <| wpc_region <| wpl_q (q_pure rfl) rfl ?_
      refine wpl_q (q_ldN Tryd.underlying61 rfl Tryd.ti61 rfl zz2) rfl ?_
      refine wpl_q (q_pure rfl) rfl ?_
      refine wpl_t (t_pur Tryd.hb101 rfl fun w h => refSeed7 _ _ w zz20) rfl (fun b34 => ?_)
      refine wpl_q (q_pure rfl) rfl ?_
      refine wpl_tp (t_callP1 Tryd.hb100 rfl fun w h => refSign _ _ _ w zz20 zz12 zz1) rfl (fun b36 p36 => ?_)
      refine wpl_q (q_build (cs := [.int .i64 ((q : Nat) : Int), b36, .slice none 0 0]) rfl (built_sig2 p36 _)) rfl ?_
      refine wpl_t (t_alloc Tryd.ti66 _ rfl) rfl (fun b10 => ?_)
      refine wpl_t0 (t_stA Tryd.ti66 rfl rfl zz2 zz3 zz2) (fun _ => ?_)
      refine wpl_nil <| ex_then <| wpc_seq <| wpc_region <| wpl_q (q_pure rfl) rfl <| wpl_q (q_pure rfl) rfl <| wpl_nil <| ex_then <| wpc_seq <| wpc_seq <| wpc_region <| wpl_q (q_pure rfl) rfl ?_
      refine wpl_nil <| ex_then <| wpc_block ?_
      refine wpc_loopc (ι := { x : Nat × Nat × Value // (x.1 ≤ m) ∧ (x.2.1 = q / 2 ^ x.1) ∧ (SV x.2.2 x.1) }) [(1, _), (4, _), (8, _), (10, _)] (fun x Lc => (12, .int .i64 ((x.1.1 : Nat) : Int)) :: (11, .int .i64 ((x.1.2.1 : Nat) : Int)) :: Lc) (fun x => Mem w [] [.row x.1.2.2 x.1.1 61 16 (v8s (pathF xs q x.1.1).flatten), .blk b10 66 [.int .i64 ((q : Nat) : Int), b36, x.1.2.2], .row b36 35 61 16 (v8s (signF (leafF xs q) bs).flatten), .blk b8 66 [.int .i64 0, .slice none 0 0, .slice none 0 0], .blk b4 61 (v8s xs)] []) (fun x => m - x.1.1) ⟨(0, q, .slice none 0 0), ⟨Nat.zero_le _, by rw [Nat.pow_zero, Nat.div_one], SV.nil⟩⟩ zz10 ?_ ?_
      ·
       exact fun w h => by
         dsimp only
         exact (h.nilRow 61 16).sub (.keep (.keep (.keep (.keep (.keep .nil))))) (Sub.refl _)
      ·
       rintro ⟨⟨k, j, vp⟩, ⟨hi0, hi1, hi2⟩⟩; try dsimp only
       have hi0 : k ≤ m := hi0; have hi1 : j = q / 2 ^ k := hi1; have hi2 : SV vp k := hi2
       refine wpc_seq <| wpc_seq <| wpc_region <| wpl_q (q_pure rfl) rfl <| wpl_q (q_pure rfl) rfl <| wpl_q (q_pure rfl) rfl <| wpl_nil <| ex_then ?_
       refine wpc_cond rfl (fun hc41 => ?_) (fun hc41 => ?_)
       ·
        simp only [decide_eq_true_eq] at hc41
        have hkm : k < m := by omega
        have hj16 : j ≤ q := hi1 ▸ Nat.div_le_self _ _
        refine wpc_skip <| ex_then <| wpc_seq <| wpc_block <| wpc_seq <| wpc_region <| wpl_q (q_pure rfl) rfl ?_
        refine wpl_q (q_addN (b := 1) rfl rfl zz1) rfl ?_
        refine wpl_q (q_pure rfl) rfl <| wpl_nil <| ex_then <| wpc_seq <| wpc_seq <| wpc_region <| wpl_q (q_pure rfl) rfl ?_
        refine wpl_q (q_remN (b := 2) rfl rfl zz30) rfl ?_
        refine wpl_q (q_pure rfl) rfl <| wpl_nil <| ex_then ?_
        refine wpc_cond rfl (fun hc48 => ?_) (fun hc48 => ?_)
        ·
         try simp only [decide_eq_true_eq, beq_iff_eq] at hc48
         have hx : (q / 2 ^ k) ^^^ 1 = j - 1 := by rw [← hi1, sib_eq, if_pos zz14]
         refine wpc_region <| wpl_q (q_pure rfl) rfl ?_
         refine wpl_q (q_subN (b := 1) rfl rfl zz14 zz1) rfl ?_
         refine wpl_q (q_pure rfl) rfl <| wpl_nil <| ex_then <| wpc_seq ?_
         refine wpc_draw 7 zz6 (fun _ h => h.drew) ?_
         refine wpd_p 0 rfl zz6 trivial (q_field Tryd.underlying66 rfl Tryd.ti64 rfl rfl _ rfl) rfl sk0 ?_
         refine wpd_q 1 rfl zz6 trivial (q_ld Tryd.underlying64 rfl rfl rfl) rfl (fun _ h => h) ?_
         refine wpd_qB 2 [5, 6, 7] rfl zz6 trivial (q_ldN Tryd.underlying61 rfl Tryd.ti61 rfl zz2) rfl (fun _ h => h) ?_
         refine wpd_p 3 rfl zz6 trivial (q_pure rfl) rfl sk0 ?_
         refine wpd_p 4 rfl zz6 trivial (q_pure rfl) rfl sk0 ?_
         refine wpd_t 5 rfl zz6 trivial (t_pur Tryd.hb99 rfl fun w h => refNode7 _ _ _ w zz20 (node_bound zz14 zz14)) rfl (fun _ => sk0) (fun b56 => ?_)
         refine wpd_tp 6 rfl zz6 trivial (t_bsS [_] Tryd.underlying64 Tryd.ti61 rfl zz19 rfl zz19 zz19 rfl (all_one zz20)) rfl (fun _ => (fun w h => .inr (h.sub SubC.h SubC.h))) (fun b57 p57 => ?_)
         refine wpd_tp 7 rfl zz6 trivial (t_apW Tryd.underlying64 Tryd.ti61 rfl zz19 rfl rfl (fun w h => zz11) zz3 zz1 zz1 (v8s (pathF xs q (k + 1)).flatten) (by rw [pathF_succ, List.flatten_append, v8s_append, hx])) rfl (fun _ => skk rfl) (fun b58 p58 => ?_)
         refine wpd_p 8 rfl zz6 trivial (q_field Tryd.underlying66 rfl Tryd.ti64 rfl rfl _ rfl) rfl (skk rfl) ?_
         refine wpd_t0 9 rfl zz6 trivial (t_st1 Tryd.ti64 rfl rfl (SV.one zz4) zz5 _ rfl) (fun _ => skk rfl) (fun _ => ?_)
         refine wpd_done zz6 ?_
         refine ex_then <| wpc_region <| wpl_q (q_pure rfl) rfl ?_
         refine wpl_q (q_quoN (b := 2) rfl rfl zz30 zz1) rfl ?_
         refine wpl_q (q_pure rfl) rfl <| wpl_nil <| ex_block <| ex_then <| wpc_region <| wpl_q (q_pure rfl) rfl ?_
         refine wpl_q (q_addN (b := 1) rfl rfl zz1) rfl ?_
         refine wpl_q (q_pure rfl) rfl <| wpl_nil ?_
         refine ex_again ⟨(k + 1, j / 2, b58), ⟨zz59, by dsimp only; rw [hi1, Nat.pow_succ, Nat.div_div_eq_div_mul], p58⟩⟩ ?_ ?_ ?_
         ·
          exact zz10
         ·
          exact fun w h => h.sub (.drop (Sub.refl _)) (Sub.refl _)
         ·
          (show m - (k + 1) < m - k); omega
        ·
         try simp only [decide_eq_false_iff_not, beq_eq_false_iff_ne, ne_eq] at hc48
         have hx : (q / 2 ^ k) ^^^ 1 = j + 1 := by rw [← hi1, sib_eq, if_neg zz14]
         refine wpc_skip <| ex_then <| wpc_seq ?_
         refine wpc_draw 7 zz6 (fun _ h => h.drew) ?_
         refine wpd_p 0 rfl zz6 trivial (q_field Tryd.underlying66 rfl Tryd.ti64 rfl rfl _ rfl) rfl sk0 ?_
         refine wpd_q 1 rfl zz6 trivial (q_ld Tryd.underlying64 rfl rfl rfl) rfl (fun _ h => h) ?_
         refine wpd_qB 2 [5, 6, 7] rfl zz6 trivial (q_ldN Tryd.underlying61 rfl Tryd.ti61 rfl zz2) rfl (fun _ h => h) ?_
         refine wpd_p 3 rfl zz6 trivial (q_pure rfl) rfl sk0 ?_
         refine wpd_p 4 rfl zz6 trivial (q_pure rfl) rfl sk0 ?_
         refine wpd_t 5 rfl zz6 trivial (t_pur Tryd.hb99 rfl fun w h => refNode7 _ _ _ w zz20 (node_bound zz14 zz14)) rfl (fun _ => sk0) (fun b56 => ?_)
         refine wpd_tp 6 rfl zz6 trivial (t_bsS [_] Tryd.underlying64 Tryd.ti61 rfl zz19 rfl zz19 zz19 rfl (all_one zz20)) rfl (fun _ => (fun w h => .inr (h.sub SubC.h SubC.h))) (fun b57 p57 => ?_)
         refine wpd_tp 7 rfl zz6 trivial (t_apW Tryd.underlying64 Tryd.ti61 rfl zz19 rfl rfl (fun w h => zz11) zz3 zz1 zz1 (v8s (pathF xs q (k + 1)).flatten) (by rw [pathF_succ, List.flatten_append, v8s_append, hx])) rfl (fun _ => skk rfl) (fun b58 p58 => ?_)
         refine wpd_p 8 rfl zz6 trivial (q_field Tryd.underlying66 rfl Tryd.ti64 rfl rfl _ rfl) rfl (skk rfl) ?_
         refine wpd_t0 9 rfl zz6 trivial (t_st1 Tryd.ti64 rfl rfl (SV.one zz4) zz5 _ rfl) (fun _ => skk rfl) (fun _ => ?_)
         refine wpd_done zz6 ?_
         refine ex_then <| wpc_region <| wpl_q (q_pure rfl) rfl ?_
         refine wpl_q (q_quoN (b := 2) rfl rfl zz30 zz1) rfl ?_
         refine wpl_q (q_pure rfl) rfl <| wpl_nil <| ex_block <| ex_then <| wpc_region <| wpl_q (q_pure rfl) rfl ?_
         refine wpl_q (q_addN (b := 1) rfl rfl zz1) rfl ?_
         refine wpl_q (q_pure rfl) rfl <| wpl_nil ?_
         refine ex_again ⟨(k + 1, j / 2, b58), ⟨zz59, by dsimp only; rw [hi1, Nat.pow_succ, Nat.div_div_eq_div_mul], p58⟩⟩ ?_ ?_ ?_
         ·
          exact zz10
         ·
          exact fun w h => h.sub (.drop (Sub.refl _)) (Sub.refl _)
         ·
          (show m - (k + 1) < m - k); omega
       ·
        simp only [decide_eq_false_iff_not] at hc41
        obtain rfl : k = m := by omega
        refine wpc_exit ?_
        refine ex_then_exit ?_
        refine ex_then_exit ?_
        refine ex_block_hit ?_
        refine ex_then <| wpc_seq <| wpc_region ?_
        refine wpl_q (q_ldN Tryd.underlying66 rfl Tryd.ti66 rfl zz2) rfl ?_
        refine wpl_t0 (t_stA Tryd.ti66 rfl rfl zz2 zz3 zz2) (fun _ => ?_)
        refine wpl_q (q_pure rfl) rfl <| wpl_nil <| ex_then <| wpc_ret ?_
        refine retv2 (.inl rfl) rfl (rv_agg Tryd.underlying66 rfl Tryd.ti66 rfl (fun w h => h.atB) rfl) (rv_tmp rfl) ?_
        exact fun w h => by
          rw [e1, e2, e3, e4, signF_length, pathF_length]
          exact ⟨(b36, vp), ⟨p36, hi2⟩, rfl, h.below, by first | exact h.made (.keep (.keep .nil)) .nil | exact (h.sub (M' := [_, _]) SubC.h .nil).swap.made (.keep (.keep .nil)) .nil⟩
end Go.Proofs.YtjpfhkjmjnjggaaDoor
namespace Go.Proofs.YtjpfhkjmjnjggaaDoor
open Go Go.PL Go.RowKit
theorem eqc_up {P : Program} {dp dp' : Nat} {t : TypeId} {agg : Bool} {sz : Nat} {W : List Value → Prop} (h : EqC P dp t agg sz W) (hd : dp ≤ dp') : EqC P dp' t agg sz W := ⟨h.1, h.2.1, h.2.2.1, h.2.2.2.1, fun d hdd => h.2.2.2.2 d zz14⟩
theorem maskF_4 {f : UInt8} (h : f = 4) (n : Nat) : (maskF f n).1 = 0 := by unfold maskF; rw [if_pos h]
theorem maskF_hi {f : UInt8} {n : Nat} (h : ¬ f = 4) (h2 : 64 ≤ n) : maskF f n = (sl64 18446744073709551615 (n - 64), 0) := by unfold maskF; rw [if_neg h, if_pos h2]
theorem maskF_lo {f : UInt8} {n : Nat} (h : ¬ f = 4) (h2 : ¬ 64 ≤ n) : maskF f n = (18446744073709551615, sl64 18446744073709551615 n) := by unfold maskF; rw [if_neg h, if_neg h2]
def adL (a b : UInt64) : List Value := [.int .u64 (a.toNat : Int), .int .u64 (b.toNat : Int)]
def pfL (f : UInt8) (a b : UInt64) (n : Int) : List Value := [.int .u8 (f.toNat : Int), .int .u64 (a.toNat : Int), .int .u64 (b.toNat : Int), .int .i64 n]
theorem u64_inj {a b : UInt64} (h : (Value.int .u64 (a.toNat : Int)) = .int .u64 (b.toNat : Int)) : a = b := by
  have := (Value.int.inj h).2
  exact UInt64.toNat_inj.1 zz14
theorem u8_inj {a b : UInt8} (h : (Value.int .u8 (a.toNat : Int)) = .int .u8 (b.toNat : Int)) : a = b := by
  have := (Value.int.inj h).2
  exact UInt8.toNat_inj.1 zz14
theorem adL_inj {a b c d : UInt64} (h : adL a b = adL c d) : a = c ∧ b = d := by
  unfold adL at h
  obtain ⟨h1, h2⟩ := List.cons.inj h
  obtain ⟨h3, _⟩ := List.cons.inj h2
  exact ⟨u64_inj h1, u64_inj h3⟩
theorem eqAddr : EqC Tryd.prog 2 24 true 2 (fun cs => cs.length = 2 ∧ IntCell .u64 ((cs.drop 0).take 1) ∧ IntCell .u64 ((cs.drop 1).take 1) ∧ True) := by
  refine eqc_struct Tryd.underlying24 Tryd.ti24 zz6 ?_
  refine EqFs.cons (sz := 1) (W := IntCell .u64) zz6 rfl (eqc_int Tryd.underlying22 Tryd.ti22) ?_
  refine EqFs.cons (sz := 1) (W := IntCell .u64) zz6 rfl (eqc_int Tryd.underlying22 Tryd.ti22) ?_
  exact EqFs.nil _
theorem q_neAddr {n : Cx} {R : World → Prop} {L : Slots} {t' : TypeId} {x y : Operand} {a b c d : UInt64} (hx : ev L x = some (.agg (adL a b).toArray)) (hy : ev L y = some (.agg (adL c d).toArray)) : QOp Tryd.prog n R L (.binOp .neq 24 x y t') (.bool (!decide (a = c ∧ b = d))) :=
  q_neA eqAddr zz19 zz6 hx hy ⟨rfl, ⟨_, rfl⟩, ⟨_, rfl⟩, trivial⟩ ⟨rfl, ⟨_, rfl⟩, ⟨_, rfl⟩, trivial⟩ _ (by
    simp only [Bool.not_eq_true', decide_eq_false_iff_not]; exact ⟨fun h e => h (adL_inj e), fun h e => h (by rw [e.1, e.2])⟩)
theorem eqPfx : EqC Tryd.prog 3 26 true 4 (fun cs => cs.length = 4 ∧ IntCell .u8 ((cs.drop 0).take 1) ∧ (((cs.drop 1).take 2).length = 2 ∧ IntCell .u64 ((((cs.drop 1).take 2).drop 0).take 1) ∧ IntCell .u64 ((((cs.drop 1).take 2).drop 1).take 1) ∧ True) ∧ IntCell .i64 ((cs.drop 3).take 1) ∧ True) := by
  refine eqc_struct Tryd.underlying26 Tryd.ti26 zz6 ?_
  refine EqFs.cons (sz := 1) (W := IntCell .u8) zz6 rfl (eqc_up (dp' := 2) (eqc_int Tryd.underlying5 Tryd.ti5) zz19) ?_
  refine EqFs.cons (sz := 2) (W := fun cs => cs.length = 2 ∧ IntCell .u64 ((cs.drop 0).take 1) ∧ IntCell .u64 ((cs.drop 1).take 1) ∧ True) zz6 rfl eqAddr ?_
  refine EqFs.cons (sz := 1) (W := IntCell .i64) zz6 rfl (eqc_up (dp' := 2) (eqc_int Tryd.underlying3 Tryd.ti3) zz19) ?_
  exact EqFs.nil _
theorem pfL_inj {f g : UInt8} {a b c d : UInt64} {m n : Int} (h : pfL f a b m = pfL g c d n) : f = g ∧ a = c ∧ b = d ∧ m = n := by
  unfold pfL at h
  obtain ⟨h1, h2⟩ := List.cons.inj h
  obtain ⟨h3, h4⟩ := List.cons.inj h2
  obtain ⟨h5, h6⟩ := List.cons.inj h4
  obtain ⟨h7, _⟩ := List.cons.inj h6
  exact ⟨u8_inj h1, u64_inj h3, u64_inj h5, (Value.int.inj h7).2⟩
theorem q_nePfx {n : Cx} {R : World → Prop} {L : Slots} {t' : TypeId} {x y : Operand} {f g : UInt8} {a b c d : UInt64} {k l : Int} (hx : ev L x = some (.agg (pfL f a b k).toArray)) (hy : ev L y = some (.agg (pfL g c d l).toArray)) : QOp Tryd.prog n R L (.binOp .neq 26 x y t') (.bool (!decide (f = g ∧ a = c ∧ b = d ∧ k = l))) :=
  q_neA eqPfx zz19 zz6 hx hy ⟨rfl, ⟨_, rfl⟩, ⟨rfl, ⟨_, rfl⟩, ⟨_, rfl⟩, trivial⟩, ⟨_, rfl⟩, trivial⟩ ⟨rfl, ⟨_, rfl⟩, ⟨rfl, ⟨_, rfl⟩, ⟨_, rfl⟩, trivial⟩, ⟨_, rfl⟩, trivial⟩ _ (by
    simp only [Bool.not_eq_true', decide_eq_false_iff_not]; exact ⟨fun h e => h (pfL_inj e), fun h e => h (by rw [e.1, e.2.1, e.2.2.1, e.2.2.2])⟩)
theorem mask (f : UInt8) (k : Nat) (w : World)  (hk : k ≤ widF f) :
    Calls Tryd.prog 64 [.int .u8 f.toNat, .int .i64 ((k : Nat) : Int)].toArray w (Pur w (.agg [.int .u64 ((maskF f (widF f - k)).1.toNat : Int), .int .u64 ((maskF f (widF f - k)).2.toNat : Int)].toArray)) := by
  have hwl := widF_le f
  refine enter (m := 32) (R := Mem w [] [] []) Tryd.func64 rfl rfl (Nat.le_of_ble_eq_true rfl) (Mem.start w) ?_
  refine wpc_seq <| wpc_region ?_
  refine wpl_t (t_alloc Tryd.ti24 [.int .u64 0, .int .u64 0] rfl) rfl (fun b4 => ?_)
  refine wpl_nil <| ex_then <| wpc_seq <| wpc_region <| wpl_q (q_pure rfl) rfl ?_
  refine wpl_t (t_pur (v := .int .i64 ((widF f : Nat) : Int)) Tryd.hb61 rfl fun w h => width f w) rfl (fun b8 => ?_)
  refine wpl_q (q_pure rfl) rfl ?_
  refine wpl_q (q_subN rfl rfl zz14 zz1) rfl ?_
  refine wpl_q (q_pure rfl) rfl <| wpl_nil <| ex_then <| wpc_seq <| wpc_region ?_
  refine wpl_q (q_build (cs := [.int .u64 ((18446744073709551615 : UInt64).toNat : Int), .int .u64 ((18446744073709551615 : UInt64).toNat : Int)]) rfl rfl) rfl ?_
  refine wpl_t (t_alloc Tryd.ti24 [.int .u64 0, .int .u64 0] rfl) rfl (fun b6 => ?_)
  refine wpl_t0 (t_stA Tryd.ti24 rfl rfl LenC.h zz3 LenC.h) (fun _ => ?_)
  refine wpl_nil <| ex_then <| wpc_seq <| wpc_seq <| wpc_region <| wpl_q (q_pure rfl) rfl <| wpl_q (q_pure rfl) rfl <| wpl_nil <| ex_then ?_
  refine wpc_cond rfl (fun hc13 => ?_) (fun hc13 => ?_)
  ·
   simp only [decide_eq_true_eq] at hc13
   have h64 : 64 ≤ widF f - k := by omega
   refine wpc_region <| wpl_q (q_field Tryd.underlying24 rfl Tryd.ti22 rfl rfl _ rfl) rfl ?_
   refine wpl_q (q_ld Tryd.underlying22 rfl rfl zz35) rfl ?_
   refine wpl_q (q_pure rfl) rfl ?_
   refine wpl_q (q_subN (b := 64) rfl rfl zz14 zz1) rfl ?_
   refine wpl_q (q64_shl rfl rfl zz30 _ rfl) rfl ?_
   refine wpl_q (q_build (cs := [.int .u64 ((sl64 18446744073709551615 (widF f - k - 64)).toNat : Int), .int .u64 ((0 : UInt64).toNat : Int)]) rfl rfl) rfl ?_
   refine wpl_t0 (t_stA Tryd.ti24 rfl rfl LenC.h zz3 LenC.h) (fun _ => ?_)
   refine wpl_nil <| ex_then <| wpc_seq <| wpc_seq <| wpc_region <| wpl_q (q_pure rfl) rfl ?_
   refine wpl_q (q8_eql (b := (4 : UInt8)) rfl rfl) rfl ?_
   refine wpl_nil <| ex_then ?_
   refine wpc_cond rfl (fun hc26 => ?_) (fun hc26 => ?_)
   ·
    have h4 : f = 4 := by simpa using hc26
    refine wpc_region <| wpl_q (q_field Tryd.underlying24 rfl Tryd.ti22 rfl rfl _ rfl) rfl ?_
    refine wpl_q (q_ld Tryd.underlying22 rfl rfl zz35) rfl ?_
    refine wpl_q (q64_and (b := (4294967295 : UInt64)) rfl rfl) rfl ?_
    refine wpl_re 29 rfl (congrArg (fun x : UInt64 => Value.int .u64 (x.toNat : Int)) (show _ = (maskF f (widF f - k)).2 by unfold maskF; rw [if_pos h4]; first | rw [if_pos h64] | rw [if_neg h64])) ?_
    refine wpl_q (q_build (cs := [.int .u64 ((0 : UInt64).toNat : Int), .int .u64 (((maskF f (widF f - k)).2).toNat : Int)]) rfl rfl) rfl ?_
    refine wpl_t0 (t_stA Tryd.ti24 rfl rfl LenC.h zz3 LenC.h) (fun _ => ?_)
    refine wpl_nil <| ex_then <| wpc_seq <| wpc_region <| wpl_q (q_ldN Tryd.underlying24 rfl Tryd.ti24 rfl LenC.h) rfl ?_
    refine wpl_t0 (t_stA Tryd.ti24 rfl rfl LenC.h zz3 LenC.h) (fun _ => ?_)
    refine wpl_nil <| ex_then <| wpc_ret ?_
    refine retv1 (.inl rfl) rfl (rv_agg Tryd.underlying24 rfl Tryd.ti24 rfl (fun w h => h.atB) zz2) ?_
    exact fun w h => ⟨zz61, h.below⟩
   ·
    have h4 : ¬ f = 4 := by simpa using hc26
    refine wpc_skip <| ex_then <| wpc_seq <| wpc_region <| wpl_q (q_ldN Tryd.underlying24 rfl Tryd.ti24 rfl LenC.h) rfl ?_
    refine wpl_t0 (t_stA Tryd.ti24 rfl rfl LenC.h zz3 LenC.h) (fun _ => ?_)
    refine wpl_nil <| ex_then <| wpc_ret ?_
    refine retv1 (.inl rfl) rfl (rv_agg Tryd.underlying24 rfl Tryd.ti24 rfl (fun w h => h.atB) zz2) ?_
    exact fun w h => ⟨zz61, h.below⟩
  ·
   simp only [decide_eq_false_iff_not] at hc13
   have h64 : ¬ 64 ≤ widF f - k := by omega
   refine wpc_region <| wpl_q (q_field Tryd.underlying24 rfl Tryd.ti22 rfl rfl _ rfl) rfl ?_
   refine wpl_q (q_ld Tryd.underlying22 rfl rfl zz35) rfl ?_
   refine wpl_q (q_pure rfl) rfl ?_
   refine wpl_q (q64_shl rfl rfl zz30 _ rfl) rfl ?_
   refine wpl_q (q_field Tryd.underlying24 rfl Tryd.ti22 rfl rfl _ rfl) rfl ?_
   refine wpl_t0 (t_st1 Tryd.ti22 rfl rfl rfl zz5 [.int .u64 ((18446744073709551615 : UInt64).toNat : Int), .int .u64 ((sl64 18446744073709551615 (widF f - k)).toNat : Int)] rfl) (fun _ => ?_)
   refine wpl_nil <| ex_then <| wpc_seq <| wpc_seq <| wpc_region <| wpl_q (q_pure rfl) rfl ?_
   refine wpl_q (q8_eql (b := (4 : UInt8)) rfl rfl) rfl ?_
   refine wpl_nil <| ex_then ?_
   refine wpc_cond rfl (fun hc26 => ?_) (fun hc26 => ?_)
   ·
    have h4 : f = 4 := by simpa using hc26
    refine wpc_region <| wpl_q (q_field Tryd.underlying24 rfl Tryd.ti22 rfl rfl _ rfl) rfl ?_
    refine wpl_q (q_ld Tryd.underlying22 rfl rfl zz35) rfl ?_
    refine wpl_q (q64_and (b := (4294967295 : UInt64)) rfl rfl) rfl ?_
    refine wpl_re 29 rfl (congrArg (fun x : UInt64 => Value.int .u64 (x.toNat : Int)) (show _ = (maskF f (widF f - k)).2 by unfold maskF; rw [if_pos h4]; first | rw [if_pos h64] | rw [if_neg h64])) ?_
    refine wpl_q (q_build (cs := [.int .u64 ((0 : UInt64).toNat : Int), .int .u64 (((maskF f (widF f - k)).2).toNat : Int)]) rfl rfl) rfl ?_
    refine wpl_t0 (t_stA Tryd.ti24 rfl rfl LenC.h zz3 LenC.h) (fun _ => ?_)
    refine wpl_nil <| ex_then <| wpc_seq <| wpc_region <| wpl_q (q_ldN Tryd.underlying24 rfl Tryd.ti24 rfl LenC.h) rfl ?_
    refine wpl_t0 (t_stA Tryd.ti24 rfl rfl LenC.h zz3 LenC.h) (fun _ => ?_)
    refine wpl_nil <| ex_then <| wpc_ret ?_
    refine retv1 (.inl rfl) rfl (rv_agg Tryd.underlying24 rfl Tryd.ti24 rfl (fun w h => h.atB) zz2) ?_
    exact fun w h => ⟨zz61, h.below⟩
   ·
    have h4 : ¬ f = 4 := by simpa using hc26
    refine wpc_skip <| ex_then <| wpc_seq <| wpc_region <| wpl_q (q_ldN Tryd.underlying24 rfl Tryd.ti24 rfl LenC.h) rfl ?_
    refine wpl_t0 (t_stA Tryd.ti24 rfl rfl LenC.h zz3 LenC.h) (fun _ => ?_)
    refine wpl_nil <| ex_then <| wpc_ret ?_
    refine retv1 (.inl rfl) rfl (rv_agg Tryd.underlying24 rfl Tryd.ti24 rfl (fun w h => h.atB) zz2) ?_
    exact fun w h => ⟨zz61, h.below⟩
end Go.Proofs.YtjpfhkjmjnjggaaDoor
