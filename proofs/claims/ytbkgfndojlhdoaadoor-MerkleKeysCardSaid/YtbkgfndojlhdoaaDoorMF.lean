/- merkle: leaves and levels. -/
import Derived.Test.YtbkgfndojlhdoaaDoorMD
import Derived.Test.YtbkgfndojlhdoaaDoorME
import Derived.Test.YtbkgfndojlhdoaaDoorPLG
namespace Go.Proofs.YtbkgfndojlhdoaaDoor
set_option linter.unusedSimpArgs false
set_option linter.unusedVariables false
open Go Go.PL Go.RowKit

def nodeF (s : List UInt8) : Nat → Nat → List UInt8
  | 0, k => publicF (leafF s k)
  | l + 1, k => joinedF (nodeF s l (2 * k)) (nodeF s l (2 * k + 1))
theorem nodeF_length (s : List UInt8) : ∀ l k, (nodeF s l k).length = 16
  | 0, k => by rw [nodeF]; exact publicF_length _
  | l + 1, k => by rw [nodeF]; exact joinedF_length _ _
def lev (s : List UInt8) (l n : Nat) : List (List UInt8) := (List.range n).map (nodeF s l)
theorem lev_length (s : List UInt8) (l n : Nat) : (lev s l n).length = n := by simp [lev]
theorem lev_all (s : List UInt8) (l n : Nat) : ∀ x ∈ lev s l n, x.length = 16 := fun x hx => by
  obtain ⟨i, _, rfl⟩ := List.mem_map.1 hx; exact nodeF_length _ _ _
theorem lev_get (s : List UInt8) (l n i : Nat) (h : i < n) : (lev s l n).getD i [] = nodeF s l i := by
  rw [lev, List.getD_eq_getElem?_getD, List.getElem?_map, List.getElem?_eq_getElem (by simpa using h)]; simp
theorem lev_succ (s : List UInt8) (l n : Nat) : lev s l (n + 1) = lev s l n ++ [nodeF s l n] := by simp [lev, List.range_succ]
theorem lev_next (s : List UInt8) (l n i : Nat) (h : 2 * i + 1 < n) : lev s (l + 1) i ++ [joinedF ((lev s l n).getD (2 * i) []) ((lev s l n).getD (2 * i + 1) [])] = lev s (l + 1) (i + 1) := by
  rw [lev_succ, lev_get s l n _ (by omega), lev_get s l n _ h]; rfl
theorem cells_pre {r : Rd} {a : Addr} {xs ys : List Value} (h : CellsAt r a (xs ++ ys)) : CellsAt r a xs := fun j u hj => h j u (by
  rw [List.getElem?_append_left (List.getElem?_eq_some_iff.1 hj).1]; exact hj)
/-- n levels, each as it can be read. -/
structure LevelsOk (s : List UInt8) (m : Nat) (qs : List (Value × List (List UInt8))) (n : Nat) : Prop where
  len : qs.length = n
  rows : ∀ j q, qs[j]? = some q → q.2 = lev s j (2 ^ (m - j))
  sv : ∀ q ∈ qs, SV q.1 q.2.length
theorem LevelsOk.snoc {s : List UInt8} {m n : Nat} {qs : List (Value × List (List UInt8))} {v : Value} (h : LevelsOk s m qs n) (hv : SV v (2 ^ (m - n))) : LevelsOk s m (qs ++ [(v, lev s n (2 ^ (m - n)))]) (n + 1) := by
  refine ⟨by rw [List.length_append, h.len]; rfl, fun j q hj => ?_, fun q hq => ?_⟩
  · rw [List.getElem?_append] at hj
    split at hj
    · exact h.rows j q hj
    · rename_i hlt
      rw [h.len] at hj hlt
      have h1 : j - n = 0 := by
        have := (List.getElem?_eq_some_iff.1 hj).1
        simp at this; omega
      rw [h1] at hj
      obtain rfl : j = n := by omega
      simp at hj; subst hj; rfl
  · rcases List.mem_append.1 hq with hq | hq
    · exact h.sv q hq
    · rw [List.mem_singleton.1 hq]
      show SV v (lev s n (2 ^ (m - n))).length
      rw [lev_length]; exact hv
theorem LevelsOk.get {s : List UInt8} {m n : Nat} {qs : List (Value × List (List UInt8))} (h : LevelsOk s m qs n) {j : Nat} (hj : j < n) : ∃ v, (qs.map Prod.fst)[j]? = some v ∧ (v, lev s j (2 ^ (m - j))) ∈ qs ∧ SV v (2 ^ (m - j)) := by
  have hlt : j < qs.length := by rw [h.len]; exact hj
  have h1 := h.rows j _ (List.getElem?_eq_getElem hlt)
  have h2 := List.getElem_mem hlt
  refine ⟨qs[j].1, by rw [List.getElem?_map, List.getElem?_eq_getElem hlt]; rfl, ?_, ?_⟩
  · rw [← h1]; exact h2
  · have := h.sv _ h2
    rw [h1, lev_length] at this; exact this
theorem pow_half {m l : Nat} (h : l < m) : 2 ^ (m - l) = 2 * 2 ^ (m - (l + 1)) := by
  rw [show m - l = (m - (l + 1)) + 1 by omega, Nat.pow_succ]; omega


theorem one_one {v : Value} (h : v.oneCell' = true) : ∀ u ∈ [v], u.oneCell' = true := fun u hu => by rw [List.mem_singleton.1 hu]; exact h
theorem levels_one {s : List UInt8} {m : Nat} {v : Value} (hv : SV v (2 ^ m)) : LevelsOk s m [(v, lev s 0 (2 ^ m))] 1 := by
  have := LevelsOk.snoc (s := s) (m := m) (n := 0) (qs := []) (v := v) ⟨rfl, fun j q h => by simp at h, fun q h => by cases h⟩ hv
  exact this
theorem levels_init {w0 w : World} {s : List UInt8} {m : Nat} {v b : Value} {M : List Ent} {t e : TypeId} (h : Mem w0 [] (.row b 1 t 1 [v] :: .row v (2 ^ m) e 16 (v8s (lev s 0 (2 ^ m)).flatten) :: M) [] w) :
    Mem w0 [] (.row b (0 + 1) t 1 ([(v, lev s 0 (2 ^ m))].map Prod.fst) :: M) [Go.PL.seen v (2 ^ (m - 0)) 16 (v8s (lev s 0 (2 ^ (m - 0))).flatten), rowsF 16 [(v, lev s 0 (2 ^ m))]] w := by
  refine (h.freezeRow (.there .here)).imp fun r hr t ht => ?_
  have h1 : Seen r v (2 ^ m) 16 (v8s (lev s 0 (2 ^ m)).flatten) := hr _ (List.mem_cons_self ..)
  rcases List.mem_cons.1 ht with rfl | ht
  · exact h1
  · rw [List.mem_singleton.1 ht]
    intro q hq
    rw [List.mem_singleton.1 hq]
    show Seen r v (lev s 0 (2 ^ m)).length 16 _
    rw [lev_length]; exact h1
theorem levels_next {w0 w : World} {s : List UInt8} {m l : Nat} {v vl b b2 : Value} {qs : List (Value × List (List UInt8))} {x : List Value} {M : List Ent} {t t2 e : TypeId} {N : Nat} {ws : List Value}
    (h : Mem w0 [] (.row b2 1 t2 1 x :: .row v (2 ^ (m - (l + 1))) e 16 (v8s (lev s (l + 1) (2 ^ (m - (l + 1)))).flatten) :: .row b (l + 1 + 1) t 1 (qs.map Prod.fst ++ [v]) :: M) [Go.PL.seen vl N 16 ws, rowsF 16 qs] w) :
    Mem w0 [] (.row b (l + 1 + 1) t 1 ((qs ++ [(v, lev s (l + 1) (2 ^ (m - (l + 1))))]).map Prod.fst) :: M) [Go.PL.seen v (2 ^ (m - (l + 1))) 16 (v8s (lev s (l + 1) (2 ^ (m - (l + 1)))).flatten), rowsF 16 (qs ++ [(v, lev s (l + 1) (2 ^ (m - (l + 1))))])] w := by
  rw [List.map_append]
  refine ((h.sub (.drop (Sub.refl _)) (Sub.refl _)).freezeRow .here).imp fun r hr t ht => ?_
  have h1 : Seen r v (2 ^ (m - (l + 1))) 16 (v8s (lev s (l + 1) (2 ^ (m - (l + 1)))).flatten) := hr _ (List.mem_cons_self ..)
  have h2 : ∀ q ∈ qs, Seen r q.1 q.2.length 16 (v8s q.2.flatten) := hr (rowsF 16 qs) (by simp)
  rcases List.mem_cons.1 ht with rfl | ht
  · exact h1
  · rw [List.mem_singleton.1 ht]
    intro q hq
    rcases List.mem_append.1 hq with hq | hq
    · exact h2 q hq
    · rw [List.mem_singleton.1 hq]
      show Seen r v (lev s (l + 1) (2 ^ (m - (l + 1)))).length 16 _
      rw [lev_length]; exact h1

set_option maxRecDepth 100000 in
theorem leaf7 (xs : List UInt8) (ht : Int) (i : Nat) (w : World) (hxs : xs.length = 16) (hG : Glb w) :
    Calls Tryd.prog 38 [.agg (v8s xs ++ [Value.int .i64 ht]).toArray, .int .i64 ((i : Nat) : Int)].toArray w (Pur w (.agg (v8s (leafF xs i)).toArray)) := by
  refine enter (m := 12) (R := Mem w [] [] []) Tryd.func38 rfl rfl (Nat.le_of_ble_eq_true rfl) (Mem.start w) ?_
  refine wpc_seq ?_
  refine wpc_region ?_
  refine wpl_t (t_box rfl (v8s xs ++ [Value.int .i64 ht]) rfl) rfl (fun b2 => ?_)
  refine wpl_t (t_alloc Tryd.ti23 (v8s (List.replicate 16 0)) (by rfl)) rfl (fun b4 => ?_)
  refine wpl_nil ?_
  refine ex_then ?_
  refine wpc_seq ?_
  refine wpc_region ?_
  refine wpl_q (q_field Tryd.underlying69 rfl Tryd.ti23 rfl rfl _ rfl) rfl ?_
  refine wpl_q (q_arAll Tryd.underlying23 Tryd.ti5 rfl rfl) rfl ?_
  refine wpl_q (q_pure rfl) rfl ?_
  refine wpl_q (q8_conv Tryd.underlying3 Tryd.underlying5 rfl) rfl ?_
  refine wpl_tp (t_bsV (v8s [_, (254 : UInt8), (0 : UInt8)]) Tryd.underlying26 Tryd.ti5 rfl rfl (by decide) (by decide) rfl (v8s_one _)) rfl (fun b9 p9 => ?_)
  refine wpl_tp (t_apF Tryd.underlying26 Tryd.ti5 rfl rfl rfl (fun w h => seen_whole (cells_pre h.atB) (by decide) ((v8s_length _).trans hxs)) (fun w h => by first | exact h.seenV | exact h.seenA (by first | decide | (simp only [maxLen]; omega)) (by first | with_reducible rfl | (simp only [v8s_length, v32s_length, vis_length, vns_length, v64s_length, List.length_replicate]; first | done | with_reducible assumption | omega) | (rw [v8s_length]; (first | with_reducible assumption | with_reducible exact shortF_length _ | with_reducible exact stepF_length _ _ _ | with_reducible exact sumF_length _ | with_reducible exact climbF_length _ (by first | with_reducible assumption | with_reducible exact shortF_length _ | with_reducible exact beginF_length _ _ | with_reducible exact getD_mem_len (by assumption) (by omega)) _ _ _ | with_reducible exact beginF_length _ _ | with_reducible exact chainF_length _ _ _ | with_reducible exact recF_length _ _ | with_reducible exact publicF_length _ | with_reducible exact leafF_length _ _ | with_reducible exact joinedF_length _ _ | with_reducible exact nodeF_length _ _ _ | with_reducible exact rootF_length _ _ _ _ _ | with_reducible exact getD_mem_len (by assumption) (by omega) | (with_reducible exact List.length_replicate))) | rfl) | exact h.seen_old (by assumption) | exact h.seen_oldL (by assumption) (by assumption) | exact h.seen_fact (by repeat (first | exact List.mem_cons_self .. | apply List.mem_cons_of_mem))) (by first | omega | (simp only [maxLen]; omega) | (simp only [List.length_append, List.length_cons, List.length_nil, List.length_take, maxLen]; omega) | (simp only [List.length_append, List.length_cons, List.length_nil, List.length_take]; omega)) (by first | omega | (simp only [maxLen]; omega) | (simp only [List.length_append, List.length_cons, List.length_nil, List.length_take, maxLen]; omega) | (simp only [List.length_append, List.length_cons, List.length_nil, List.length_take]; omega)) (by first | omega | (simp only [maxLen]; omega) | (simp only [List.length_append, List.length_cons, List.length_nil, List.length_take, maxLen]; omega) | (simp only [List.length_append, List.length_cons, List.length_nil, List.length_take]; omega)) _ (by first | with_reducible exact List.nil_append _ | exact (v8s_append _ _).symm | exact (vis_append _ _).symm | exact (vns_append _ _).symm | exact (v64s_append _ _).symm | exact (v32s_append _ _).symm | rfl)) rfl (fun b10 p10 => ?_)
  refine wpl_t (t_pur Tryd.hb28 rfl fun w h => shortW _ _ w (by first | exact Seen.re8 h.seenV | exact Seen.reS h.seenV (by first | assumption | exact signF_all _ _ | exact sg_all _ _) (by decide) | exact Seen.reN h.seenV | exact h.seenV | exact h.seenA (by first | decide | (simp only [maxLen]; omega)) (by first | with_reducible rfl | (simp only [v8s_length, v32s_length, vis_length, vns_length, v64s_length, List.length_replicate]; first | done | with_reducible assumption | omega) | (rw [v8s_length]; (first | with_reducible assumption | with_reducible exact shortF_length _ | with_reducible exact stepF_length _ _ _ | with_reducible exact sumF_length _ | with_reducible exact climbF_length _ (by first | with_reducible assumption | with_reducible exact shortF_length _ | with_reducible exact beginF_length _ _ | with_reducible exact getD_mem_len (by assumption) (by omega)) _ _ _ | with_reducible exact beginF_length _ _ | with_reducible exact chainF_length _ _ _ | with_reducible exact recF_length _ _ | with_reducible exact publicF_length _ | with_reducible exact leafF_length _ _ | with_reducible exact joinedF_length _ _ | with_reducible exact nodeF_length _ _ _ | with_reducible exact rootF_length _ _ _ _ _ | with_reducible exact getD_mem_len (by assumption) (by omega) | (with_reducible exact List.length_replicate))) | rfl) | exact h.seen_old (by assumption) | exact h.seen_oldL (by assumption) (by assumption) | exact Seen.re8 (h.seen_fact (by repeat (first | exact List.mem_cons_self .. | apply List.mem_cons_of_mem))) | exact h.seen_fact (by repeat (first | exact List.mem_cons_self .. | apply List.mem_cons_of_mem))) (glob h hG)) rfl (fun b11 => ?_)
  refine wpl_t0 (t_stA Tryd.ti23 rfl rfl (by first | with_reducible rfl | (simp only [v8s_length, v32s_length, vis_length, vns_length, v64s_length, List.length_replicate]; first | done | with_reducible assumption | omega) | (rw [v8s_length]; (first | with_reducible assumption | with_reducible exact shortF_length _ | with_reducible exact stepF_length _ _ _ | with_reducible exact sumF_length _ | with_reducible exact climbF_length _ (by first | with_reducible assumption | with_reducible exact shortF_length _ | with_reducible exact beginF_length _ _ | with_reducible exact getD_mem_len (by assumption) (by omega)) _ _ _ | with_reducible exact beginF_length _ _ | with_reducible exact chainF_length _ _ _ | with_reducible exact recF_length _ _ | with_reducible exact publicF_length _ | with_reducible exact leafF_length _ _ | with_reducible exact joinedF_length _ _ | with_reducible exact nodeF_length _ _ _ | with_reducible exact rootF_length _ _ _ _ _ | with_reducible exact getD_mem_len (by assumption) (by omega) | (with_reducible exact List.length_replicate))) | rfl) (v8s_one _) (by first | with_reducible rfl | (simp only [v8s_length, v32s_length, vis_length, vns_length, v64s_length, List.length_replicate]; first | done | with_reducible assumption | omega) | (rw [v8s_length]; (first | with_reducible assumption | with_reducible exact shortF_length _ | with_reducible exact stepF_length _ _ _ | with_reducible exact sumF_length _ | with_reducible exact climbF_length _ (by first | with_reducible assumption | with_reducible exact shortF_length _ | with_reducible exact beginF_length _ _ | with_reducible exact getD_mem_len (by assumption) (by omega)) _ _ _ | with_reducible exact beginF_length _ _ | with_reducible exact chainF_length _ _ _ | with_reducible exact recF_length _ _ | with_reducible exact publicF_length _ | with_reducible exact leafF_length _ _ | with_reducible exact joinedF_length _ _ | with_reducible exact nodeF_length _ _ _ | with_reducible exact rootF_length _ _ _ _ _ | with_reducible exact getD_mem_len (by assumption) (by omega) | (with_reducible exact List.length_replicate))) | rfl)) (fun _ => ?_)
  refine wpl_nil ?_
  refine ex_then ?_
  refine wpc_ret ?_
  refine retv1 (.inl rfl) rfl (rv_agg Tryd.underlying23 rfl Tryd.ti23 rfl (fun w h => h.atB) (by first | with_reducible rfl | (simp only [v8s_length, v32s_length, vis_length, vns_length, v64s_length, List.length_replicate]; first | done | with_reducible assumption | omega) | (rw [v8s_length]; (first | with_reducible assumption | with_reducible exact shortF_length _ | with_reducible exact stepF_length _ _ _ | with_reducible exact sumF_length _ | with_reducible exact climbF_length _ (by first | with_reducible assumption | with_reducible exact shortF_length _ | with_reducible exact beginF_length _ _ | with_reducible exact getD_mem_len (by assumption) (by omega)) _ _ _ | with_reducible exact beginF_length _ _ | with_reducible exact chainF_length _ _ _ | with_reducible exact recF_length _ _ | with_reducible exact publicF_length _ | with_reducible exact leafF_length _ _ | with_reducible exact joinedF_length _ _ | with_reducible exact nodeF_length _ _ _ | with_reducible exact rootF_length _ _ _ _ _ | with_reducible exact getD_mem_len (by assumption) (by omega) | (with_reducible exact List.length_replicate))) | rfl)) ?_
  exact fun w h => ⟨rfl, h.below⟩

set_option maxRecDepth 100000 in
theorem levels7 (xs : List UInt8) (m : Nat) (w : World) (hxs : xs.length = 16) (hm : m ≤ 4) (hG : Glb w) :
    Calls Tryd.prog 35 [.agg (v8s xs ++ [Value.int .i64 ((m : Nat) : Int)]).toArray].toArray w (GivesP w (fun x : Value × List (Value × List (List UInt8)) => SV x.1 (m + 1) ∧ LevelsOk xs m x.2 (m + 1)) (fun x => x.1) (fun x => [.row x.1 (m + 1) 27 1 (x.2.map Prod.fst)]) (fun x => [rowsF 16 x.2])) := by
  have hpm := pow_le16 hm
  refine enter (m := 52) (R := Mem w [] [] []) Tryd.func35 rfl rfl (Nat.le_of_ble_eq_true rfl) (Mem.start w) ?_
  refine wpc_seq ?_
  refine wpc_region ?_
  refine wpl_t (t_box rfl (v8s xs ++ [Value.int .i64 ((m : Nat) : Int)]) rfl) rfl (fun b1 => ?_)
  refine wpl_q (q_pure rfl) rfl ?_
  refine wpl_nil ?_
  refine ex_then ?_
  refine wpc_seq ?_
  refine wpc_region ?_
  refine wpl_q (q_pure rfl) rfl ?_
  refine wpl_nil ?_
  refine ex_then ?_
  refine wpc_seq ?_
  refine wpc_seq ?_
  refine wpc_region ?_
  refine wpl_q (q_field Tryd.underlying69 rfl Tryd.ti3 rfl rfl _ rfl) rfl ?_
  refine wpl_q (q_ld Tryd.underlying3 rfl rfl (key_height xs m hxs)) rfl ?_
  refine wpl_q (q_shlN (a := 1) rfl rfl (by first | decide | omega) (by first | omega | (simp only [maxLen]; omega) | (simp only [List.length_append, List.length_cons, List.length_nil, List.length_take, maxLen]; omega) | (simp only [List.length_append, List.length_cons, List.length_nil, List.length_take]; omega))) rfl ?_
  refine wpl_q (q_pure rfl) rfl ?_
  refine wpl_nil ?_
  refine ex_then ?_
  refine wpc_block ?_
  refine wpc_loopc (ι := { x : Nat × Value // (x.1 ≤ 2 ^ m) ∧ (SV x.2 x.1) }) [(1, _), (10, _)] (fun x Lc => (11, .int .i64 ((x.1.1 : Nat) : Int)) :: (3, x.1.2) :: Lc) (fun x => Mem w [] [.row x.1.2 x.1.1 23 16 (v8s (lev xs 0 x.1.1).flatten), .blk b1 69 (v8s xs ++ [Value.int .i64 ((m : Nat) : Int)])] []) (fun x => 2 ^ m - x.1.1) ⟨(0, .slice none 0 0), ⟨Nat.zero_le _, SV.nil⟩⟩ (by repeat (first | exact trivial | refine ⟨rfl, ?_⟩)) ?_ ?_
  · exact fun w h => h.nilRow 23 16
  · rintro ⟨⟨i, v⟩, ⟨hi0, hi1⟩⟩; try dsimp only
    have hi0 : i ≤ 2 ^ m := hi0; have hi1 : SV v i := hi1
    refine wpc_seq ?_
    refine wpc_region ?_
    refine wpl_q (q_pure rfl) rfl ?_
    refine wpl_nil ?_
    refine ex_then ?_
    refine wpc_seq ?_
    refine wpc_cond rfl (fun hc12 => ?_) (fun hc12 => ?_)
    ·
      simp only [decide_eq_true_eq] at hc12
      refine wpc_skip ?_
      refine ex_then ?_
      refine wpc_seq ?_
      refine wpc_block ?_
      refine wpc_seq ?_
      refine wpc_region ?_
      refine wpl_q (q_pure rfl) rfl ?_
      refine wpl_q (q_pure rfl) rfl ?_
      refine wpl_nil ?_
      refine ex_then ?_
      refine wpc_region ?_
      refine wpl_q (q_pure rfl) rfl ?_
      refine wpl_q (q_ldN Tryd.underlying69 rfl Tryd.ti69 rfl (key_len xs m hxs)) rfl ?_
      refine wpl_q (q_pure rfl) rfl ?_
      refine wpl_t (t_pur Tryd.hb38 rfl fun w h => leaf7 _ _ _ w (by (first | with_reducible assumption | with_reducible exact shortF_length _ | with_reducible exact stepF_length _ _ _ | with_reducible exact sumF_length _ | with_reducible exact climbF_length _ (by first | with_reducible assumption | with_reducible exact shortF_length _ | with_reducible exact beginF_length _ _ | with_reducible exact getD_mem_len (by assumption) (by omega)) _ _ _ | with_reducible exact beginF_length _ _ | with_reducible exact chainF_length _ _ _ | with_reducible exact recF_length _ _ | with_reducible exact publicF_length _ | with_reducible exact leafF_length _ _ | with_reducible exact joinedF_length _ _ | with_reducible exact nodeF_length _ _ _ | with_reducible exact rootF_length _ _ _ _ _ | with_reducible exact getD_mem_len (by assumption) (by omega) | (with_reducible exact List.length_replicate))) (glob h hG)) rfl (fun b17 => ?_)
      refine wpl_t (t_pur Tryd.hb41 rfl fun w h => public_ _ w (by (first | with_reducible assumption | with_reducible exact shortF_length _ | with_reducible exact stepF_length _ _ _ | with_reducible exact sumF_length _ | with_reducible exact climbF_length _ (by first | with_reducible assumption | with_reducible exact shortF_length _ | with_reducible exact beginF_length _ _ | with_reducible exact getD_mem_len (by assumption) (by omega)) _ _ _ | with_reducible exact beginF_length _ _ | with_reducible exact chainF_length _ _ _ | with_reducible exact recF_length _ _ | with_reducible exact publicF_length _ | with_reducible exact leafF_length _ _ | with_reducible exact joinedF_length _ _ | with_reducible exact nodeF_length _ _ _ | with_reducible exact rootF_length _ _ _ _ _ | with_reducible exact getD_mem_len (by assumption) (by omega) | (with_reducible exact List.length_replicate))) (glob h hG)) rfl (fun b18 => ?_)
      refine wpl_tp (t_bsS [_] Tryd.underlying27 Tryd.ti23 rfl (by decide) rfl (by decide) (by decide) rfl (all_one (by (first | with_reducible assumption | with_reducible exact shortF_length _ | with_reducible exact stepF_length _ _ _ | with_reducible exact sumF_length _ | with_reducible exact climbF_length _ (by first | with_reducible assumption | with_reducible exact shortF_length _ | with_reducible exact beginF_length _ _ | with_reducible exact getD_mem_len (by assumption) (by omega)) _ _ _ | with_reducible exact beginF_length _ _ | with_reducible exact chainF_length _ _ _ | with_reducible exact recF_length _ _ | with_reducible exact publicF_length _ | with_reducible exact leafF_length _ _ | with_reducible exact joinedF_length _ _ | with_reducible exact nodeF_length _ _ _ | with_reducible exact rootF_length _ _ _ _ _ | with_reducible exact getD_mem_len (by assumption) (by omega) | (with_reducible exact List.length_replicate))))) rfl (fun b19 p19 => ?_)
      refine wpl_tp (t_apW Tryd.underlying27 Tryd.ti23 rfl (by decide) rfl rfl (fun w h => by first | exact h.seenV | exact h.seenA (by first | decide | (simp only [maxLen]; omega)) (by first | with_reducible rfl | (simp only [v8s_length, v32s_length, vis_length, vns_length, v64s_length, List.length_replicate]; first | done | with_reducible assumption | omega) | (rw [v8s_length]; (first | with_reducible assumption | with_reducible exact shortF_length _ | with_reducible exact stepF_length _ _ _ | with_reducible exact sumF_length _ | with_reducible exact climbF_length _ (by first | with_reducible assumption | with_reducible exact shortF_length _ | with_reducible exact beginF_length _ _ | with_reducible exact getD_mem_len (by assumption) (by omega)) _ _ _ | with_reducible exact beginF_length _ _ | with_reducible exact chainF_length _ _ _ | with_reducible exact recF_length _ _ | with_reducible exact publicF_length _ | with_reducible exact leafF_length _ _ | with_reducible exact joinedF_length _ _ | with_reducible exact nodeF_length _ _ _ | with_reducible exact rootF_length _ _ _ _ _ | with_reducible exact getD_mem_len (by assumption) (by omega) | (with_reducible exact List.length_replicate))) | rfl) | exact h.seen_old (by assumption) | exact h.seen_oldL (by assumption) (by assumption) | exact h.seen_fact (by repeat (first | exact List.mem_cons_self .. | apply List.mem_cons_of_mem))) (by first | exact v8s_one _ | exact v32s_one _ | exact v64s_one _ | exact vis_one _ | exact vns_one _ | exact v16s_one _ | (intro u hu; simp at hu; rcases hu with h | h <;> subst h <;> rfl) | (intro u hu; simp only [List.mem_cons, List.not_mem_nil, or_false] at hu; subst hu; exact SV.one (by assumption)) | (simp [Value.oneCell']; done)) (by first | omega | (simp only [maxLen]; omega) | (simp only [List.length_append, List.length_cons, List.length_nil, List.length_take, maxLen]; omega) | (simp only [List.length_append, List.length_cons, List.length_nil, List.length_take]; omega)) (by first | omega | (simp only [maxLen]; omega) | (simp only [List.length_append, List.length_cons, List.length_nil, List.length_take, maxLen]; omega) | (simp only [List.length_append, List.length_cons, List.length_nil, List.length_take]; omega)) _ (by first | with_reducible exact List.nil_append _ | exact (v8s_append _ _).symm | exact (vis_append _ _).symm | exact (vns_append _ _).symm | exact (v64s_append _ _).symm | exact (v32s_append _ _).symm | rfl)) rfl (fun b20 p20 => ?_)
      refine wpl_q (q_pure rfl) rfl ?_
      refine wpl_nil ?_
      refine ex_block ?_
      refine ex_then ?_
      refine wpc_region ?_
      refine wpl_q (q_addN (b := 1) rfl rfl (by first | omega | (simp only [maxLen]; omega) | (simp only [List.length_append, List.length_cons, List.length_nil, List.length_take, maxLen]; omega) | (simp only [List.length_append, List.length_cons, List.length_nil, List.length_take]; omega))) rfl ?_
      refine wpl_q (q_pure rfl) rfl ?_
      refine wpl_nil ?_
      refine ex_again ⟨(i + 1, b20), ⟨by omega, p20⟩⟩ ?_ ?_ ?_
      · exact (by repeat (first | exact trivial | refine ⟨rfl, ?_⟩))
      · exact fun w h => by
          dsimp only
          rw [lev_succ, List.flatten_append]
          exact h.sub (by repeat (first | exact Sub.nil | exact Sub.refl _ | with_reducible refine Sub.keep ?_ | refine Sub.drop ?_)) (by repeat (first | exact Sub.nil | exact Sub.refl _ | with_reducible refine Sub.keep ?_ | refine Sub.drop ?_))
      · (show 2 ^ m - (i + 1) < 2 ^ m - i); omega
    ·
      simp only [decide_eq_false_iff_not] at hc12
      obtain rfl : i = 2 ^ m := by omega
      refine wpc_exit ?_
      refine ex_then_exit ?_
      refine ex_then_exit ?_
      refine ex_block_hit ?_
      refine ex_then ?_
      refine wpc_seq ?_
      refine wpc_region ?_
      refine wpl_q (q_pure rfl) rfl ?_
      refine wpl_tp (t_bsV [v] Tryd.underlying67 Tryd.ti27 rfl rfl (by decide) (by decide) rfl (one_one hi1.one)) rfl (fun b23 p23 => ?_)
      refine wpl_q (q_pure rfl) rfl ?_
      refine wpl_nil ?_
      refine ex_then ?_
      refine wpc_seq ?_
      refine wpc_block ?_
      refine wpc_loopc (ι := { x : Nat × Value × Value × List (Value × List (List UInt8)) // (x.1 ≤ m) ∧ (SV x.2.1 (2 ^ (m - x.1))) ∧ (SV x.2.2.1 (x.1 + 1)) ∧ (LevelsOk xs m x.2.2.2 (x.1 + 1)) }) [] (fun x Lc => (3, x.1.2.1) :: (5, x.1.2.2.1) :: Lc) (fun x => Mem w [] [.row x.1.2.2.1 (x.1.1 + 1) 27 1 (x.1.2.2.2.map Prod.fst), .blk b1 69 (v8s xs ++ [Value.int .i64 ((m : Nat) : Int)])] [Go.PL.seen x.1.2.1 (2 ^ (m - x.1.1)) 16 (v8s (lev xs x.1.1 (2 ^ (m - x.1.1))).flatten), rowsF 16 x.1.2.2.2]) (fun x => m - x.1.1) ⟨(0, v, b23, [(v, lev xs 0 (2 ^ m))]), ⟨Nat.zero_le _, hi1, p23, levels_one hi1⟩⟩ (by repeat (first | exact trivial | refine ⟨rfl, ?_⟩)) ?_ ?_
      · exact fun w h => levels_init h
      · rintro ⟨⟨l, vl, vt, qs⟩, ⟨hi0, hi1, hi2, hi3⟩⟩; try dsimp only
        have hi0 : l ≤ m := hi0; have hi1 : SV vl (2 ^ (m - l)) := hi1; have hi2 : SV vt (l + 1) := hi2; have hi3 : LevelsOk xs m qs (l + 1) := hi3
        refine wpc_seq ?_
        refine wpc_seq ?_
        refine wpc_region ?_
        refine wpl_q (q_pure rfl) rfl ?_
        refine wpl_q (q_lenW Tryd.underlying27 rfl (by first | assumption | exact SV.nil | exact SV.slv (by assumption) (by omega) (by omega) | exact arv_sv (by first | decide | (simp only [maxLen]; omega)))) rfl ?_
        refine wpl_q (q_pure rfl) rfl ?_
        refine wpl_nil ?_
        refine ex_then ?_
        refine wpc_cond rfl (fun hc26 => ?_) (fun hc26 => ?_)
        ·
          simp only [decide_eq_true_eq] at hc26
          have hlm : l < m := by
            apply Classical.byContradiction
            intro hn
            have : m - l = 0 := by omega
            rw [this] at hc26
            omega
          have hpw := pow_half hlm
          have hpl : 2 ^ (m - l) ≤ 16 := pow_le16 (by omega)
          have hll := lev_length xs l (2 ^ (m - l))
          have hla := lev_all xs l (2 ^ (m - l))
          refine wpc_skip ?_
          refine ex_then ?_
          refine wpc_block ?_
          refine wpc_seq ?_
          refine wpc_region ?_
          refine wpl_q (q_pure rfl) rfl ?_
          refine wpl_nil ?_
          refine ex_then ?_
          refine wpc_seq ?_
          refine wpc_seq ?_
          refine wpc_region ?_
          refine wpl_q (q_pure rfl) rfl ?_
          refine wpl_nil ?_
          refine ex_then ?_
          refine wpc_block ?_
          refine wpc_loopc (ι := { x : Nat × Nat × Value // (x.1 ≤ 2 ^ (m - (l + 1))) ∧ (x.2.1 = 2 * x.1) ∧ (SV x.2.2 x.1) }) [(3, _), (5, _)] (fun x Lc => (7, .int .i64 ((x.1.2.1 : Nat) : Int)) :: (6, x.1.2.2) :: Lc) (fun x => Mem w [] [.row x.1.2.2 x.1.1 23 16 (v8s (lev xs (l + 1) x.1.1).flatten), .row vt (l + 1) 27 1 (qs.map Prod.fst), .blk b1 69 (v8s xs ++ [Value.int .i64 ((m : Nat) : Int)])] [Go.PL.seen vl (2 ^ (m - l)) 16 (v8s (lev xs l (2 ^ (m - l))).flatten), rowsF 16 qs]) (fun x => 2 ^ (m - (l + 1)) - x.1.1) ⟨(0, 0, .slice none 0 0), ⟨Nat.zero_le _, rfl, SV.nil⟩⟩ (by repeat (first | exact trivial | refine ⟨rfl, ?_⟩)) ?_ ?_
          · exact fun w h => h.nilRow 23 16
          · rintro ⟨⟨i, j, v6⟩, ⟨hi0, hi1, hi2⟩⟩; try dsimp only
            have hi0 : i ≤ 2 ^ (m - (l + 1)) := hi0; have hi1 : j = 2 * i := hi1; have hi2 : SV v6 i := hi2
            refine wpc_seq ?_
            refine wpc_seq ?_
            refine wpc_region ?_
            refine wpl_q (q_pure rfl) rfl ?_
            refine wpl_q (q_pure rfl) rfl ?_
            refine wpl_q (q_lenW Tryd.underlying27 rfl (by first | assumption | exact SV.nil | exact SV.slv (by assumption) (by omega) (by omega) | exact arv_sv (by first | decide | (simp only [maxLen]; omega)))) rfl ?_
            refine wpl_q (q_pure rfl) rfl ?_
            refine wpl_nil ?_
            refine ex_then ?_
            refine wpc_cond rfl (fun hc30 => ?_) (fun hc30 => ?_)
            ·
              simp only [decide_eq_true_eq] at hc30
              have hg1 := getD_mem_len hla (i := j) (by omega)
              have hg2 := getD_mem_len hla (i := j + 1) (by omega)
              refine wpc_skip ?_
              refine ex_then ?_
              refine wpc_seq ?_
              refine wpc_block ?_
              refine wpc_draw 12 (by kernel_rfl) (fun _ h => h.drew) ?_
              refine wpd_p 0 rfl (by kernel_rfl) trivial (q_pure rfl) rfl sk0 ?_
              refine wpd_p 1 rfl (by kernel_rfl) trivial (q_pure rfl) rfl sk0 ?_
              refine wpd_p 2 rfl (by kernel_rfl) trivial (q_pure rfl) rfl sk0 ?_
              refine wpd_p 3 rfl (by kernel_rfl) trivial (q_idxW Tryd.underlying27 Tryd.ti23 rfl rfl (by first | assumption | exact SV.nil | exact SV.slv (by assumption) (by omega) (by omega) | exact arv_sv (by first | decide | (simp only [maxLen]; omega))) (by first | omega | (simp only [maxLen]; omega) | (simp only [List.length_append, List.length_cons, List.length_nil, List.length_take, maxLen]; omega) | (simp only [List.length_append, List.length_cons, List.length_nil, List.length_take]; omega))) rfl sk0 ?_
              refine wpd_qB 4 [10, 11, 12] rfl (by kernel_rfl) trivial (q_ldWN Tryd.underlying23 rfl Tryd.ti23 rfl (fun w h => by first | exact h.seenV | exact h.seenA (by first | decide | (simp only [maxLen]; omega)) (by first | with_reducible rfl | (simp only [v8s_length, v32s_length, vis_length, vns_length, v64s_length, List.length_replicate]; first | done | with_reducible assumption | omega) | (rw [v8s_length]; (first | with_reducible assumption | with_reducible exact shortF_length _ | with_reducible exact stepF_length _ _ _ | with_reducible exact sumF_length _ | with_reducible exact climbF_length _ (by first | with_reducible assumption | with_reducible exact shortF_length _ | with_reducible exact beginF_length _ _ | with_reducible exact getD_mem_len (by assumption) (by omega)) _ _ _ | with_reducible exact beginF_length _ _ | with_reducible exact chainF_length _ _ _ | with_reducible exact recF_length _ _ | with_reducible exact publicF_length _ | with_reducible exact leafF_length _ _ | with_reducible exact joinedF_length _ _ | with_reducible exact nodeF_length _ _ _ | with_reducible exact rootF_length _ _ _ _ _ | with_reducible exact getD_mem_len (by assumption) (by omega) | (with_reducible exact List.length_replicate))) | rfl) | exact h.seen_old (by assumption) | exact h.seen_oldL (by assumption) (by assumption) | exact h.seen_fact (by repeat (first | exact List.mem_cons_self .. | apply List.mem_cons_of_mem))) (v8s ((lev xs l (2 ^ (m - l))).getD j [])) (part8 hla (by omega)) ((v8s_length _).trans hg1)) rfl (fun _ h => h) ?_
              refine wpd_p 5 rfl (by kernel_rfl) trivial (q_pure rfl) rfl sk0 ?_
              refine wpd_p 6 rfl (by kernel_rfl) trivial (q_pure rfl) rfl sk0 ?_
              refine wpd_p 7 rfl (by kernel_rfl) trivial (q_addN (b := 1) rfl rfl (by first | omega | (simp only [maxLen]; omega) | (simp only [List.length_append, List.length_cons, List.length_nil, List.length_take, maxLen]; omega) | (simp only [List.length_append, List.length_cons, List.length_nil, List.length_take]; omega))) rfl sk0 ?_
              refine wpd_p 8 rfl (by kernel_rfl) trivial (q_idxW Tryd.underlying27 Tryd.ti23 rfl rfl (by first | assumption | exact SV.nil | exact SV.slv (by assumption) (by omega) (by omega) | exact arv_sv (by first | decide | (simp only [maxLen]; omega))) (by first | omega | (simp only [maxLen]; omega) | (simp only [List.length_append, List.length_cons, List.length_nil, List.length_take, maxLen]; omega) | (simp only [List.length_append, List.length_cons, List.length_nil, List.length_take]; omega))) rfl sk0 ?_
              refine wpd_qB 9 [10, 11, 12] rfl (by kernel_rfl) trivial (q_ldWN Tryd.underlying23 rfl Tryd.ti23 rfl (fun w h => by first | exact h.seenV | exact h.seenA (by first | decide | (simp only [maxLen]; omega)) (by first | with_reducible rfl | (simp only [v8s_length, v32s_length, vis_length, vns_length, v64s_length, List.length_replicate]; first | done | with_reducible assumption | omega) | (rw [v8s_length]; (first | with_reducible assumption | with_reducible exact shortF_length _ | with_reducible exact stepF_length _ _ _ | with_reducible exact sumF_length _ | with_reducible exact climbF_length _ (by first | with_reducible assumption | with_reducible exact shortF_length _ | with_reducible exact beginF_length _ _ | with_reducible exact getD_mem_len (by assumption) (by omega)) _ _ _ | with_reducible exact beginF_length _ _ | with_reducible exact chainF_length _ _ _ | with_reducible exact recF_length _ _ | with_reducible exact publicF_length _ | with_reducible exact leafF_length _ _ | with_reducible exact joinedF_length _ _ | with_reducible exact nodeF_length _ _ _ | with_reducible exact rootF_length _ _ _ _ _ | with_reducible exact getD_mem_len (by assumption) (by omega) | (with_reducible exact List.length_replicate))) | rfl) | exact h.seen_old (by assumption) | exact h.seen_oldL (by assumption) (by assumption) | exact h.seen_fact (by repeat (first | exact List.mem_cons_self .. | apply List.mem_cons_of_mem))) (v8s ((lev xs l (2 ^ (m - l))).getD (j + 1) [])) (part8 hla (by omega)) ((v8s_length _).trans hg2)) rfl (fun _ h => h) ?_
              refine wpd_t 10 rfl (by kernel_rfl) trivial (t_pur Tryd.hb48 rfl fun w h => joined7 _ _ w (by (first | with_reducible assumption | with_reducible exact shortF_length _ | with_reducible exact stepF_length _ _ _ | with_reducible exact sumF_length _ | with_reducible exact climbF_length _ (by first | with_reducible assumption | with_reducible exact shortF_length _ | with_reducible exact beginF_length _ _ | with_reducible exact getD_mem_len (by assumption) (by omega)) _ _ _ | with_reducible exact beginF_length _ _ | with_reducible exact chainF_length _ _ _ | with_reducible exact recF_length _ _ | with_reducible exact publicF_length _ | with_reducible exact leafF_length _ _ | with_reducible exact joinedF_length _ _ | with_reducible exact nodeF_length _ _ _ | with_reducible exact rootF_length _ _ _ _ _ | with_reducible exact getD_mem_len (by assumption) (by omega) | (with_reducible exact List.length_replicate))) (by (first | with_reducible assumption | with_reducible exact shortF_length _ | with_reducible exact stepF_length _ _ _ | with_reducible exact sumF_length _ | with_reducible exact climbF_length _ (by first | with_reducible assumption | with_reducible exact shortF_length _ | with_reducible exact beginF_length _ _ | with_reducible exact getD_mem_len (by assumption) (by omega)) _ _ _ | with_reducible exact beginF_length _ _ | with_reducible exact chainF_length _ _ _ | with_reducible exact recF_length _ _ | with_reducible exact publicF_length _ | with_reducible exact leafF_length _ _ | with_reducible exact joinedF_length _ _ | with_reducible exact nodeF_length _ _ _ | with_reducible exact rootF_length _ _ _ _ _ | with_reducible exact getD_mem_len (by assumption) (by omega) | (with_reducible exact List.length_replicate))) (glob h hG)) rfl (fun _ => sk0) (fun b43 => ?_)
              refine wpd_tp 11 rfl (by kernel_rfl) trivial (t_bsS [_] Tryd.underlying27 Tryd.ti23 rfl (by decide) rfl (by decide) (by decide) rfl (all_one (by (first | with_reducible assumption | with_reducible exact shortF_length _ | with_reducible exact stepF_length _ _ _ | with_reducible exact sumF_length _ | with_reducible exact climbF_length _ (by first | with_reducible assumption | with_reducible exact shortF_length _ | with_reducible exact beginF_length _ _ | with_reducible exact getD_mem_len (by assumption) (by omega)) _ _ _ | with_reducible exact beginF_length _ _ | with_reducible exact chainF_length _ _ _ | with_reducible exact recF_length _ _ | with_reducible exact publicF_length _ | with_reducible exact leafF_length _ _ | with_reducible exact joinedF_length _ _ | with_reducible exact nodeF_length _ _ _ | with_reducible exact rootF_length _ _ _ _ _ | with_reducible exact getD_mem_len (by assumption) (by omega) | (with_reducible exact List.length_replicate))))) rfl (fun _ => (fun w h => .inr (h.sub (by repeat (first | exact Sub.nil | exact Sub.refl _ | with_reducible refine Sub.keep ?_ | refine Sub.drop ?_)) (by repeat (first | exact Sub.nil | exact Sub.refl _ | with_reducible refine Sub.keep ?_ | refine Sub.drop ?_))))) (fun b44 p44 => ?_)
              refine wpd_tp 12 rfl (by kernel_rfl) trivial (t_apW Tryd.underlying27 Tryd.ti23 rfl (by decide) rfl rfl (fun w h => by first | exact h.seenV | exact h.seenA (by first | decide | (simp only [maxLen]; omega)) (by first | with_reducible rfl | (simp only [v8s_length, v32s_length, vis_length, vns_length, v64s_length, List.length_replicate]; first | done | with_reducible assumption | omega) | (rw [v8s_length]; (first | with_reducible assumption | with_reducible exact shortF_length _ | with_reducible exact stepF_length _ _ _ | with_reducible exact sumF_length _ | with_reducible exact climbF_length _ (by first | with_reducible assumption | with_reducible exact shortF_length _ | with_reducible exact beginF_length _ _ | with_reducible exact getD_mem_len (by assumption) (by omega)) _ _ _ | with_reducible exact beginF_length _ _ | with_reducible exact chainF_length _ _ _ | with_reducible exact recF_length _ _ | with_reducible exact publicF_length _ | with_reducible exact leafF_length _ _ | with_reducible exact joinedF_length _ _ | with_reducible exact nodeF_length _ _ _ | with_reducible exact rootF_length _ _ _ _ _ | with_reducible exact getD_mem_len (by assumption) (by omega) | (with_reducible exact List.length_replicate))) | rfl) | exact h.seen_old (by assumption) | exact h.seen_oldL (by assumption) (by assumption) | exact h.seen_fact (by repeat (first | exact List.mem_cons_self .. | apply List.mem_cons_of_mem))) (by first | exact v8s_one _ | exact v32s_one _ | exact v64s_one _ | exact vis_one _ | exact vns_one _ | exact v16s_one _ | (intro u hu; simp at hu; rcases hu with h | h <;> subst h <;> rfl) | (intro u hu; simp only [List.mem_cons, List.not_mem_nil, or_false] at hu; subst hu; exact SV.one (by assumption)) | (simp [Value.oneCell']; done)) (by first | omega | (simp only [maxLen]; omega) | (simp only [List.length_append, List.length_cons, List.length_nil, List.length_take, maxLen]; omega) | (simp only [List.length_append, List.length_cons, List.length_nil, List.length_take]; omega)) (by first | omega | (simp only [maxLen]; omega) | (simp only [List.length_append, List.length_cons, List.length_nil, List.length_take, maxLen]; omega) | (simp only [List.length_append, List.length_cons, List.length_nil, List.length_take]; omega)) _ (by first | with_reducible exact List.nil_append _ | exact (v8s_append _ _).symm | exact (vis_append _ _).symm | exact (vns_append _ _).symm | exact (v64s_append _ _).symm | exact (v32s_append _ _).symm | rfl)) rfl (fun _ => skk rfl) (fun b45 p45 => ?_)
              refine wpd_p 13 rfl (by kernel_rfl) trivial (q_pure rfl) rfl (skk rfl) ?_
              refine wpd_done (by kernel_rfl) ?_
              refine ex_block ?_
              refine ex_then ?_
              refine wpc_region ?_
              refine wpl_q (q_pure rfl) rfl ?_
              refine wpl_q (q_addN (b := 2) rfl rfl (by first | omega | (simp only [maxLen]; omega) | (simp only [List.length_append, List.length_cons, List.length_nil, List.length_take, maxLen]; omega) | (simp only [List.length_append, List.length_cons, List.length_nil, List.length_take]; omega))) rfl ?_
              refine wpl_q (q_pure rfl) rfl ?_
              refine wpl_nil ?_
              refine ex_again ⟨(i + 1, j + 2, b45), ⟨by dsimp only; omega, by dsimp only; omega, p45⟩⟩ ?_ ?_ ?_
              · exact (by repeat (first | exact trivial | refine ⟨rfl, ?_⟩))
              · exact fun w h => by
                  dsimp only
                  rw [← lev_next xs l (2 ^ (m - l)) i (by omega), List.flatten_append]
                  rw [hi1] at h
                  exact h.sub (by repeat (first | exact Sub.nil | exact Sub.refl _ | with_reducible refine Sub.keep ?_ | refine Sub.drop ?_)) (by repeat (first | exact Sub.nil | exact Sub.refl _ | with_reducible refine Sub.keep ?_ | refine Sub.drop ?_))
              · (show 2 ^ (m - (l + 1)) - (i + 1) < 2 ^ (m - (l + 1)) - i); omega
            ·
              simp only [decide_eq_false_iff_not] at hc30
              obtain rfl : i = 2 ^ (m - (l + 1)) := by omega
              have hv6 := hi2
              refine wpc_exit ?_
              refine ex_then_exit ?_
              refine ex_then_exit ?_
              refine ex_block_hit ?_
              refine ex_then ?_
              refine wpc_seq ?_
              refine wpc_region ?_
              refine wpl_q (q_pure rfl) rfl ?_
              refine wpl_q (q_pure rfl) rfl ?_
              refine wpl_nil ?_
              refine ex_then ?_
              refine wpc_region ?_
              refine wpl_q (q_pure rfl) rfl ?_
              refine wpl_q (q_pure rfl) rfl ?_
              refine wpl_tp (t_bsV [v6] Tryd.underlying67 Tryd.ti27 rfl rfl (by decide) (by decide) rfl (one_one hv6.one)) rfl (fun b49 p49 => ?_)
              refine wpl_tp (t_apW Tryd.underlying67 Tryd.ti27 rfl (by decide) rfl rfl (fun w h => h.seenV) (one_one hv6.one) (by first | omega | (simp only [maxLen]; omega) | (simp only [List.length_append, List.length_cons, List.length_nil, List.length_take, maxLen]; omega) | (simp only [List.length_append, List.length_cons, List.length_nil, List.length_take]; omega)) (by first | omega | (simp only [maxLen]; omega) | (simp only [List.length_append, List.length_cons, List.length_nil, List.length_take, maxLen]; omega) | (simp only [List.length_append, List.length_cons, List.length_nil, List.length_take]; omega)) (qs.map Prod.fst ++ [v6]) rfl) rfl (fun b50 p50 => ?_)
              refine wpl_q (q_pure rfl) rfl ?_
              refine wpl_nil ?_
              refine ex_block ?_
              refine ex_again ⟨(l + 1, v6, b50, qs ++ [(v6, lev xs (l + 1) (2 ^ (m - (l + 1))))]), ⟨by omega, hv6, p50, hi3.snoc hv6⟩⟩ ?_ ?_ ?_
              · exact (by repeat (first | exact trivial | refine ⟨rfl, ?_⟩))
              · exact fun w h => levels_next h
              · (show m - (l + 1) < m - l); omega
        ·
          simp only [decide_eq_false_iff_not] at hc26
          obtain rfl : l = m := by
            apply Classical.byContradiction
            intro hn
            have := pow_half (show l < m by omega)
            have := Nat.two_pow_pos (m - (l + 1))
            omega
          refine wpc_exit ?_
          refine ex_then_exit ?_
          refine ex_then_exit ?_
          refine ex_block_hit ?_
          refine ex_then ?_
          refine wpc_seq ?_
          refine wpc_region ?_
          refine wpl_q (q_pure rfl) rfl ?_
          refine wpl_q (q_pure rfl) rfl ?_
          refine wpl_nil ?_
          refine ex_then ?_
          refine wpc_ret ?_
          refine ret1 (.inl rfl) rfl rfl ?_
          exact fun w h => ⟨(vt, qs), ⟨hi2, hi3⟩, rfl, h.below, h.made (.keep .nil) (.drop (.keep .nil))⟩

end Go.Proofs.YtbkgfndojlhdoaaDoor
