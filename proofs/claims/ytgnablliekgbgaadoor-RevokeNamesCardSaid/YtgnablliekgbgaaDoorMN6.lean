/- What the statement reaches, in order. -/
import Derived.Test.YtgnablliekgbgaaDoorMNPLN
import Derived.Test.YtgnablliekgbgaaDoorMNPLL
import Derived.Test.YtgnablliekgbgaaDoorMNTI
import Derived.Test.YtgnablliekgbgaaDoorMNPLI
import Derived.Test.YtgnablliekgbgaaDoorMNPLZ
import Derived.KernelRfl
import Derived.Lib.BufferRead
import Derived.Lib.ConvBytes
import Derived.Laws.IdiomStrings
import Derived.Test.YtgnablliekgbgaaDoorMNPLH
import Derived.Recover
import Derived.WalkKit
import Derived.ProofKit
import Derived.OpenShut
import Derived.ChangeOld
import Derived.Below
import Derived.Carry
import Derived.LaidMore
import Derived.Deep.DeepHandedRow
import Derived.Deep.DeepWitnessRowRef
import Derived.Lib.LaidTab
import Derived.Stop.Joined
import Derived.Test.YtgnablliekgbgaaDoorMN5
set_option linter.unusedSimpArgs false
set_option linter.unusedVariables false
set_option maxRecDepth 100000
namespace Go.Proofs.YtgnablliekgbgaaDoor
open Go Go.PL Go.RowKit
def nodeF (s : List UInt8) : Nat → Nat → List UInt8
  | 0, k => publicF (leafF s k)
  | l + 1, k => joinedF (nodeF s l (2 * k)) (nodeF s l (2 * k + 1))
theorem nodeF_length (s : List UInt8) : ∀ l k, (nodeF s l k).length = 16
  | 0, k => by rw [nodeF]; exact publicF_length _
  | l + 1, k => by rw [nodeF]; exact joinedF_length _ _
instance l16_node {s : List UInt8} {l k : Nat} : L16 (nodeF s l k) := ⟨nodeF_length s l k⟩
def lev (s : List UInt8) (l n : Nat) : List (List UInt8) := (List.range n).map (nodeF s l)
theorem lev_length (s : List UInt8) (l n : Nat) : (lev s l n).length = n := by simp [lev]
theorem lev_all (s : List UInt8) (l n : Nat) : ∀ x ∈ lev s l n, x.length = 16 := fun x hx => by
  obtain ⟨i, _, rfl⟩ := List.mem_map.1 hx; exact nodeF_length _ _ _
theorem lev_get (s : List UInt8) (l n i : Nat) (h : i < n) : (lev s l n).getD i [] = nodeF s l i := by
  rw [lev, List.getD_eq_getElem?_getD, List.getElem?_map, List.getElem?_eq_getElem (by simpa using h)]; simp
theorem lev_succ (s : List UInt8) (l n : Nat) : lev s l (n + 1) = lev s l n ++ [nodeF s l n] := by simp [lev, List.range_succ]
theorem lev_next (s : List UInt8) (l n i : Nat) (h : 2 * i + 1 < n) : lev s (l + 1) i ++ [joinedF ((lev s l n).getD (2 * i) []) ((lev s l n).getD (2 * i + 1) [])] = lev s (l + 1) (i + 1) := by
  rw [lev_succ, lev_get s l n _ zz12, lev_get s l n _ h]; rfl
theorem cells_pre {r : Rd} {a : Addr} {xs ys : List Value} (h : CellsAt r a (xs ++ ys)) : CellsAt r a xs := fun j u hj => h j u (by
  rw [List.getElem?_append_left (List.getElem?_eq_some_iff.1 hj).1]; exact hj)
structure LevelsOk (s : List UInt8) (m : Nat) (qs : List (Value × List (List UInt8))) (n : Nat) : Prop where
  len : qs.length = n
  rows : ∀ j q, qs[j]? = some q → q.2 = lev s j (2 ^ (m - j))
  sv : ∀ q ∈ qs, SV q.1 q.2.length
theorem LevelsOk.snoc {s : List UInt8} {m n : Nat} {qs : List (Value × List (List UInt8))} {v : Value} (h : LevelsOk s m qs n) (hv : SV v (2 ^ (m - n))) : LevelsOk s m (qs ++ [(v, lev s n (2 ^ (m - n)))]) (n + 1) := by
  refine ⟨by rw [List.length_append, h.len]; rfl, fun j q hj => ?_, fun q hq => ?_⟩
  · rw [List.getElem?_append] at hj
    split at hj
    · exact h.rows j q hj
    · rename_i hlt
      rw [h.len] at hj hlt
      have h1 : j - n = 0 := by
        have := (List.getElem?_eq_some_iff.1 hj).1
        simp at this; omega
      rw [h1] at hj
      obtain rfl : j = n := by omega
      simp at hj; subst hj; rfl
  · rcases List.mem_append.1 hq with hq | hq
    · exact h.sv q hq
    · rw [List.mem_singleton.1 hq]
      show SV v (lev s n (2 ^ (m - n))).length
      rw [lev_length]; exact hv
theorem LevelsOk.get {s : List UInt8} {m n : Nat} {qs : List (Value × List (List UInt8))} (h : LevelsOk s m qs n) {j : Nat} (hj : j < n) : ∃ v, (qs.map Prod.fst)[j]? = some v ∧ (v, lev s j (2 ^ (m - j))) ∈ qs ∧ SV v (2 ^ (m - j)) := by
  have hlt : j < qs.length := by rw [h.len]; exact hj
  have h1 := h.rows j _ (List.getElem?_eq_getElem hlt)
  have h2 := List.getElem_mem hlt
  refine ⟨qs[j].1, by rw [List.getElem?_map, List.getElem?_eq_getElem hlt]; rfl, ?_, ?_⟩
  · rw [← h1]; exact h2
  · have := h.sv _ h2
    rw [h1, lev_length] at this; exact this
theorem pow_half {m l : Nat} (h : l < m) : 2 ^ (m - l) = 2 * 2 ^ (m - (l + 1)) := by
  rw [show m - l = (m - (l + 1)) + 1 from zz12, Nat.pow_succ]; omega
theorem one_one {v : Value} (h : v.oneCell' = true) : ∀ u ∈ [v], u.oneCell' = true := fun u hu => by rw [List.mem_singleton.1 hu]; exact h
theorem levels_one {s : List UInt8} {m : Nat} {v : Value} (hv : SV v (2 ^ m)) : LevelsOk s m [(v, lev s 0 (2 ^ m))] 1 := by
  have := LevelsOk.snoc (s := s) (m := m) (n := 0) (qs := []) (v := v) ⟨rfl, fun j q h => by simp at h, fun q h => by cases h⟩ hv
  exact this
theorem levels_init {w0 w : World} {s : List UInt8} {m : Nat} {v b : Value} {M : List Ent} {t e : TypeId} (h : Mem w0 [] (.row b 1 t 1 [v] :: .row v (2 ^ m) e 16 (v8s (lev s 0 (2 ^ m)).flatten) :: M) [] w) :
    Mem w0 [] (.row b (0 + 1) t 1 ([(v, lev s 0 (2 ^ m))].map Prod.fst) :: M) [Go.PL.seen v (2 ^ (m - 0)) 16 (v8s (lev s 0 (2 ^ (m - 0))).flatten), rowsF 16 [(v, lev s 0 (2 ^ m))]] w := by
  refine (h.freezeRow (.there .here)).imp fun r hr t ht => ?_
  have h1 : Seen r v (2 ^ m) 16 (v8s (lev s 0 (2 ^ m)).flatten) := hr _ (List.mem_cons_self ..)
  rcases List.mem_cons.1 ht with rfl | ht
  · exact h1
  · rw [List.mem_singleton.1 ht]
    intro q hq
    rw [List.mem_singleton.1 hq]
    show Seen r v (lev s 0 (2 ^ m)).length 16 _
    rw [lev_length]; exact h1
theorem levels_next {w0 w : World} {s : List UInt8} {m l : Nat} {v vl b b2 : Value} {qs : List (Value × List (List UInt8))} {x : List Value} {M : List Ent} {t t2 e : TypeId} {N : Nat} {ws : List Value}
    (h : Mem w0 [] (.row b2 1 t2 1 x :: .row v (2 ^ (m - (l + 1))) e 16 (v8s (lev s (l + 1) (2 ^ (m - (l + 1)))).flatten) :: .row b (l + 1 + 1) t 1 (qs.map Prod.fst ++ [v]) :: M) [Go.PL.seen vl N 16 ws, rowsF 16 qs] w) :
    Mem w0 [] (.row b (l + 1 + 1) t 1 ((qs ++ [(v, lev s (l + 1) (2 ^ (m - (l + 1))))]).map Prod.fst) :: M) [Go.PL.seen v (2 ^ (m - (l + 1))) 16 (v8s (lev s (l + 1) (2 ^ (m - (l + 1)))).flatten), rowsF 16 (qs ++ [(v, lev s (l + 1) (2 ^ (m - (l + 1))))])] w := by
  rw [List.map_append]
  refine ((h.sub (.drop (Sub.refl _)) (Sub.refl _)).freezeRow .here).imp fun r hr t ht => ?_
  have h1 : Seen r v (2 ^ (m - (l + 1))) 16 (v8s (lev s (l + 1) (2 ^ (m - (l + 1)))).flatten) := hr _ (List.mem_cons_self ..)
  have h2 : ∀ q ∈ qs, Seen r q.1 q.2.length 16 (v8s q.2.flatten) := hr (rowsF 16 qs) zz40
  rcases List.mem_cons.1 ht with rfl | ht
  · exact h1
  · rw [List.mem_singleton.1 ht]
    intro q hq
    rcases List.mem_append.1 hq with hq | hq
    · exact h2 q hq
    · rw [List.mem_singleton.1 hq]
      show Seen r v (lev s (l + 1) (2 ^ (m - (l + 1)))).length 16 _
      rw [lev_length]; exact h1
theorem leaf7 (xs : List UInt8) (ht : Int) (i : Nat) (w : World) (hxs : xs.length = 16) (hG : Glb w) :
    Calls Tryd.prog 57 [.agg (v8s xs ++ [Value.int .i64 ht]).toArray, .int .i64 ((i : Nat) : Int)].toArray w (Pur w (.agg (v8s (leafF xs i)).toArray)) := by
  refine enter (m := 12) (R := Mem w [] [] []) Tryd.func57 rfl rfl (Nat.le_of_ble_eq_true rfl) (Mem.start w) ?_
  refine wpc_seq <| wpc_region ?_
  refine wpl_t (t_box rfl (v8s xs ++ [Value.int .i64 ht]) rfl) rfl (fun b2 => ?_)
  refine wpl_t (t_alloc Tryd.ti41 (v8s (List.replicate 16 0)) (by rfl)) rfl (fun b4 => ?_)
  refine wpl_nil <| ex_then <| wpc_seq <| wpc_region <| wpl_q (q_field Tryd.underlying75 rfl Tryd.ti41 rfl rfl _ rfl) rfl <| wpl_q (q_arAll Tryd.underlying41 Tryd.ti5 rfl rfl) rfl <| wpl_q (q_pure rfl) rfl <| wpl_q (q8_conv Tryd.underlying3 Tryd.underlying5 rfl) rfl ?_
  refine wpl_tp (t_bsV (v8s [_, (254 : UInt8), (0 : UInt8)]) Tryd.underlying34 Tryd.ti5 rfl rfl zz19 zz19 rfl (v8s_one _)) rfl (fun b9 p9 => ?_)
  refine wpl_tp (t_apF Tryd.underlying34 Tryd.ti5 rfl rfl rfl (fun w h => seen_whole (cells_pre h.atB) zz19 ((v8s_length _).trans hxs)) (fun w h => zz15) zz1 zz1 zz1 _ zz16) rfl (fun b10 p10 => ?_)
  refine wpl_t (t_pur Tryd.hb85 rfl fun w h => shortW _ _ w zz13 (glob h hG)) rfl (fun b11 => ?_)
  refine wpl_t0 (t_stA Tryd.ti41 rfl rfl zz2 (v8s_one _) zz2) (fun _ => ?_)
  refine wpl_nil <| ex_then <| wpc_ret ?_
  refine retv1 (.inl rfl) rfl (rv_agg Tryd.underlying41 rfl Tryd.ti41 rfl (fun w h => h.atB) zz2) ?_
  exact fun w h => ⟨rfl, h.below⟩
theorem levels7 (xs : List UInt8) (m : Nat) (w : World) (hxs : xs.length = 16) (hm : m ≤ 4) (hG : Glb w) :
    Calls Tryd.prog 33 [.agg (v8s xs ++ [Value.int .i64 ((m : Nat) : Int)]).toArray].toArray w (GivesP w (fun x : Value × List (Value × List (List UInt8)) => SV x.1 (m + 1) ∧ LevelsOk xs m x.2 (m + 1)) (fun x => x.1) (fun x => [.row x.1 (m + 1) 28 1 (x.2.map Prod.fst)]) (fun x => [rowsF 16 x.2])) := by
  have hpm := pow_le16Mm hm
  refine enter (m := 52) (R := Mem w [] [] []) Tryd.func33 rfl rfl (Nat.le_of_ble_eq_true rfl) (Mem.start w) ?_
  refine wpc_seq <| wpc_region ?_
  refine wpl_t (t_box rfl (v8s xs ++ [Value.int .i64 ((m : Nat) : Int)]) rfl) rfl (fun b1 => ?_)
  refine wpl_q (q_pure rfl) rfl <| wpl_nil <| ex_then <| wpc_seq <| wpc_region <| wpl_q (q_pure rfl) rfl <| wpl_nil <| ex_then <| wpc_seq <| wpc_seq <| wpc_region <| wpl_q (q_field Tryd.underlying75 rfl Tryd.ti3 rfl rfl _ rfl) rfl ?_
  refine wpl_q (q_ld Tryd.underlying3 rfl rfl (key_height xs m hxs)) rfl ?_
  refine wpl_q (q_shlN (a := 1) rfl rfl zz24 zz1) rfl ?_
  refine wpl_q (q_pure rfl) rfl <| wpl_nil <| ex_then <| wpc_block ?_
  refine wpc_loopc (ι := { x : Nat × Value // (x.1 ≤ 2 ^ m) ∧ (SV x.2 x.1) }) [(1, _), (10, _)] (fun x Lc => (11, .int .i64 ((x.1.1 : Nat) : Int)) :: (3, x.1.2) :: Lc) (fun x => Mem w [] [.row x.1.2 x.1.1 41 16 (v8s (lev xs 0 x.1.1).flatten), .blk b1 75 (v8s xs ++ [Value.int .i64 ((m : Nat) : Int)])] []) (fun x => 2 ^ m - x.1.1) ⟨(0, .slice none 0 0), ⟨Nat.zero_le _, SV.nil⟩⟩ zz9 ?_ ?_
  ·
   exact fun w h => h.nilRow 41 16
  ·
   rintro ⟨⟨i, v⟩, ⟨hi0, hi1⟩⟩; try dsimp only
   have hi0 : i ≤ 2 ^ m := hi0; have hi1 : SV v i := hi1
   refine wpc_seq <| wpc_region <| wpl_q (q_pure rfl) rfl <| wpl_nil <| ex_then <| wpc_seq ?_
   refine wpc_cond rfl (fun hc12 => ?_) (fun hc12 => ?_)
   ·
    simp only [decide_eq_true_eq] at hc12
    refine wpc_skip <| ex_then <| wpc_seq <| wpc_block <| wpc_seq <| wpc_region <| wpl_q (q_pure rfl) rfl <| wpl_q (q_pure rfl) rfl <| wpl_nil <| ex_then <| wpc_region <| wpl_q (q_pure rfl) rfl ?_
    refine wpl_q (q_ldN Tryd.underlying75 rfl Tryd.ti75 rfl (key_len xs m hxs)) rfl <| wpl_q (q_pure rfl) rfl ?_
    refine wpl_t (t_pur Tryd.hb57 rfl fun w h => leaf7 _ _ _ w zz21 (glob h hG)) rfl (fun b17 => ?_)
    refine wpl_t (t_pur Tryd.hb56 rfl fun w h => public_ _ w zz21 (glob h hG)) rfl (fun b18 => ?_)
    refine wpl_tp (t_bsS [_] Tryd.underlying28 Tryd.ti41 rfl zz19 rfl zz19 zz19 rfl (all_one zz21)) rfl (fun b19 p19 => ?_)
    refine wpl_tp (t_apW Tryd.underlying28 Tryd.ti41 rfl zz19 rfl rfl (fun w h => zz15) zz5 zz1 zz1 _ zz16) rfl (fun b20 p20 => ?_)
    refine wpl_q (q_pure rfl) rfl <| wpl_nil <| ex_block <| ex_then <| wpc_region ?_
    refine wpl_q (q_addN (b := 1) rfl rfl zz1) rfl ?_
    refine wpl_q (q_pure rfl) rfl <| wpl_nil ?_
    refine ex_again ⟨(i + 1, b20), ⟨zz12, p20⟩⟩ ?_ ?_ ?_
    ·
     exact zz9
    ·
     exact fun w h => by
       dsimp only
       rw [lev_succ, List.flatten_append]
       exact h.sub (.drop (Sub.refl _)) (Sub.refl _)
    ·
     (show 2 ^ m - (i + 1) < 2 ^ m - i); omega
   ·
    simp only [decide_eq_false_iff_not] at hc12
    obtain rfl : i = 2 ^ m := by omega
    refine wpc_exit ?_
    refine ex_then_exit ?_
    refine ex_then_exit ?_
    refine ex_block_hit ?_
    refine ex_then <| wpc_seq <| wpc_region <| wpl_q (q_pure rfl) rfl ?_
    refine wpl_tp (t_bsV [v] Tryd.underlying73 Tryd.ti28 rfl rfl zz19 zz19 rfl (one_one hi1.one)) rfl (fun b23 p23 => ?_)
    refine wpl_q (q_pure rfl) rfl <| wpl_nil <| ex_then <| wpc_seq <| wpc_block ?_
    refine wpc_loopc (ι := { x : Nat × Value × Value × List (Value × List (List UInt8)) // (x.1 ≤ m) ∧ (SV x.2.1 (2 ^ (m - x.1))) ∧ (SV x.2.2.1 (x.1 + 1)) ∧ (LevelsOk xs m x.2.2.2 (x.1 + 1)) }) [] (fun x Lc => (3, x.1.2.1) :: (5, x.1.2.2.1) :: Lc) (fun x => Mem w [] [.row x.1.2.2.1 (x.1.1 + 1) 28 1 (x.1.2.2.2.map Prod.fst), .blk b1 75 (v8s xs ++ [Value.int .i64 ((m : Nat) : Int)])] [Go.PL.seen x.1.2.1 (2 ^ (m - x.1.1)) 16 (v8s (lev xs x.1.1 (2 ^ (m - x.1.1))).flatten), rowsF 16 x.1.2.2.2]) (fun x => m - x.1.1) ⟨(0, v, b23, [(v, lev xs 0 (2 ^ m))]), ⟨Nat.zero_le _, hi1, p23, levels_one hi1⟩⟩ zz9 ?_ ?_
    ·
     exact fun w h => levels_init h
    ·
     rintro ⟨⟨l, vl, vt, qs⟩, ⟨hi0, hi1, hi2, hi3⟩⟩; try dsimp only
     have hi0 : l ≤ m := hi0; have hi1 : SV vl (2 ^ (m - l)) := hi1; have hi2 : SV vt (l + 1) := hi2; have hi3 : LevelsOk xs m qs (l + 1) := hi3
     refine wpc_seq <| wpc_seq <| wpc_region <| wpl_q (q_pure rfl) rfl ?_
     refine wpl_q (q_lenW Tryd.underlying28 rfl zz3) rfl ?_
     refine wpl_q (q_pure rfl) rfl <| wpl_nil <| ex_then ?_
     refine wpc_cond rfl (fun hc26 => ?_) (fun hc26 => ?_)
     ·
      simp only [decide_eq_true_eq] at hc26
      have hlm : l < m := by
        apply Classical.byContradiction
        intro hn
        have : m - l = 0 := by omega
        rw [this] at hc26
        omega
      have hpw := pow_half hlm
      have hpl : 2 ^ (m - l) ≤ 16 := pow_le16Mm zz12
      have hll := lev_length xs l (2 ^ (m - l))
      have hla := lev_all xs l (2 ^ (m - l))
      refine wpc_skip <| ex_then <| wpc_block <| wpc_seq <| wpc_region <| wpl_q (q_pure rfl) rfl <| wpl_nil <| ex_then <| wpc_seq <| wpc_seq <| wpc_region <| wpl_q (q_pure rfl) rfl ?_
      refine wpl_nil <| ex_then <| wpc_block ?_
      refine wpc_loopc (ι := { x : Nat × Nat × Value // (x.1 ≤ 2 ^ (m - (l + 1))) ∧ (x.2.1 = 2 * x.1) ∧ (SV x.2.2 x.1) }) [(3, _), (5, _)] (fun x Lc => (7, .int .i64 ((x.1.2.1 : Nat) : Int)) :: (6, x.1.2.2) :: Lc) (fun x => Mem w [] [.row x.1.2.2 x.1.1 41 16 (v8s (lev xs (l + 1) x.1.1).flatten), .row vt (l + 1) 28 1 (qs.map Prod.fst), .blk b1 75 (v8s xs ++ [Value.int .i64 ((m : Nat) : Int)])] [Go.PL.seen vl (2 ^ (m - l)) 16 (v8s (lev xs l (2 ^ (m - l))).flatten), rowsF 16 qs]) (fun x => 2 ^ (m - (l + 1)) - x.1.1) ⟨(0, 0, .slice none 0 0), ⟨Nat.zero_le _, rfl, SV.nil⟩⟩ zz9 ?_ ?_
      ·
       exact fun w h => h.nilRow 41 16
      ·
       rintro ⟨⟨i, j, v6⟩, ⟨hi0, hi1, hi2⟩⟩; try dsimp only
       have hi0 : i ≤ 2 ^ (m - (l + 1)) := hi0; have hi1 : j = 2 * i := hi1; have hi2 : SV v6 i := hi2
       refine wpc_seq <| wpc_seq <| wpc_region <| wpl_q (q_pure rfl) rfl <| wpl_q (q_pure rfl) rfl ?_
       refine wpl_q (q_lenW Tryd.underlying28 rfl zz3) rfl ?_
       refine wpl_q (q_pure rfl) rfl <| wpl_nil <| ex_then ?_
       refine wpc_cond rfl (fun hc30 => ?_) (fun hc30 => ?_)
       ·
        simp only [decide_eq_true_eq] at hc30
        have hg1 := getD_mem_len hla (i := j) zz12
        have hg2 := getD_mem_len hla (i := j + 1) zz12
        refine wpc_skip <| ex_then <| wpc_seq <| wpc_block ?_
        refine wpc_draw 12 zz7 (fun _ h => h.drew) ?_
        refine wpd_p 0 rfl zz7 trivial (q_pure rfl) rfl sk0 ?_
        refine wpd_p 1 rfl zz7 trivial (q_pure rfl) rfl sk0 ?_
        refine wpd_p 2 rfl zz7 trivial (q_pure rfl) rfl sk0 ?_
        refine wpd_p 3 rfl zz7 trivial (q_idxW Tryd.underlying28 Tryd.ti41 rfl rfl zz3 zz1) rfl sk0 ?_
        refine wpd_qB 4 [10, 11, 12] rfl zz7 trivial (q_ldWN Tryd.underlying41 rfl Tryd.ti41 rfl (fun w h => zz15) (v8s ((lev xs l (2 ^ (m - l))).getD j [])) (part8 hla zz12) ((v8s_length _).trans hg1)) rfl (fun _ h => h) ?_
        refine wpd_p 5 rfl zz7 trivial (q_pure rfl) rfl sk0 ?_
        refine wpd_p 6 rfl zz7 trivial (q_pure rfl) rfl sk0 ?_
        refine wpd_p 7 rfl zz7 trivial (q_addN (b := 1) rfl rfl zz1) rfl sk0 ?_
        refine wpd_p 8 rfl zz7 trivial (q_idxW Tryd.underlying28 Tryd.ti41 rfl rfl zz3 zz1) rfl sk0 ?_
        refine wpd_qB 9 [10, 11, 12] rfl zz7 trivial (q_ldWN Tryd.underlying41 rfl Tryd.ti41 rfl (fun w h => zz15) (v8s ((lev xs l (2 ^ (m - l))).getD (j + 1) [])) (part8 hla zz12) ((v8s_length _).trans hg2)) rfl (fun _ h => h) ?_
        refine wpd_t 10 rfl zz7 trivial (t_pur Tryd.hb58 rfl fun w h => joined7 _ _ w zz21 zz21 (glob h hG)) rfl (fun _ => sk0) (fun b43 => ?_)
        refine wpd_tp 11 rfl zz7 trivial (t_bsS [_] Tryd.underlying28 Tryd.ti41 rfl zz19 rfl zz19 zz19 rfl (all_one zz21)) rfl (fun _ => (fun w h => .inr (h.sub SubC.h SubC.h))) (fun b44 p44 => ?_)
        refine wpd_tp 12 rfl zz7 trivial (t_apW Tryd.underlying28 Tryd.ti41 rfl zz19 rfl rfl (fun w h => zz15) zz5 zz1 zz1 _ zz16) rfl (fun _ => skk rfl) (fun b45 p45 => ?_)
        refine wpd_p 13 rfl zz7 trivial (q_pure rfl) rfl (skk rfl) ?_
        refine wpd_done zz7 ?_
        refine ex_block <| ex_then <| wpc_region <| wpl_q (q_pure rfl) rfl ?_
        refine wpl_q (q_addN (b := 2) rfl rfl zz1) rfl ?_
        refine wpl_q (q_pure rfl) rfl <| wpl_nil ?_
        refine ex_again ⟨(i + 1, j + 2, b45), ⟨by dsimp only; omega, by dsimp only; omega, p45⟩⟩ ?_ ?_ ?_
        ·
         exact zz9
        ·
         exact fun w h => by
           dsimp only
           rw [← lev_next xs l (2 ^ (m - l)) i zz12, List.flatten_append]
           rw [hi1] at h
           first | exact h.sub SubC.h SubC.h | exact h.sub zz8 zz8
        ·
         (show 2 ^ (m - (l + 1)) - (i + 1) < 2 ^ (m - (l + 1)) - i); omega
       ·
        simp only [decide_eq_false_iff_not] at hc30
        obtain rfl : i = 2 ^ (m - (l + 1)) := by omega
        have hv6 := hi2
        refine wpc_exit ?_
        refine ex_then_exit ?_
        refine ex_then_exit ?_
        refine ex_block_hit ?_
        refine ex_then <| wpc_seq <| wpc_region <| wpl_q (q_pure rfl) rfl <| wpl_q (q_pure rfl) rfl <| wpl_nil <| ex_then <| wpc_region <| wpl_q (q_pure rfl) rfl <| wpl_q (q_pure rfl) rfl ?_
        refine wpl_tp (t_bsV [v6] Tryd.underlying73 Tryd.ti28 rfl rfl zz19 zz19 rfl (one_one hv6.one)) rfl (fun b49 p49 => ?_)
        refine wpl_tp (t_apW Tryd.underlying73 Tryd.ti28 rfl zz19 rfl rfl (fun w h => h.seenV) (one_one hv6.one) zz1 zz1 (qs.map Prod.fst ++ [v6]) rfl) rfl (fun b50 p50 => ?_)
        refine wpl_q (q_pure rfl) rfl <| wpl_nil <| ex_block ?_
        refine ex_again ⟨(l + 1, v6, b50, qs ++ [(v6, lev xs (l + 1) (2 ^ (m - (l + 1))))]), ⟨zz12, hv6, p50, hi3.snoc hv6⟩⟩ ?_ ?_ ?_
        ·
         exact zz9
        ·
         exact fun w h => levels_next h
        ·
         (show m - (l + 1) < m - l); omega
     ·
      simp only [decide_eq_false_iff_not] at hc26
      obtain rfl : l = m := by
        apply Classical.byContradiction
        intro hn
        have := pow_half (show l < m from zz12)
        have := Nat.two_pow_pos (m - (l + 1))
        omega
      refine wpc_exit ?_
      refine ex_then_exit ?_
      refine ex_then_exit ?_
      refine ex_block_hit ?_
      refine ex_then <| wpc_seq <| wpc_region <| wpl_q (q_pure rfl) rfl <| wpl_q (q_pure rfl) rfl <| wpl_nil <| ex_then <| wpc_ret ?_
      refine ret1 (.inl rfl) rfl rfl ?_
      exact fun w h => ⟨(vt, qs), ⟨hi2, hi3⟩, rfl, h.below, h.made (.keep .nil) (.drop (.keep .nil))⟩
end Go.Proofs.YtgnablliekgbgaaDoor
namespace Go.Proofs.YtgnablliekgbgaaDoor
open Go Go.PL Go.RowKit
theorem list16 {xs : List UInt8} (h : xs.length = 16) : ∃ a0 a1 a2 a3 a4 a5 a6 a7 a8 a9 a10 a11 a12 a13 a14 a15, xs = [a0, a1, a2, a3, a4, a5, a6, a7, a8, a9, a10, a11, a12, a13, a14, a15] := by
  iterate 16 (cases xs with | nil => simp at h | cons a xs => ?_)
  cases xs with
  | nil => exact ⟨_, _, _, _, _, _, _, _, _, _, _, _, _, _, _, _, rfl⟩
  | cons a xs => simp at h
theorem built_key (xs : List UInt8) (ht : Int) (h : xs.length = 16) : Tryd.prog.built 43 [(0, .agg (v8s xs).toArray), (1, .int .i64 ht)] = some (v8s xs ++ [Value.int .i64 ht]).toArray := by
  obtain ⟨a0, a1, a2, a3, a4, a5, a6, a7, a8, a9, a10, a11, a12, a13, a14, a15, rfl⟩ := list16 h
  kernel_rfl
theorem built_tree (xs : List UInt8) (ht : Int) (h : xs.length = 16) : Tryd.prog.built 75 [(0, .agg (v8s xs).toArray), (1, .int .i64 ht)] = some (v8s xs ++ [Value.int .i64 ht]).toArray := by
  obtain ⟨a0, a1, a2, a3, a4, a5, a6, a7, a8, a9, a10, a11, a12, a13, a14, a15, rfl⟩ := list16 h
  kernel_rfl
theorem built_key0 : Tryd.prog.built 43 [] = some (v8s (List.replicate 16 0) ++ [Value.int .i64 0]).toArray := by kernel_rfl
theorem built_sig0 : Tryd.prog.built 30 [] = some #[.int .i64 0, .slice none 0 0, .slice none 0 0] := by kernel_rfl
theorem built_sig2 {v1 : Value} {n1 : Nat} (h1 : SV v1 n1) (idx : Int) : Tryd.prog.built 30 [(0, .int .i64 idx), (1, v1)] = some #[.int .i64 idx, v1, .slice none 0 0] := by
  obtain ⟨a1, c1, rfl, _⟩ := h1
  kernel_rfl
theorem key_one (xs : List UInt8) (ht : Int) : ∀ u ∈ v8s xs ++ [Value.int .i64 ht], u.oneCell' = true := fun u hu => by
  rcases List.mem_append.1 hu with hu | hu
  · exact v8s_one _ u hu
  · rw [List.mem_singleton.1 hu]; rfl
def keyR (s : List UInt8) (ht : Int) : List UInt8 := if 0 ≤ ht ∧ ht ≤ 4 then nodeF s ht.toNat 0 else List.replicate 16 0
def keyH (ht : Int) : Int := if 0 ≤ ht ∧ ht ≤ 4 then ht else 0
def keyE (ht : Int) : Int := if 0 ≤ ht ∧ ht ≤ 4 then 0 else 2
theorem keyR_length (s : List UInt8) (ht : Int) : (keyR s ht).length = 16 := by
  unfold keyR; split
  · exact nodeF_length _ _ _
  · exact List.length_replicate
def okS (ht idx : Int) : Prop := (0 ≤ ht ∧ ht ≤ 4) ∧ 0 ≤ idx ∧ idx < ((2 ^ ht.toNat : Nat) : Int)
instance (ht idx : Int) : Decidable (okS ht idx) := by unfold okS; infer_instance
def pathF (s : List UInt8) (k m : Nat) : List (List UInt8) := (List.range m).map fun l => nodeF s l ((k / 2 ^ l) ^^^ 1)
theorem pathF_length (s : List UInt8) (k m : Nat) : (pathF s k m).length = m := by simp [pathF]
theorem pathF_all (s : List UInt8) (k m : Nat) : ∀ x ∈ pathF s k m, x.length = 16 := fun x hx => by
  obtain ⟨i, _, rfl⟩ := List.mem_map.1 hx; exact nodeF_length _ _ _
theorem pathF_succ (s : List UInt8) (k m : Nat) : pathF s k (m + 1) = pathF s k m ++ [nodeF s m ((k / 2 ^ m) ^^^ 1)] := by simp [pathF, List.range_succ]
theorem sib_lt {q m k : Nat} (h : q < 2 ^ m) (hk : k < m) : (q / 2 ^ k) ^^^ 1 < 2 ^ (m - k) := by
  refine Nat.xor_lt_two_pow ?_ ?_
  · rw [Nat.div_lt_iff_lt_mul (Nat.two_pow_pos k), ← Nat.pow_add, Nat.sub_add_cancel (Nat.le_of_lt hk)]; exact h
  · exact Nat.one_lt_two_pow zz12
def sigC (s : List UInt8) (ht idx : Int) (bs : List UInt8) : List (List UInt8) := if okS ht idx then signF (leafF s idx.toNat) bs else []
def sigP (s : List UInt8) (ht idx : Int) : List (List UInt8) := if okS ht idx then pathF s idx.toNat ht.toNat else []
def sigI (ht idx : Int) : Int := if okS ht idx then idx else 0
def sigE (ht idx : Int) : Int := if okS ht idx then 0 else 2
theorem sigC_all (s : List UInt8) (ht idx : Int) (bs : List UInt8) : ∀ x ∈ sigC s ht idx bs, x.length = 16 := by
  unfold sigC; split
  · exact signF_all _ _
  · intro x hx; cases hx
theorem sigP_all (s : List UInt8) (ht idx : Int) : ∀ x ∈ sigP s ht idx, x.length = 16 := by
  unfold sigP; split
  · exact pathF_all _ _ _
  · intro x hx; cases hx
theorem okS_nat {m q : Nat} (hm : m ≤ 4) (hq : q < 2 ^ m) : okS (m : Int) (q : Int) := ⟨⟨zz12, zz12⟩, zz12, by rw [Int.toNat_natCast]; omega⟩
theorem key7 (xs : List UInt8) (ht : Int) (w : World) (hxs : xs.length = 16) (hG : Glb w) :
    Calls Tryd.prog 11 [.agg (v8s xs).toArray, .int .i64 ht].toArray w (Pur w (.tuple #[.agg (v8s (keyR xs ht) ++ [Value.int .i64 (keyH ht)]).toArray, .int .i64 (keyE ht)])) := by
  refine enter (m := 21) (R := Mem w [] [] []) Tryd.func11 rfl rfl (Nat.le_of_ble_eq_true rfl) (Mem.start w) ?_
  refine wpc_seq <| wpc_region ?_
  refine wpl_t (t_box rfl (v8s xs) rfl) rfl (fun b2 => ?_)
  refine wpl_t (t_alloc Tryd.ti43 _ rfl) rfl (fun b4 => ?_)
  refine wpl_q (q_pure rfl) rfl <| wpl_nil <| ex_then <| wpc_seq <| wpc_seq <| wpc_region <| wpl_q (q_pure rfl) rfl ?_
  refine wpl_t (t_pur Tryd.hb32 rfl fun w h => goodMm _ w) rfl (fun b7 => ?_)
  refine wpl_q (q_pure rfl) rfl <| wpl_nil <| ex_then ?_
  refine wpc_cond rfl (fun hc8 => ?_) (fun hc8 => ?_)
  ·
   simp only [Bool.not_eq_true', decide_eq_false_iff_not] at hc8
   have e1 : keyR xs ht = (List.replicate 16 0) := if_neg hc8
   have e2 : keyH ht = 0 := if_neg hc8
   have e3 : keyE ht = 2 := if_neg hc8
   refine wpc_seq <| wpc_region ?_
   refine wpl_q (q_build (cs := v8s (List.replicate 16 0) ++ [Value.int .i64 0]) rfl built_key0) rfl ?_
   refine wpl_t0 (t_stA Tryd.ti43 rfl rfl zz2 zz5 zz2) (fun _ => ?_)
   refine wpl_q (q_pure rfl) rfl <| wpl_nil <| ex_then <| wpc_ret ?_
   refine ex_then_ret ?_
   refine retv2 (.inl rfl) rfl (rv_agg Tryd.underlying43 rfl Tryd.ti43 rfl (fun w h => h.atB) (key_len _ _ zz21)) (rv_tmp rfl) ?_
   exact fun w h => ⟨by rw [e1, e2, e3], h.below⟩
  ·
   simp only [Bool.not_eq_false', decide_eq_true_eq] at hc8
   obtain ⟨m, rfl⟩ : ∃ m : Nat, ht = (m : Int) := ⟨ht.toNat, zz12⟩
   have e1 : keyR xs m = nodeF xs m 0 := if_pos hc8
   have e2 : keyH m = m := if_pos hc8
   have e3 : keyE m = 0 := if_pos hc8
   refine wpc_skip <| ex_then <| wpc_seq <| wpc_region ?_
   refine wpl_q (q_ldN Tryd.underlying41 rfl Tryd.ti41 rfl zz2) rfl ?_
   refine wpl_q (q_pure rfl) rfl ?_
   refine wpl_q (q_build (cs := v8s xs ++ [Value.int .i64 ((m : Nat) : Int)]) rfl (built_tree _ _ hxs)) rfl ?_
   refine wpl_tp (t_callPF Tryd.hb33 rfl fun w h => levels7 _ _ w zz21 zz12 (glob h hG)) rfl (fun b13 p13 => ?_)
   obtain ⟨hq1, hq2⟩ := p13
   obtain ⟨u, hu1, hu2, hu3⟩ := hq2.get (show m < m + 1 from zz12)
   rw [Nat.sub_self] at hu2 hu3
   refine wpl_q (q_pure rfl) rfl ?_
   refine wpl_q (q_idxW1 Tryd.underlying73 Tryd.ti28 rfl rfl zz3 zz1) rfl ?_
   refine wpl_q (q_ldW Tryd.underlying28 rfl rfl (fun w h => zz15) hu1) rfl ?_
   refine wpl_q (q_idxW (j := 0) Tryd.underlying28 Tryd.ti41 rfl rfl zz3 zz1) rfl ?_
   refine wpl_q (q_ldWN Tryd.underlying41 rfl Tryd.ti41 rfl (fun w h => h.rowsF zz4 hu2) (v8s ((lev xs m (2 ^ 0)).getD 0 [])) (part8 (lev_all _ _ _) (by rw [lev_length]; decide)) ((v8s_length _).trans (getD_mem_len (lev_all _ _ _) (by rw [lev_length]; decide)))) rfl ?_
   refine wpl_re 18 rfl (congrArg (fun l : List UInt8 => Value.agg (v8s l).toArray) (lev_get xs m (2 ^ 0) 0 zz19)) ?_
   refine wpl_q (q_pure rfl) rfl ?_
   refine wpl_q (q_build (cs := v8s (nodeF xs m 0) ++ [Value.int .i64 ((m : Nat) : Int)]) rfl (built_key _ _ (nodeF_length _ _ _))) rfl ?_
   refine wpl_t0 (t_stA Tryd.ti43 rfl rfl zz2 zz5 zz2) (fun _ => ?_)
   refine wpl_q (q_pure rfl) rfl <| wpl_nil <| ex_then <| wpc_ret ?_
   refine retv2 (.inl rfl) rfl (rv_agg Tryd.underlying43 rfl Tryd.ti43 rfl (fun w h => h.atB) (key_len _ _ zz21)) (rv_tmp rfl) ?_
   exact fun w h => ⟨by rw [e1, e2, e3], h.below⟩
end Go.Proofs.YtgnablliekgbgaaDoor
namespace Go.Proofs.YtgnablliekgbgaaDoor
open Go Go.PL Go.RowKit
theorem sign7 (xs : List UInt8) (ht : Int) (idx : Int) (bv : Value) (bs : List UInt8) (w : World) (hxs : xs.length = 16) (hbv : Seen w.cell? bv bs.length 1 (v8s bs)) (hG : Glb w) :
    Calls Tryd.prog 35 [.agg (v8s xs).toArray, .int .i64 ht, .int .i64 idx, bv].toArray w (GivesP w (fun x : Value × Value => SV x.1 (sigC xs ht idx bs).length ∧ SV x.2 (sigP xs ht idx).length) (fun x : Value × Value => .tuple #[.agg #[.int .i64 (sigI ht idx), x.1, x.2], .int .i64 (sigE ht idx)]) (fun x => [.row x.1 (sigC xs ht idx bs).length 41 16 (v8s (sigC xs ht idx bs).flatten), .row x.2 (sigP xs ht idx).length 41 16 (v8s (sigP xs ht idx).flatten)]) (fun _ => [])) := by
  have sbv := hbv.sv
  have lbv := sbv.le
  simp only [maxLen] at lbv
  refine enter (m := 62) (R := Mem w [] [] []) Tryd.func35 rfl rfl (Nat.le_of_ble_eq_true rfl) (Mem.start w) ?_
  refine wpc_seq <| wpc_region ?_
  refine wpl_t (t_box rfl (v8s xs) rfl) rfl (fun b4 => ?_)
  refine wpl_t (t_alloc Tryd.ti30 _ rfl) rfl (fun b8 => ?_)
  refine wpl_q (q_pure rfl) rfl <| wpl_nil <| ex_then <| wpc_seq <| wpc_seq <| wpc_region <| wpl_q (q_pure rfl) rfl ?_
  refine wpl_t (t_pur Tryd.hb32 rfl fun w h => goodMm _ w) rfl (fun b15 => ?_)
  refine wpl_q (q_pure rfl) rfl <| wpl_q (q_pure rfl) rfl ?_
  refine wpl_bool2 17 16 rfl rfl (fun hb17 => ?_) (fun hb17 => ?_)
  ·
   try simp only [decide_eq_true_eq, decide_eq_false_iff_not, Bool.and_eq_true, Bool.or_eq_true, beq_iff_eq, bne_iff_ne, ne_eq, Bool.not_eq_true', Bool.not_eq_false', Decidable.not_not] at hb17
   refine wpl_off rfl rfl rfl rfl <| wpl_off rfl rfl rfl rfl <| wpl_q (q_pure rfl) rfl <| wpl_q (q_pure rfl) rfl <| wpl_off rfl rfl rfl rfl <| wpl_off rfl rfl rfl rfl <| wpl_off rfl rfl rfl rfl <| wpl_off rfl rfl rfl rfl <| wpl_q (q_pure rfl) rfl <| wpl_nil <| ex_then ?_
   refine wpc_cond_t rfl ?_
   refine wpc_seq <| wpc_region ?_
   refine wpl_q (q_build (cs := [.int .i64 0, .slice none 0 0, .slice none 0 0]) rfl built_sig0) rfl ?_
   refine wpl_t0 (t_stA Tryd.ti30 rfl rfl zz2 zz5 zz2) (fun _ => ?_)
   refine wpl_q (q_pure rfl) rfl <| wpl_nil <| ex_then <| wpc_ret ?_
   refine ex_then_ret ?_
   refine retv2 (.inl rfl) rfl (rv_agg Tryd.underlying30 rfl Tryd.ti30 rfl (fun w h => h.atB) rfl) (rv_tmp rfl) ?_
   exact fun w h => by
     first
     | (
       have hno : ¬ okS ht idx := fun hk => by
         obtain ⟨h1, h2, h3⟩ := hk
         try rw [Int.toNat_natCast] at h3
         first | omega | (simp only [Bool.not_eq_true', decide_eq_false_iff_not, decide_eq_true_eq] at *; omega) | (simp_all; done)
       have e1 : sigC xs ht idx bs = [] := if_neg hno
       have e2 : sigP xs ht idx = [] := if_neg hno
       have e3 : sigI ht idx = 0 := if_neg hno
       have e4 : sigE ht idx = 2 := if_neg hno
       rw [e1, e2, e3, e4]
       exact ⟨(.slice none 0 0, .slice none 0 0), ⟨SV.nil, SV.nil⟩, rfl, h.below, ((h.nilRow 41 16).nilRow 41 16).made (.keep (.keep .nil)) .nil⟩)
     | (
       have hno : ¬ okS (m : Int) idx := fun hk => by
         obtain ⟨h1, h2, h3⟩ := hk
         try rw [Int.toNat_natCast] at h3
         first | omega | (simp only [Bool.not_eq_true', decide_eq_false_iff_not, decide_eq_true_eq] at *; omega) | (simp_all; done)
       have e1 : sigC xs (m : Int) idx bs = [] := if_neg hno
       have e2 : sigP xs (m : Int) idx = [] := if_neg hno
       have e3 : sigI (m : Int) idx = 0 := if_neg hno
       have e4 : sigE (m : Int) idx = 2 := if_neg hno
       rw [e1, e2, e3, e4]
       exact ⟨(.slice none 0 0, .slice none 0 0), ⟨SV.nil, SV.nil⟩, rfl, h.below, ((h.nilRow 41 16).nilRow 41 16).made (.keep (.keep .nil)) .nil⟩)
  ·
   simp only [Bool.not_eq_false', decide_eq_true_eq] at hb17
   obtain ⟨m, rfl⟩ : ∃ m : Nat, ht = (m : Int) := ⟨ht.toNat, zz12⟩
   have hpw := pow_le16Mm (m := m) zz12
   refine wpl_on rfl rfl <| wpl_q (q_pure rfl) rfl <| wpl_on rfl rfl <| wpl_q (q_pure rfl) rfl <| wpl_q (q_pure rfl) rfl <| wpl_q (q_pure rfl) rfl ?_
   refine wpl_bool2 21 19 rfl rfl (fun hb21 => ?_) (fun hb21 => ?_)
   ·
    try simp only [decide_eq_true_eq, decide_eq_false_iff_not, Bool.and_eq_true, Bool.or_eq_true, beq_iff_eq, bne_iff_ne, ne_eq, Bool.not_eq_true', Bool.not_eq_false', Decidable.not_not] at hb21
    refine wpl_off rfl rfl rfl rfl <| wpl_off rfl rfl rfl rfl <| wpl_off rfl rfl rfl rfl <| wpl_off rfl rfl rfl rfl <| wpl_q (q_pure rfl) rfl <| wpl_nil <| ex_then ?_
    refine wpc_cond_t rfl ?_
    refine wpc_seq <| wpc_region ?_
    refine wpl_q (q_build (cs := [.int .i64 0, .slice none 0 0, .slice none 0 0]) rfl built_sig0) rfl ?_
    refine wpl_t0 (t_stA Tryd.ti30 rfl rfl zz2 zz5 zz2) (fun _ => ?_)
    refine wpl_q (q_pure rfl) rfl <| wpl_nil <| ex_then <| wpc_ret ?_
    refine ex_then_ret ?_
    refine retv2 (.inl rfl) rfl (rv_agg Tryd.underlying30 rfl Tryd.ti30 rfl (fun w h => h.atB) rfl) (rv_tmp rfl) ?_
    exact fun w h => by
      first
      | (
        have hno : ¬ okS ht idx := fun hk => by
          obtain ⟨h1, h2, h3⟩ := hk
          try rw [Int.toNat_natCast] at h3
          first | omega | (simp only [Bool.not_eq_true', decide_eq_false_iff_not, decide_eq_true_eq] at *; omega) | (simp_all; done)
        have e1 : sigC xs ht idx bs = [] := if_neg hno
        have e2 : sigP xs ht idx = [] := if_neg hno
        have e3 : sigI ht idx = 0 := if_neg hno
        have e4 : sigE ht idx = 2 := if_neg hno
        rw [e1, e2, e3, e4]
        exact ⟨(.slice none 0 0, .slice none 0 0), ⟨SV.nil, SV.nil⟩, rfl, h.below, ((h.nilRow 41 16).nilRow 41 16).made (.keep (.keep .nil)) .nil⟩)
      | (
        have hno : ¬ okS (m : Int) idx := fun hk => by
          obtain ⟨h1, h2, h3⟩ := hk
          try rw [Int.toNat_natCast] at h3
          first | omega | (simp only [Bool.not_eq_true', decide_eq_false_iff_not, decide_eq_true_eq] at *; omega) | (simp_all; done)
        have e1 : sigC xs (m : Int) idx bs = [] := if_neg hno
        have e2 : sigP xs (m : Int) idx = [] := if_neg hno
        have e3 : sigI (m : Int) idx = 0 := if_neg hno
        have e4 : sigE (m : Int) idx = 2 := if_neg hno
        rw [e1, e2, e3, e4]
        exact ⟨(.slice none 0 0, .slice none 0 0), ⟨SV.nil, SV.nil⟩, rfl, h.below, ((h.nilRow 41 16).nilRow 41 16).made (.keep (.keep .nil)) .nil⟩)
   ·
    try simp only [decide_eq_true_eq, decide_eq_false_iff_not, Bool.and_eq_true, Bool.or_eq_true, beq_iff_eq, bne_iff_ne, ne_eq, Bool.not_eq_true', Bool.not_eq_false', Decidable.not_not] at hb21
    refine wpl_on rfl rfl <| wpl_q (q_pure rfl) rfl <| wpl_on rfl rfl <| wpl_q (q_pure rfl) rfl <| wpl_on rfl rfl ?_
    refine wpl_q (q_shlN (a := 1) rfl rfl zz24 zz1) rfl ?_
    refine wpl_on rfl rfl <| wpl_q (q_pure rfl) rfl <| wpl_q (q_pure rfl) rfl <| wpl_nil <| ex_then ?_
    refine wpc_cond rfl (fun hc26 => ?_) (fun hc26 => ?_)
    ·
     try simp only [decide_eq_true_eq, decide_eq_false_iff_not, Bool.and_eq_true, Bool.or_eq_true, beq_iff_eq, bne_iff_ne, ne_eq, Bool.not_eq_true', Bool.not_eq_false', Decidable.not_not] at hc26
     refine wpc_seq <| wpc_region ?_
     refine wpl_q (q_build (cs := [.int .i64 0, .slice none 0 0, .slice none 0 0]) rfl built_sig0) rfl ?_
     refine wpl_t0 (t_stA Tryd.ti30 rfl rfl zz2 zz5 zz2) (fun _ => ?_)
     refine wpl_q (q_pure rfl) rfl <| wpl_nil <| ex_then <| wpc_ret ?_
     refine ex_then_ret ?_
     refine retv2 (.inl rfl) rfl (rv_agg Tryd.underlying30 rfl Tryd.ti30 rfl (fun w h => h.atB) rfl) (rv_tmp rfl) ?_
     exact fun w h => by
       first
       | (
         have hno : ¬ okS ht idx := fun hk => by
           obtain ⟨h1, h2, h3⟩ := hk
           try rw [Int.toNat_natCast] at h3
           first | omega | (simp only [Bool.not_eq_true', decide_eq_false_iff_not, decide_eq_true_eq] at *; omega) | (simp_all; done)
         have e1 : sigC xs ht idx bs = [] := if_neg hno
         have e2 : sigP xs ht idx = [] := if_neg hno
         have e3 : sigI ht idx = 0 := if_neg hno
         have e4 : sigE ht idx = 2 := if_neg hno
         rw [e1, e2, e3, e4]
         exact ⟨(.slice none 0 0, .slice none 0 0), ⟨SV.nil, SV.nil⟩, rfl, h.below, ((h.nilRow 41 16).nilRow 41 16).made (.keep (.keep .nil)) .nil⟩)
       | (
         have hno : ¬ okS (m : Int) idx := fun hk => by
           obtain ⟨h1, h2, h3⟩ := hk
           try rw [Int.toNat_natCast] at h3
           first | omega | (simp only [Bool.not_eq_true', decide_eq_false_iff_not, decide_eq_true_eq] at *; omega) | (simp_all; done)
         have e1 : sigC xs (m : Int) idx bs = [] := if_neg hno
         have e2 : sigP xs (m : Int) idx = [] := if_neg hno
         have e3 : sigI (m : Int) idx = 0 := if_neg hno
         have e4 : sigE (m : Int) idx = 2 := if_neg hno
         rw [e1, e2, e3, e4]
         exact ⟨(.slice none 0 0, .slice none 0 0), ⟨SV.nil, SV.nil⟩, rfl, h.below, ((h.nilRow 41 16).nilRow 41 16).made (.keep (.keep .nil)) .nil⟩)
    ·
     obtain ⟨q, rfl⟩ : ∃ q : Nat, idx = (q : Int) := ⟨idx.toNat, zz12⟩
     have hq : q < 2 ^ m := by
       simp only [decide_eq_false_iff_not] at hc26
       omega
     have hok : okS (m : Int) (q : Int) := okS_nat zz12 hq
     have e1 : sigC xs m q bs = signF (leafF xs q) bs := if_pos hok
     have e2 : sigP xs m q = pathF xs q m := if_pos hok
     have e3 : sigI m q = q := if_pos hok
     have e4 : sigE m q = 0 := if_pos hok
     refine wpc_skip <| ex_then <| wpc_seq <| wpc_region ?_
     refine wpl_q (q_ldN Tryd.underlying41 rfl Tryd.ti41 rfl zz2) rfl ?_
     refine wpl_q (q_pure rfl) rfl ?_
     refine wpl_q (q_build (cs := v8s xs ++ [Value.int .i64 ((m : Nat) : Int)]) rfl (built_tree _ _ hxs)) rfl ?_
     refine wpl_t (t_alloc Tryd.ti75 _ rfl) rfl (fun b10 => ?_)
     refine wpl_t0 (t_stA Tryd.ti75 rfl rfl zz2 zz5 zz2) (fun _ => ?_)
     refine wpl_nil <| ex_then <| wpc_seq <| wpc_region <| wpl_q (q_pure rfl) rfl ?_
     refine wpl_q (q_ldN Tryd.underlying75 rfl Tryd.ti75 rfl zz2) rfl ?_
     refine wpl_q (q_pure rfl) rfl ?_
     refine wpl_t (t_pur Tryd.hb57 rfl fun w h => leaf7 _ _ _ w zz21 (glob h hG)) rfl (fun b34 => ?_)
     refine wpl_q (q_pure rfl) rfl ?_
     refine wpl_tp (t_callP1 Tryd.hb61 rfl fun w h => sign1 _ _ _ w zz21 zz13 (glob h hG)) rfl (fun b36 p36 => ?_)
     refine wpl_q (q_build (cs := [.int .i64 ((q : Nat) : Int), b36, .slice none 0 0]) rfl (built_sig2 p36 _)) rfl ?_
     refine wpl_t (t_alloc Tryd.ti30 _ rfl) rfl (fun b11 => ?_)
     refine wpl_t0 (t_stA Tryd.ti30 rfl rfl zz2 zz5 zz2) (fun _ => ?_)
     refine wpl_nil <| ex_then <| wpc_seq <| wpc_seq <| wpc_region <| wpl_q (q_ldN Tryd.underlying75 rfl Tryd.ti75 rfl (key_len _ _ hxs)) rfl ?_
     refine wpl_tp (t_callPF Tryd.hb33 rfl fun w h => levels7 _ _ w zz21 zz12 (glob h hG)) rfl (fun b39 p39 => ?_)
     obtain ⟨hq1, hq2⟩ := p39
     refine wpl_q (q_pure rfl) rfl ?_
     refine wpl_q (q_slWh Tryd.underlying73 Tryd.ti28 rfl rfl zz3 zz12) rfl ?_
     refine wpl_q (q_lenW Tryd.underlying73 rfl zz3) rfl ?_
     refine wpl_q (q_pure rfl) rfl <| wpl_nil <| ex_then <| wpc_block ?_
     refine wpc_loopc (ι := { x : Nat × Value // (x.1 ≤ m) ∧ (SV x.2 x.1) }) [(2, _), (8, _), (11, _), (41, _), (42, _)] (fun x Lc => (43, .int .i64 ((x.1.1 : Nat) : Int)) :: Lc) (fun x => Mem w [] [.row x.1.2 x.1.1 41 16 (v8s (pathF xs q x.1.1).flatten), .row b39.1 (m + 1) 28 1 (b39.2.map Prod.fst), .blk b11 30 [.int .i64 ((q : Nat) : Int), b36, x.1.2], .row b36 35 41 16 (v8s (signF (leafF xs q) bs).flatten), .blk b10 75 (v8s xs ++ [Value.int .i64 ((m : Nat) : Int)]), .blk b8 30 [.int .i64 0, .slice none 0 0, .slice none 0 0]] [rowsF 16 b39.2]) (fun x => m - x.1.1) ⟨(0, .slice none 0 0), ⟨Nat.zero_le _, SV.nil⟩⟩ zz9 ?_ ?_
     ·
      exact fun w h => by
        dsimp only
        exact (h.nilRow 41 16).sub (.keep (.keep (.keep (.keep (.keep (.keep .nil)))))) (Sub.refl _)
     ·
      rintro ⟨⟨k, vp⟩, ⟨hi0, hi1⟩⟩; try dsimp only
      have hi0 : k ≤ m := hi0; have hi1 : SV vp k := hi1
      refine wpc_seq <| wpc_region <| wpl_q (q_pure rfl) rfl <| wpl_nil <| ex_then <| wpc_seq ?_
      refine wpc_cond rfl (fun hc44 => ?_) (fun hc44 => ?_)
      ·
       simp only [decide_eq_true_eq] at hc44
       have hkm : k < m := by omega
       obtain ⟨u, hu1, hu2, hu3⟩ := hq2.get (show k < m + 1 from zz12)
       have hsl := sib_lt hq hkm
       have hqk : q / 2 ^ k ≤ q := Nat.div_le_self _ _
       have hpk : 2 ^ k ≤ 16 := pow_le16Mm zz12
       have hll := lev_length xs k (2 ^ (m - k))
       have hla := lev_all xs k (2 ^ (m - k))
       have hgl := getD_mem_len hla (i := ((q / 2 ^ k) ^^^ 1)) (by rw [hll]; exact hsl)
       refine wpc_skip <| ex_then <| wpc_seq <| wpc_block <| wpc_seq <| wpc_region <| wpl_q (q_pure rfl) rfl ?_
       refine wpl_q (q_idxW1 Tryd.underlying73 Tryd.ti28 rfl rfl zz3 zz1) rfl ?_
       refine wpl_q (q_ldW Tryd.underlying28 rfl rfl (fun w h => h.seenV.slv 0 m (Nat.zero_le _) zz12) (by rw [Nat.zero_mul, List.drop_zero, List.getElem?_take, if_pos zz12]; exact hu1)) rfl ?_
       refine wpl_q (q_pure rfl) rfl <| wpl_q (q_pure rfl) rfl <| wpl_nil <| ex_then ?_
       refine wpc_draw 10 zz7 (fun _ h => h.drew) ?_
       refine wpd_p 0 rfl zz7 trivial (q_field Tryd.underlying30 rfl Tryd.ti28 rfl rfl _ rfl) rfl sk0 ?_
       refine wpd_q 1 rfl zz7 trivial (q_ld Tryd.underlying28 rfl rfl rfl) rfl (fun _ h => h) ?_
       refine wpd_p 2 rfl zz7 trivial (q_pure rfl) rfl sk0 ?_
       refine wpd_p 3 rfl zz7 trivial (q_pure rfl) rfl sk0 ?_
       refine wpd_p 4 rfl zz7 trivial (q_pure rfl) rfl sk0 ?_
       refine wpd_p 5 rfl zz7 trivial (q_shrN rfl rfl zz24) rfl sk0 ?_
       refine wpd_p 6 rfl zz7 trivial (q_xorN (b := 1) rfl rfl zz1 zz1) rfl sk0 ?_
       refine wpd_p 7 rfl zz7 trivial (q_idxW Tryd.underlying28 Tryd.ti41 rfl rfl zz3 zz1) rfl sk0 ?_
       refine wpd_qB 8 [9, 10] rfl zz7 trivial (q_ldWN Tryd.underlying41 rfl Tryd.ti41 rfl (fun w h => h.rowsF zz4 hu2) (v8s ((lev xs k (2 ^ (m - k))).getD ((q / 2 ^ k) ^^^ 1) [])) (part8 hla (by rw [hll]; exact hsl)) ((v8s_length _).trans hgl)) rfl (fun _ h => h) ?_
       refine wpd_tp 9 rfl zz7 trivial (t_bsS [_] Tryd.underlying28 Tryd.ti41 rfl zz19 rfl zz19 zz19 rfl (all_one zz21)) rfl (fun _ => (fun w h => .inr (h.sub SubC.h SubC.h))) (fun b57 p57 => ?_)
       refine wpd_tp 10 rfl zz7 trivial (t_apW Tryd.underlying28 Tryd.ti41 rfl zz19 rfl rfl (fun w h => zz15) zz5 zz1 zz1 (v8s (pathF xs q (k + 1)).flatten) (by rw [pathF_succ, List.flatten_append, v8s_append, ← lev_get xs k (2 ^ (m - k)) ((q / 2 ^ k) ^^^ 1) hsl])) rfl (fun _ => skk rfl) (fun b58 p58 => ?_)
       refine wpd_p 11 rfl zz7 trivial (q_field Tryd.underlying30 rfl Tryd.ti28 rfl rfl _ rfl) rfl (skk rfl) ?_
       refine wpd_t0 12 rfl zz7 trivial (t_st1 Tryd.ti28 rfl rfl (SV.one zz3) zz6 _ rfl) (fun _ => skk rfl) (fun _ => ?_)
       refine wpd_done zz7 ?_
       refine ex_block <| ex_then <| wpc_region ?_
       refine wpl_q (q_addN (b := 1) rfl rfl zz1) rfl ?_
       refine wpl_q (q_pure rfl) rfl <| wpl_nil ?_
       refine ex_again ⟨(k + 1, b58), ⟨zz12, p58⟩⟩ ?_ ?_ ?_
       ·
        exact zz9
       ·
        exact fun w h => h.sub (.drop (Sub.refl _)) (Sub.refl _)
       ·
        (show m - (k + 1) < m - k); omega
      ·
       simp only [decide_eq_false_iff_not] at hc44
       obtain rfl : k = m := by omega
       refine wpc_exit ?_
       refine ex_then_exit ?_
       refine ex_then_exit ?_
       refine ex_block_hit ?_
       refine ex_then <| wpc_seq <| wpc_region ?_
       refine wpl_q (q_ldN Tryd.underlying30 rfl Tryd.ti30 rfl zz2) rfl ?_
       refine wpl_t0 (t_stA Tryd.ti30 rfl rfl zz2 zz5 zz2) (fun _ => ?_)
       refine wpl_q (q_pure rfl) rfl <| wpl_nil <| ex_then <| wpc_ret ?_
       refine retv2 (.inl rfl) rfl (rv_agg Tryd.underlying30 rfl Tryd.ti30 rfl (fun w h => h.atB) rfl) (rv_tmp rfl) ?_
       exact fun w h => by
         rw [e1, e2, e3, e4, signF_length, pathF_length]
         exact ⟨(b36, vp), ⟨p36, hi1⟩, rfl, h.below, by first | exact h.made (.keep (.keep .nil)) .nil | exact (h.sub (M' := [_, _]) SubC.h .nil).swap.made (.keep (.keep .nil)) .nil⟩
end Go.Proofs.YtgnablliekgbgaaDoor
namespace Go.Proofs.YtgnablliekgbgaaDoor
open Go Go.PL Go.RowKit
theorem sib_eq (j : Nat) : j ^^^ 1 = if j % 2 = 1 then j - 1 else j + 1 := by
  have h := Nat.div_add_mod j 2
  split
  · rename_i h1
    have e : j = 2 * (j / 2) + 1 := by omega
    generalize j / 2 = c at e
    subst e
    rw [show 2 * c + 1 - 1 = 2 * c from zz12]
    apply Nat.eq_of_testBit_eq
    intro i
    cases i with
    | zero => simp [Nat.testBit_zero, Nat.testBit_xor]
    | succ i => simp [Nat.testBit_succ, Nat.xor_div_two]; congr 1; omega
  · have e : j = 2 * (j / 2) := by omega
    generalize j / 2 = c at e
    subst e
    apply Nat.eq_of_testBit_eq
    intro i
    cases i with
    | zero => simp [Nat.testBit_zero, Nat.testBit_xor]
    | succ i => simp [Nat.testBit_succ, Nat.xor_div_two]; congr 1; omega
end Go.Proofs.YtgnablliekgbgaaDoor
namespace Go.Proofs.YtgnablliekgbgaaDoor
open Go Go.PL Go.RowKit
theorem climb_add (x : List UInt8) (i f n : Nat) : ∀ m, climbF (climbF x i f n) i (f + n) m = climbF x i f (n + m)
  | 0 => rfl
  | m + 1 => by rw [climbF, climb_add x i f n m, ← Nat.add_assoc, climbF, Nat.add_assoc]
theorem chain_up (s : List UInt8) (i a b : Nat) (h : a ≤ b) : climbF (chainF s i a) i a (b - a) = chainF s i b := by
  have := climb_add (beginF s i) i 0 a (b - a)
  rw [Nat.zero_add, show a + (b - a) = b from zz12] at this
  exact this
theorem sg_get (s m : List UInt8) (n i : Nat) (h : i < n) : (sg s m n).getD i [] = chainF s i (dig m i) := by
  rw [sg, List.getD_eq_getElem?_getD, List.getElem?_map, List.getElem?_eq_getElem (by simpa using h)]; simp
theorem rec_signE (s m : List UInt8) (n : Nat) (i : Nat) (hi : i < n) (q : Nat) (hq : dig m i ≤ q) : climbF ((sg s m n).getD i []) i (dig m i) (q - dig m i) = chainF s i q := by
  rw [sg_get s m n i hi, chain_up s i _ _ hq]
theorem rec_acc (s m : List UInt8) (n q : Nat) (hq : ∀ i, dig m i ≤ q) : accF (fun i => climbF ((sg s m n).getD i []) i (dig m i) (q - dig m i)) n = accF (fun i => chainF s i q) n :=
  accF_congr _ _ n (fun i hi => rec_signE s m n i hi q (hq i)) n (Nat.le_refl _)
theorem recE_eq (m : List UInt8) (chs : List (List UInt8)) : recE m chs = fun i => climbF (chs.getD i []) i (dig m i) (15 - dig m i) := rfl
theorem rec_sign (s m : List UInt8) : recF m (signF s m) = publicF s := by
  have h1 : recF m (signF s m) = shortF (accF (recE m (signF s m)) 35) := if_pos (signF_length s m)
  rw [h1, recE_eq]
  exact congrArg shortF (rec_acc s m 35 15 (dig_le m))
theorem upF_path (s : List UInt8) (q m : Nat) : ∀ i, i ≤ m → upF (nodeF s 0 q) q (pathF s q m) i = nodeF s i (q / 2 ^ i)
  | 0, _ => by rw [upF, Nat.pow_zero, Nat.div_one]
  | i + 1, h => by
    have hg : (pathF s q m).getD i [] = nodeF s i ((q / 2 ^ i) ^^^ 1) := by
      rw [pathF, List.getD_eq_getElem?_getD, List.getElem?_map, List.getElem?_eq_getElem (by rw [List.length_range]; exact h)]; simp
    rw [upF, upF_path s q m i zz12, hg, show q / 2 ^ (i + 1) = q / 2 ^ i / 2 by rw [Nat.pow_succ, Nat.div_div_eq_div_mul]]
    generalize q / 2 ^ i = j
    rw [sib_eq, nodeF, stepU]
    by_cases hj : j % 2 = 1
    · rw [if_neg zz12, if_pos hj, show 2 * (j / 2) + 1 = j from zz12, show 2 * (j / 2) = j - 1 from zz12]
    · rw [if_pos zz12, if_neg hj, show 2 * (j / 2) = j from zz12]
theorem root_path (s : List UInt8) (q m : Nat) (bs : List UInt8) (hq : q < 2 ^ m) : upF (recF bs (signF (leafF s q) bs)) q (pathF s q m) m = nodeF s m 0 := by
  rw [rec_sign]
  have := upF_path s q m m (Nat.le_refl _)
  rw [Nat.div_eq_of_lt hq] at this
  exact this
theorem check_sign {s : List UInt8} {m q : Nat} {bs : List UInt8} (hm : m ≤ 4) (hq : q < 2 ^ m) : checkFMm m q (signF (leafF s q) bs).length (pathF s q m).length = 0 := by
  rw [signF_length, pathF_length]; exact check_0Mm zz12 ⟨zz12, zz12, rfl, rfl⟩
theorem root_sign {s : List UInt8} {m q : Nat} {bs : List UInt8} (hm : m ≤ 4) (hq : q < 2 ^ m) : rootF m q bs (signF (leafF s q) bs) (pathF s q m) = nodeF s m 0 := by
  have h : rootF m q bs (signF (leafF s q) bs) (pathF s q m) = upF (recF bs (signF (leafF s q) bs)) q (pathF s q m) (pathF s q m).length := if_pos (check_sign hm hq)
  rw [h, pathF_length]; exact root_path s q m bs hq
theorem keyR_in {s : List UInt8} {m : Nat} (hm : m ≤ 4) : keyR s m = nodeF s m 0 := if_pos ⟨zz12, zz12⟩
theorem sig_ver (s : List UInt8) {ht idx : Int} (bs : List UInt8) (h : okS ht idx) : checkFMm (keyH ht) (sigI ht idx) (sigC s ht idx bs).length (sigP s ht idx).length = 0 ∧ rootF (keyH ht) (sigI ht idx) bs (sigC s ht idx bs) (sigP s ht idx) = keyR s ht := by
  obtain ⟨m, rfl⟩ : ∃ m : Nat, ht = (m : Int) := ⟨ht.toNat, by have := h.1; omega⟩
  obtain ⟨q, rfl⟩ : ∃ q : Nat, idx = (q : Int) := ⟨idx.toNat, by have := h.2; omega⟩
  have hm : m ≤ 4 := by have := h.1; omega
  have hq : q < 2 ^ m := by have h2 := h.2.2; rw [Int.toNat_natCast] at h2; exact Int.ofNat_lt.1 h2
  have e1 : sigC s m q bs = signF (leafF s q) bs := by unfold sigC; rw [if_pos h, Int.toNat_natCast]
  have e2 : sigP s m q = pathF s q m := by unfold sigP; rw [if_pos h, Int.toNat_natCast, Int.toNat_natCast]
  have e3 : keyH m = m := if_pos h.1
  have e4 : sigI m q = q := if_pos h
  rw [e1, e2, e3, e4, keyR_in hm]
  exact ⟨check_sign hm hq, root_sign hm hq⟩
theorem one_v8i (xs : List UInt8) (t : Int) : ∀ u ∈ v8s xs ++ [Value.int .i64 t], u.oneCell' = true := fun u hu => by
  rcases List.mem_append.1 hu with h | h
  · exact v8s_one _ u h
  · rw [List.mem_singleton] at h; subst h; rfl
def verR (l : Rv) (rs : List UInt8) (ht : Int) : Prop := checkFMm ht l.ix l.chs.length l.ps.length = 0 ∧ rootF ht l.ix (bdyB l) l.chs l.ps = rs
instance {l : Rv} {rs : List UInt8} {ht : Int} : Decidable (verR l rs ht) := by unfold verR; exact inferInstance
def verE (l : Rv) (rs : List UInt8) (ht : Int) : Int := if chkR l ≠ 0 then chkR l else if verR l rs ht then 0 else 22
theorem ver_e {l : Rv} {rs : List UInt8} {ht : Int} (h : ¬ chkR l = 0) : verE l rs ht = chkR l := if_pos h
theorem ver_y {l : Rv} {rs : List UInt8} {ht : Int} (h : chkR l = 0) (k : verR l rs ht) : verE l rs ht = 0 := by unfold verE; rw [if_neg (fun e => e h), if_pos k]
theorem ver_n {l : Rv} {rs : List UInt8} {ht : Int} (h : chkR l = 0) (k : ¬ verR l rs ht) : verE l rs ht = 22 := by unfold verE; rw [if_neg (fun e => e h), if_neg k]
def usR (l : Rv) (sv : Value) : Rv := ⟨l.nm, l.no, l.fr, l.tt, sv, l.ss, 0, nl, [], nl, []⟩
def sgnR (l : Rv) (s : List UInt8) (ht idx : Int) (sv cv pv : Value) : Rv := ⟨l.nm, l.no, l.fr, l.tt, sv, l.ss, sigI ht idx, cv, sigC s ht idx (bdyB (usR l nl)), pv, sigP s ht idx⟩
theorem us_eqv (l : Rv) (a b : Value) : (usR l a).eqv (usR l b) := ⟨rfl, rfl, ⟨rfl, rfl⟩, rfl, rfl, rfl, rfl⟩
theorem us_chk (l : Rv) (a : Value) : chkR (usR l a) = chkR (usR l nl) := eqv_chk (us_eqv l a nl)
theorem us_bdy (l : Rv) (a : Value) : bdyB (usR l a) = bdyB (usR l nl) := eqv_bdy (us_eqv l a nl)
def snE (l : Rv) (ht idx : Int) : Int := if chkR (usR l nl) ≠ 0 then chkR (usR l nl) else sigE ht idx
def snR (l : Rv) (s : List UInt8) (ht idx : Int) : Rv := if snE l ht idx = 0 then sgnR l s ht idx nl nl nl else Rv.z
theorem sn_e {l : Rv} {ht idx : Int} (h : ¬ chkR (usR l nl) = 0) : snE l ht idx = chkR (usR l nl) ∧ snE l ht idx ≠ 0 := by
  have e : snE l ht idx = chkR (usR l nl) := if_pos h
  exact ⟨e, by rw [e]; exact h⟩
theorem sn_s {l : Rv} {ht idx : Int} (h : chkR (usR l nl) = 0) : snE l ht idx = sigE ht idx := if_neg (fun e => e h)
theorem sn_z {l : Rv} {s : List UInt8} {ht idx : Int} (h : snE l ht idx ≠ 0) : snR l s ht idx = Rv.z := if_neg h
theorem sn_y {l : Rv} {s : List UInt8} {ht idx : Int} (h : snE l ht idx = 0) : snR l s ht idx = sgnR l s ht idx nl nl nl := if_pos h
theorem sgn_eqv (l : Rv) (s : List UInt8) (ht idx : Int) (a b c : Value) : (sgnR l s ht idx a b c).eqv (sgnR l s ht idx nl nl nl) := ⟨rfl, rfl, ⟨rfl, rfl⟩, rfl, rfl, rfl, rfl⟩
theorem us_lim {l : Rv} (h : RLim l) (a : Value) : RLim (usR l a) := ⟨h.nm, h.ss, Nat.zero_le _, Nat.zero_le _⟩
theorem us_seen {l : Rv} {r : Rd} {a : Value} (h : Seen r a l.ss.length 1 (v64s l.ss)) : (usR l a).seen r := ⟨h, seen_nil _ 0 _, fun x hx => (by cases hx), seen_nil _ 0 _, fun x hx => (by cases hx)⟩
theorem built_kz : Tryd.prog.built 30 [] = some #[.int .i64 0, .slice none 0 0, .slice none 0 0] := by kernel_rfl
def SgP (l : Rv) (s : List UInt8) (ht idx : Int) (y : Rv) : Prop := y.eqv (snR l s ht idx) ∧ (∀ x ∈ y.chs, x.length = 16) ∧ (∀ x ∈ y.ps, x.length = 16)
theorem sg_z {l : Rv} {s : List UInt8} {ht idx : Int} (h : snE l ht idx ≠ 0) : SgP l s ht idx Rv.z := by
  unfold SgP
  rw [sn_z h]
  exact ⟨eqv_refl _, fun x hx => (by cases hx), fun x hx => (by cases hx)⟩
end Go.Proofs.YtgnablliekgbgaaDoor
namespace Go.Proofs.YtgnablliekgbgaaDoor
open Go Go.PL Go.RowKit
theorem rvVerify (l : Rv) (rs : List UInt8) (ht : Int) (w : World) (hl : l.seen w.cell?) (hnl : l.nm.length ≤ maxLen) (hrs : rs.length = 16) (hk : RLim l) (hG : Glb w) :
    Calls Tryd.prog 16 [.agg l.c.toArray, .agg (v8s rs ++ [Value.int .i64 ht]).toArray].toArray w (Pur w (.int .i64 (verE l rs ht))) := by
  haveI := hl.svs.one
  have lss := hl.s.sv.le
  have lcs := hl.c.sv.le
  have lps := hl.p.sv.le
  have sss := hl.s.sv
  have scs := hl.c.sv
  have sps := hl.p.sv
  simp only [maxLen] at lss lcs lps
  haveI : LenC (v8s rs ++ [Value.int .i64 ht]) 17 := ⟨by rw [List.length_append, v8s_length, hrs]; rfl⟩
  haveI : OneC (v8s rs ++ [Value.int .i64 ht]) := ⟨one_v8i _ _⟩
  refine enter (m := 21) (R := Mem w [] [] []) Tryd.func16 rfl rfl (Nat.le_of_ble_eq_true rfl) (Mem.start w) ?_
  refine wpc_seq <| wpc_region ?_
  refine wpl_t (t_box rfl l.c rfl) rfl (fun b2 => ?_)
  refine wpl_t (t_box rfl (v8s rs ++ [Value.int .i64 ht]) rfl) rfl (fun b3 => ?_)
  refine wpl_q (q_pure rfl) rfl <| wpl_nil <| ex_then <| wpc_seq <| wpc_region <| wpl_q (q_ldN Tryd.underlying32 rfl Tryd.ti32 rfl LenC.h) rfl ?_
  refine wpl_tp (t_callP1 Tryd.hb15 rfl fun w h => rvBodyB l w (hl.old h rfl) hnl hk.ss hk.nm) rfl (fun b9 p9 => ?_)
  refine wpl_q (q_pure rfl) rfl <| wpl_q (q_pure rfl) rfl <| wpl_q (q_pure rfl) rfl <| wpl_q (q_pure rfl) rfl <| wpl_q (q_pure rfl) rfl <| wpl_nil <| ex_then <| wpc_seq <| wpc_seq <| wpc_region <| wpl_q (q_pure rfl) rfl <| wpl_q (q_pure rfl) rfl ?_
  refine wpl_nil <| ex_then ?_
  refine wpc_cond rfl (fun hc13 => ?_) (fun hc13 => ?_)
  ·
   have hN : ¬ chkR l = 0 := by simpa using hc13
   refine wpc_seq <| wpc_region <| wpl_q (q_pure rfl) rfl <| wpl_q (q_pure rfl) rfl <| wpl_nil <| ex_then <| wpc_ret ?_
   refine ex_then_ret ?_
   refine ret1 (.inl rfl) rfl rfl ?_
   exact fun w1 h => ⟨by rw [ver_e hN]; rfl, h.below⟩
  ·
   have hZ : chkR l = 0 := by simpa using hc13
   refine wpc_skip <| ex_then <| wpc_seq <| wpc_seq <| wpc_region <| wpl_q (q_ldN Tryd.underlying43 rfl Tryd.ti43 rfl LenC.h) rfl <| wpl_q (q_pure rfl) rfl <| wpl_q (q_field Tryd.underlying32 rfl Tryd.ti30 rfl rfl _ rfl) rfl <| wpl_q (q_ldP Tryd.underlying30 rfl Tryd.ti30 rfl l.sig rfl rfl) rfl ?_
   refine wpl_t (t_pur (v := .bool (decide (verR l rs ht))) Tryd.hb22 rfl fun w h => verify7 rs ht b9 (bdyB l) l.cv l.pv l.chs l.ps l.ix w hrs (h.seen_row zz4) (h.seen_old hl.c) hl.lc (h.seen_old hl.p) hl.lp (glob h hG)) rfl (fun b19 => ?_)
   refine wpl_q (q_pure rfl) rfl <| wpl_nil <| ex_then ?_
   refine wpc_cond rfl (fun hc20 => ?_) (fun hc20 => ?_)
   ·
    have hV : ¬ verR l rs ht := by simpa using hc20
    refine wpc_seq <| wpc_region <| wpl_q (q_pure rfl) rfl <| wpl_nil <| ex_then <| wpc_ret ?_
    refine ex_then_ret ?_
    refine ret1 (.inl rfl) rfl rfl ?_
    exact fun w1 h => ⟨by rw [ver_n hZ hV], h.below⟩
   ·
    have hV : verR l rs ht := by simpa using hc20
    refine wpc_skip <| ex_then <| wpc_seq <| wpc_region <| wpl_q (q_pure rfl) rfl <| wpl_nil <| ex_then <| wpc_ret ?_
    refine ret1 (.inl rfl) rfl rfl ?_
    exact fun w1 h => ⟨by rw [ver_y hZ hV], h.below⟩
end Go.Proofs.YtgnablliekgbgaaDoor
namespace Go.Proofs.YtgnablliekgbgaaDoor
open Go Go.PL Go.RowKit
theorem rvSign (l : Rv) (s : List UInt8) (ht : Int) (idx : Int) (w : World) (hl : l.seen w.cell?) (hnl : l.nm.length ≤ maxLen) (hs : s.length = 16) (hk : RLim l) (hG : Glb w) :
    Calls Tryd.prog 12 [.agg l.c.toArray, .agg (v8s s).toArray, .int .i64 ht, .int .i64 idx].toArray w (GivesP w (fun y : Rv => SgP l s ht idx y ∧ y.svs) (fun y => .tuple #[.agg y.c.toArray, .int .i64 (snE l ht idx)]) (fun y => rvE y) (fun _ => [])) := by
  haveI := hl.svs.one
  have lss := hl.s.sv.le
  have lcs := hl.c.sv.le
  have lps := hl.p.sv.le
  have sss := hl.s.sv
  have scs := hl.c.sv
  have sps := hl.p.sv
  simp only [maxLen] at lss lcs lps
  haveI : LenC (v8s s) 16 := ⟨by rw [v8s_length]; exact hs⟩
  haveI : OneC (v8s s) := ⟨v8s_one _⟩
  refine enter (m := 39) (R := Mem w [] [] []) Tryd.func12 rfl rfl (Nat.le_of_ble_eq_true rfl) (Mem.start w) ?_
  refine wpc_seq <| wpc_region ?_
  refine wpl_t (t_box rfl l.c rfl) rfl (fun b4 => ?_)
  refine wpl_t (t_box rfl (v8s s) rfl) rfl (fun b5 => ?_)
  refine wpl_t (t_alloc Tryd.ti32 Rv.z.c rfl) rfl (fun b8 => ?_)
  refine wpl_q (q_pure rfl) rfl <| wpl_nil <| ex_then <| wpc_seq <| wpc_region <| wpl_q (q_ldN Tryd.underlying32 rfl Tryd.ti32 rfl LenC.h) rfl ?_
  refine wpl_tp (t_callP3 Tryd.hb34 rfl fun w h => rvTwin l w (hl.old h rfl) hnl hk.ss hk.c hk.p) rfl (fun b13 p13 => ?_)
  haveI : OneC (l.re b13).c := Rv.svs.one (l := l.re b13) p13
  haveI : OneC (usR l b13.1).c := Rv.svs.one (l := (usR l b13.1)) ⟨p13.1, SV.nil, SV.nil⟩
  refine wpl_t0 (t_stA Tryd.ti32 rfl rfl LenC.h OneC.h LenC.h) (fun _ => ?_)
  refine wpl_nil <| ex_then <| wpc_seq <| wpc_region ?_
  refine wpl_q (q_build (cs := [.int .i64 0, .slice none 0 0, .slice none 0 0]) rfl built_kz) rfl ?_
  refine wpl_q (q_field Tryd.underlying32 rfl Tryd.ti30 rfl rfl _ rfl) rfl ?_
  refine wpl_t0 (t_stP Tryd.ti30 rfl rfl zz2 (OneC.cons rfl (OneC.cons rfl (OneC.cons rfl oneC_nil))).h (by rw [Rv.c_len]; exact Nat.le_refl 8) (usR l b13.1).c rfl) (fun _ => ?_)
  refine wpl_nil <| ex_then <| wpc_seq <| wpc_region <| wpl_q (q_ldN Tryd.underlying32 rfl Tryd.ti32 rfl LenC.h) rfl ?_
  refine wpl_tp (t_callP1 Tryd.hb15 rfl fun w h => rvBodyB (usR l b13.1) w (us_seen (h.seen_row zz4)) hnl (us_lim hk _).ss (us_lim hk _).nm) rfl (fun b18 p18 => ?_)
  refine wpl_q (q_pure rfl) rfl <| wpl_q (q_pure rfl) rfl <| wpl_q (q_pure rfl) rfl <| wpl_q (q_pure rfl) rfl <| wpl_q (q_pure rfl) rfl <| wpl_nil <| ex_then <| wpc_seq <| wpc_seq <| wpc_region <| wpl_q (q_pure rfl) rfl <| wpl_q (q_pure rfl) rfl ?_
  refine wpl_nil <| ex_then ?_
  refine wpc_cond rfl (fun hc22 => ?_) (fun hc22 => ?_)
  ·
   have hN : ¬ chkR (usR l nl) = 0 := by rw [← us_chk l b13.1]; simpa using hc22
   obtain ⟨hE1, hE2⟩ := sn_e (ht := ht) (idx := idx) hN
   refine wpc_seq <| wpc_region ?_
   refine wpl_q (q_build (cs := Rv.z.c) rfl built_rz) rfl ?_
   refine wpl_q (q_pure rfl) rfl ?_
   refine wpl_t0 (t_stA Tryd.ti32 rfl rfl LenC.h OneC.h LenC.h) (fun _ => ?_)
   refine wpl_q (q_pure rfl) rfl <| wpl_nil <| ex_then <| wpc_ret ?_
   refine ex_then_ret ?_
   refine retv2 (.inl rfl) rfl (rv_agg Tryd.underlying32 rfl Tryd.ti32 rfl (fun w h => h.atB) zz2) (rv_tmp rfl) ?_
   exact fun w1 h => ⟨Rv.z, ⟨sg_z hE2, Rv.z_svs⟩, by rw [hE1, us_chk]; rfl, h.below, rvE_z h⟩
  ·
   have hZ : chkR (usR l nl) = 0 := by rw [← us_chk l b13.1]; simpa using hc22
   have hS := sn_s (ht := ht) (idx := idx) hZ
   refine wpc_skip <| ex_then <| wpc_seq <| wpc_seq <| wpc_region <| wpl_q (q_ldN Tryd.underlying41 rfl Tryd.ti41 rfl LenC.h) rfl <| wpl_q (q_pure rfl) rfl <| wpl_q (q_pure rfl) rfl <| wpl_q (q_pure rfl) rfl ?_
   refine wpl_tp (t_callP2 Tryd.hb35 rfl fun w h => by
     have q := sign7 s ht idx b18 (bdyB (usR l b13.1)) w hs (h.seen_row zz4) (glob h hG)
     rwa [us_bdy] at q) rfl (fun b30 p30 => ?_)
   haveI : OneC (sgnR l s ht idx b13.1 b30.1 b30.2).c := Rv.svs.one (l := (sgnR l s ht idx b13.1 b30.1 b30.2)) ⟨p13.1, p30.1, p30.2⟩
   refine wpl_q (q_pure rfl) rfl <| wpl_q (q_pure rfl) rfl <| wpl_q (q_pure rfl) rfl <| wpl_q (q_field Tryd.underlying32 rfl Tryd.ti30 rfl rfl _ rfl) rfl ?_
   refine wpl_t0 (t_stP Tryd.ti30 rfl rfl zz2 (OneC.cons rfl (OneC.cons (SV.one p30.1) (OneC.cons (SV.one p30.2) oneC_nil))).h (by rw [Rv.c_len]; exact Nat.le_refl 8) (sgnR l s ht idx b13.1 b30.1 b30.2).c rfl) (fun _ => ?_)
   refine wpl_q (q_pure rfl) rfl <| wpl_nil <| ex_then <| wpc_seq <| wpc_region <| wpl_q (q_pure rfl) rfl <| wpl_q (q_pure rfl) rfl <| wpl_nil <| ex_then ?_
   refine wpc_cond rfl (fun hc35 => ?_) (fun hc35 => ?_)
   ·
    have hE2 : snE l ht idx ≠ 0 := by rw [hS]; simpa using hc35
    refine wpc_seq <| wpc_region ?_
    refine wpl_q (q_build (cs := Rv.z.c) rfl built_rz) rfl ?_
    refine wpl_q (q_pure rfl) rfl ?_
    refine wpl_t0 (t_stA Tryd.ti32 rfl rfl LenC.h OneC.h LenC.h) (fun _ => ?_)
    refine wpl_q (q_pure rfl) rfl <| wpl_nil <| ex_then <| wpc_ret ?_
    refine ex_then_ret ?_
    refine retv2 (.inl rfl) rfl (rv_agg Tryd.underlying32 rfl Tryd.ti32 rfl (fun w h => h.atB) zz2) (rv_tmp rfl) ?_
    exact fun w1 h => ⟨Rv.z, ⟨sg_z hE2, Rv.z_svs⟩, by rw [hS]; rfl, h.below, rvE_z h⟩
   ·
    have hE0 : snE l ht idx = 0 := by rw [hS]; simpa using hc35
    refine wpc_skip <| ex_then <| wpc_seq <| wpc_region <| wpl_q (q_ldN Tryd.underlying32 rfl Tryd.ti32 rfl LenC.h) rfl ?_
    refine wpl_t0 (t_stA Tryd.ti32 rfl rfl LenC.h OneC.h LenC.h) (fun _ => ?_)
    refine wpl_q (q_pure rfl) rfl <| wpl_nil <| ex_then <| wpc_ret ?_
    refine retv2 (.inl rfl) rfl (rv_agg Tryd.underlying32 rfl Tryd.ti32 rfl (fun w h => h.atB) zz2) (rv_tmp rfl) ?_
    exact fun w1 h => ⟨(sgnR l s ht idx b13.1 b30.1 b30.2), ⟨⟨by rw [sn_y hE0]; exact sgn_eqv _ _ _ _ _ _ _, sigC_all _ _ _ _, sigP_all _ _ _⟩, ⟨p13.1, p30.1, p30.2⟩⟩, by rw [hE0], h.below, (h.sel (M' := [Ent.row b13.1 l.ss.length 23 1 (v64s l.ss), Ent.row b30.1 (sigC s ht idx (bdyB (usR l nl))).length 41 16 (v8s (sigC s ht idx (bdyB (usR l nl))).flatten), Ent.row b30.2 (sigP s ht idx).length 41 16 (v8s (sigP s ht idx).flatten)])).made (Sub.refl _) .nil⟩
end Go.Proofs.YtgnablliekgbgaaDoor
namespace Go.Proofs.YtgnablliekgbgaaDoor
open Go Go.PL Go.RowKit
theorem sgn_lens (l : Rv) (s : List UInt8) (ht idx : Int) (h : okS ht idx) : (sigC s ht idx (bdyB (usR l nl))).length = 35 ∧ ((sigP s ht idx).length : Int) = ht := by
  obtain ⟨q1, _⟩ := sig_ver s (bdyB (usR l nl)) h
  have e3 : keyH ht = ht := if_pos h.1
  rw [e3] at q1
  unfold checkFMm at q1
  rw [if_pos h.1] at q1
  split at q1
  · rename_i k; exact ⟨k.2.2.1, k.2.2.2⟩
  · cases q1
theorem us_ok {l : Rv} (h : chkR l = 0) : chkR (usR l nl) = 0 := by
  have h2 := chk_inv h
  unfold chkR at h ⊢
  have h5 : ¬ 500 < (usR l nl).ss.length := h2.1
  rw [if_neg h2.1] at h
  rw [if_neg h5]
  split at h
  · rename_i k1
    unfold okR okA at k1 ⊢
    simp only [Bool.and_eq_true, decide_eq_true_eq] at k1
    rw [if_pos]
    simp only [Bool.and_eq_true, decide_eq_true_eq]
    exact ⟨⟨⟨k1.1.1.1, k1.1.1.2⟩, rfl⟩, k1.2⟩
  · cases h
theorem okS_of {ht idx : Int} (h : sigE ht idx = 0) : okS ht idx := Decidable.byContradiction fun k => by
  unfold sigE at h; rw [if_neg k] at h; cases h
theorem sgn_ok {l : Rv} (s : List UInt8) {ht idx : Int} (h : chkR (usR l nl) = 0) (k : okS ht idx) (a b c : Value) : chkR (sgnR l s ht idx a b c) = 0 := by
  obtain ⟨q1, q2⟩ := sgn_lens l s ht idx k
  have h2 := chk_inv h
  unfold chkR at h ⊢
  have h5 : ¬ 500 < (sgnR l s ht idx a b c).ss.length := h2.1
  rw [if_neg h2.1] at h
  rw [if_neg h5]
  split at h
  · rename_i k1
    unfold okR okA at k1 ⊢
    simp only [Bool.and_eq_true, decide_eq_true_eq] at k1
    rw [if_pos]
    simp only [Bool.and_eq_true, decide_eq_true_eq]
    refine ⟨⟨⟨k1.1.1.1, k1.1.1.2⟩, ?_⟩, k1.2⟩
    show gsigB (sigI ht idx) (sigC s ht idx (bdyB (usR l nl))).length (sigP s ht idx).length = true
    have e4 : sigI ht idx = idx := if_pos k
    rw [q1, e4]
    unfold gsigB
    rw [q2]
    have : sgChk ht idx 35 (sigP s ht idx).length = 0 := by
      unfold sgChk
      rw [if_pos k.1, if_pos ⟨k.2.1, k.2.2, rfl, q2⟩]
    rw [decide_eq_true this, Bool.or_true]
  · cases h
theorem sgn_bdy {l : Rv} (s : List UInt8) {ht idx : Int} (h : chkR (usR l nl) = 0) (k : okS ht idx) (a b c : Value) : bdyB (sgnR l s ht idx a b c) = bdyB (usR l nl) := by
  rw [bdy_ok (sgn_ok s h k a b c), bdy_ok h]; rfl
theorem ver_eqv {a b : Rv} (h : a.eqv b) (rs : List UInt8) (ht : Int) : verE a rs ht = verE b rs ht := by
  obtain ⟨nm, no, fr, tt, sv, ss, ix, cv, chs, pv, ps⟩ := a
  obtain ⟨nm2, no2, fr2, tt2, sv2, ss2, ix2, cv2, chs2, pv2, ps2⟩ := b
  obtain ⟨e1, e2, ⟨e3, e4⟩, e5, e6, e7, e8⟩ := h
  dsimp only at e1 e2 e3 e4 e5 e6 e7 e8
  subst e1 e2 e3 e4 e5 e6 e7 e8
  rfl
theorem sgn_ver {l : Rv} (s : List UInt8) {ht idx : Int} (h : chkR (usR l nl) = 0) (k : okS ht idx) : verE (sgnR l s ht idx nl nl nl) (keyR s ht) (keyH ht) = 0 := by
  obtain ⟨q1, q2⟩ := sig_ver s (bdyB (usR l nl)) k
  refine ver_y (sgn_ok s h k nl nl nl) ⟨q1, ?_⟩
  rw [sgn_bdy s h k]
  exact q2
instance lenC_kz : LenC (v8s (List.replicate 16 0) ++ [Value.int .i64 0]) 17 := ⟨rfl⟩
structure SgK (l : Rv) (s : List UInt8) (ht idx : Int) (y : Rv) : Prop where
  ok : okS ht idx
  chk : chkR y = 0
  lim : RLim y
  ss : y.ss = l.ss
  eq : y.eqv (sgnR l s ht idx nl nl nl)
theorem sg_known {l y : Rv} {s : List UInt8} {ht idx : Int} (h : chkR (usR l nl) = 0) (he : snE l ht idx = 0) (k : SgP l s ht idx y) : SgK l s ht idx y := by
  have ok := okS_of ((sn_s h).symm.trans he)
  have e := k.1
  rw [sn_y he] at e
  have c := (eqv_chk e).trans (sgn_ok s h ok nl nl nl)
  exact ⟨ok, c, chk_lim c, e.2.2.2.1, e⟩
theorem frzS {P : Program} {k : FuncId} {vs : Array Value} {w : World} {l : Rv} {s : List UInt8} {ht idx : Int} {V : Rv → Value} (h : Calls P k vs w (GivesP w (fun y : Rv => SgP l s ht idx y ∧ y.svs) V (fun y => rvE y) (fun _ => []))) : Calls P k vs w (GivesP w (fun y : Rv => SgP l s ht idx y ∧ y.svs) V (fun _ => []) (fun y => [Go.Proofs.YtgnablliekgbgaaDoor.rvseen y])) := by
  refine h.mono ?_
  rintro e w' ⟨y, hp, rfl, hb, hn⟩
  have hm := (Mem.start w).call hb hn
  rw [List.append_nil, List.append_nil] at hm
  exact ⟨y, hp, rfl, hb, (rv_freeze (M := []) hp.1.2.1 hp.1.2.2 (by rw [List.append_nil]; exact hm)).made .nil (Sub.refl _)⟩
end Go.Proofs.YtgnablliekgbgaaDoor
namespace Go.Proofs.YtgnablliekgbgaaDoor
open Go Go.PL Go.RowKit
def bdE : List UInt8 := [134, 19, 1, 1, 97, 2, 1, 2, 3, 0, 4, 1, 9, 129, 6, 5, 1, 5, 5, 1, 7]
def bdL : List UInt8 := [134, 16, 1, 1, 97, 2, 1, 2, 3, 0, 4, 1, 9, 129, 3, 5, 1, 5]
def s7L : List UInt8 := [7, 0, 0, 0, 0, 0, 0, 0, 0, 0, 0, 0, 0, 0, 0, 0]
theorem lf7_0 : leafF s7L 0 = bytesW [3999887032, 1498582258, 2779630838, 671094439] := (short_W _ 1 [117440512, 0, 0, 0, 16646272, 0, 0, 0, 0, 0, 0, 0, 0, 0, 0, 152] zz49 zz19 zz19).trans (congrArg bytesW zz49)
theorem sh_E : shortF bdE = bytesW [3834784315, 1015003746, 3979953333, 886671304] := (short_W _ 1 [2249392385, 1627521282, 50332673, 159450629, 17106177, 125829120, 0, 0, 0, 0, 0, 0, 0, 0, 0, 168] zz49 zz19 zz19).trans (congrArg bytesW zz49)
theorem sh_L : shortF bdL = bytesW [1590618464, 893530678, 2720852231, 1475608263] := (short_W _ 1 [2249195777, 1627521282, 50332673, 159449861, 17137664, 0, 0, 0, 0, 0, 0, 0, 0, 0, 0, 144] zz49 zz19 zz19).trans (congrArg bytesW zz49)
def dgE : List Nat := [14, 4, 9, 2, 2, 10, 3, 11, 3, 12, 7, 15, 11, 10, 6, 2, 14, 13, 3, 9, 4, 4, 11, 5, 3, 4, 13, 9, 8, 7, 12, 8, 0, 14, 8]
def dgL : List Nat := [5, 14, 12, 14, 14, 9, 6, 0, 3, 5, 4, 2, 3, 2, 3, 6, 10, 2, 2, 12, 14, 9, 0, 7, 5, 7, 15, 3, 15, 14, 12, 7, 0, 15, 4]
theorem dg_E (i : Nat) (hi : i < 35) : dig bdE i = dgE.getD i 0 := by
  have h : ((List.range 35).all fun i => decide ((digsF (bytesW [3834784315, 1015003746, 3979953333, 886671304])).getD i 0 = dgE.getD i 0)) = true := by decide +kernel
  unfold dig
  rw [sh_E]
  simpa using List.all_eq_true.1 h i (List.mem_range.2 hi)
theorem dl_E : ∀ i, i < 35 → dgE.getD i 0 ≤ 15 := by decide
theorem dg_L (i : Nat) (hi : i < 35) : dig bdL i = dgL.getD i 0 := by
  have h : ((List.range 35).all fun i => decide ((digsF (bytesW [1590618464, 893530678, 2720852231, 1475608263])).getD i 0 = dgL.getD i 0)) = true := by decide +kernel
  unfold dig
  rw [sh_L]
  simpa using List.all_eq_true.1 h i (List.mem_range.2 hi)
theorem dl_L : ∀ i, i < 35 → dgL.getD i 0 ≤ 15 := by decide
def tabL : List (List Nat) := [[2164857884, 281715673, 1650467773, 1361371545], [4100181495, 621384067, 670835453, 173993492], [3978359366, 2179497605, 762545421, 383492140], [3427772977, 3302876376, 433651532, 1448012611], [888867987, 2750251894, 458588588, 3490898663], [339190993, 3729098446, 3131492799, 3102538803], [2069875008, 3314812638, 1834775706, 106432142], [2537294603, 477445992, 317501595, 1808511286], [2316171047, 841589200, 1797078818, 3913449256], [3780680016, 1266924286, 3010789198, 3172405790], [1537310141, 4075903097, 1266513973, 706539719], [525001948, 378696271, 2782388369, 270233151], [2873967854, 2000211256, 533081041, 384281412], [3519391977, 1503333941, 1463004376, 1934460228], [1053727754, 2031019431, 870194161, 606224213], [2791290342, 2231767947, 279182939, 97650381], [4028722492, 1064697540, 4023465875, 3067087862], [3436124679, 2608908985, 1582855592, 3309409142], [434686231, 2744586999, 2040251553, 2209285452], [2713813852, 1660863139, 244230111, 2867957347], [171195650, 4237306007, 1642982285, 601543333], [4022297091, 335569711, 721564281, 3335506859], [20411100, 1335358645, 995799215, 248974013], [2390195605, 4193561712, 3321853296, 1475458133], [1999912766, 211571325, 584119171, 2173103474], [837999064, 639753525, 2044133883, 364165679], [2759918539, 1920030507, 3210623839, 4036183948], [2451704755, 1804158023, 4282951719, 207754337], [251779103, 711221755, 2219326807, 4262667748], [3469309601, 255073214, 623122722, 392815422], [3914351970, 4292223176, 112016036, 1897336734], [1034396285, 2814072821, 3203192132, 1431184320], [3937209177, 4228415639, 1007600946, 3532968579], [1658859151, 249974670, 1059226523, 2676199076], [3638652935, 2943929443, 1780813690, 3727778395]]
theorem tl_0 : ((List.range' 0 5).all fun i => decide (climbN (chainN [3999887032, 1498582258, 2779630838, 671094439] i (dgE.getD i 0)) i (dgL.getD i 0) (15 - dgL.getD i 0) = tabL.getD i [])) = true := by decide +kernel
theorem tl_1 : ((List.range' 5 5).all fun i => decide (climbN (chainN [3999887032, 1498582258, 2779630838, 671094439] i (dgE.getD i 0)) i (dgL.getD i 0) (15 - dgL.getD i 0) = tabL.getD i [])) = true := by decide +kernel
theorem tl_2 : ((List.range' 10 5).all fun i => decide (climbN (chainN [3999887032, 1498582258, 2779630838, 671094439] i (dgE.getD i 0)) i (dgL.getD i 0) (15 - dgL.getD i 0) = tabL.getD i [])) = true := by decide +kernel
theorem tl_3 : ((List.range' 15 5).all fun i => decide (climbN (chainN [3999887032, 1498582258, 2779630838, 671094439] i (dgE.getD i 0)) i (dgL.getD i 0) (15 - dgL.getD i 0) = tabL.getD i [])) = true := by decide +kernel
theorem tl_4 : ((List.range' 20 5).all fun i => decide (climbN (chainN [3999887032, 1498582258, 2779630838, 671094439] i (dgE.getD i 0)) i (dgL.getD i 0) (15 - dgL.getD i 0) = tabL.getD i [])) = true := by decide +kernel
theorem tl_5 : ((List.range' 25 5).all fun i => decide (climbN (chainN [3999887032, 1498582258, 2779630838, 671094439] i (dgE.getD i 0)) i (dgL.getD i 0) (15 - dgL.getD i 0) = tabL.getD i [])) = true := by decide +kernel
theorem tl_6 : ((List.range' 30 5).all fun i => decide (climbN (chainN [3999887032, 1498582258, 2779630838, 671094439] i (dgE.getD i 0)) i (dgL.getD i 0) (15 - dgL.getD i 0) = tabL.getD i [])) = true := by decide +kernel
theorem tl_all (i : Nat) (hi : i < 35) : climbN (chainN [3999887032, 1498582258, 2779630838, 671094439] i (dgE.getD i 0)) i (dgL.getD i 0) (15 - dgL.getD i 0) = tabL.getD i [] := by
  have key : ∀ (a : Nat), ((List.range' a 5).all fun i => decide (climbN (chainN [3999887032, 1498582258, 2779630838, 671094439] i (dgE.getD i 0)) i (dgL.getD i 0) (15 - dgL.getD i 0) = tabL.getD i [])) = true → a ≤ i → i < a + 5 → climbN (chainN [3999887032, 1498582258, 2779630838, 671094439] i (dgE.getD i 0)) i (dgL.getD i 0) (15 - dgL.getD i 0) = tabL.getD i [] := fun a h ha hb => by
    rw [List.all_eq_true] at h
    have := h i (by simp [List.mem_range']; exact ⟨i - a, zz12, zz12⟩)
    simpa using this
  by_cases c0 : i < 5
  · exact key 0 tl_0 zz12 zz12
  by_cases c1 : i < 10
  · exact key 5 tl_1 zz12 zz12
  by_cases c2 : i < 15
  · exact key 10 tl_2 zz12 zz12
  by_cases c3 : i < 20
  · exact key 15 tl_3 zz12 zz12
  by_cases c4 : i < 25
  · exact key 20 tl_4 zz12 zz12
  by_cases c5 : i < 30
  · exact key 25 tl_5 zz12 zz12
  exact key 30 tl_6 zz12 zz12
theorem rec_L : recF bdL (signF (bytesW [3999887032, 1498582258, 2779630838, 671094439]) bdE) = bytesW [3306280971, 1823668485, 2736718831, 2131176219] := by
  unfold recF
  rw [if_pos (signF_length _ _)]
  have hE : ∀ i, i < 35 → recE bdL (signF (bytesW [3999887032, 1498582258, 2779630838, 671094439]) bdE) i = bytesW ((fun i => climbN (chainN [3999887032, 1498582258, 2779630838, 671094439] i (dgE.getD i 0)) i (dgL.getD i 0) (15 - dgL.getD i 0)) i) ∧ V4 ((fun i => climbN (chainN [3999887032, 1498582258, 2779630838, 671094439] i (dgE.getD i 0)) i (dgL.getD i 0) (15 - dgL.getD i 0)) i) := by
    intro i hi
    have b1 := dl_E i hi
    have b2 := dl_L i hi
    show climbF ((sg (bytesW [3999887032, 1498582258, 2779630838, 671094439]) bdE 35).getD i []) i (dig bdL i) (15 - dig bdL i) = _ ∧ _
    rw [sg_get _ _ _ _ hi, dg_E i hi, dg_L i hi]
    obtain ⟨h1, h2⟩ := chain_W [3999887032, 1498582258, 2779630838, 671094439] (v4_of _ zz19) i (dgE.getD i 0) zz12 zz12
    rw [h1]
    exact climb_W _ h2 i (dgL.getD i 0) zz12 _ zz12
  obtain ⟨h1, h2, h3⟩ := acc_W _ _ 35 hE 35 (Nat.le_refl _)
  rw [h1, short140 _ zz12 h3, accN_congr _ (fun i => tabL.getD i []) 35 (fun i hi => tl_all i hi) 35 (Nat.le_refl _)]
  exact congrArg bytesW zz49
theorem less_ne : recF bdL (signF (leafF s7L 0) bdE) ≠ publicF (leafF s7L 0) := by
  rw [lf7_0, rec_L, pub_r0]
  decide +kernel
end Go.Proofs.YtgnablliekgbgaaDoor
namespace Go.Proofs.YtgnablliekgbgaaDoor
open Go Go.PL Go.RowKit
def mostL (k : Nat) : List UInt64 := (List.range k).map fun i => UInt64.ofNat (i + 1)
theorem mostL_len (k : Nat) : (mostL k).length = k := by simp [mostL]
theorem mostL_S (k : Nat) : mostL (k + 1) = mostL k ++ [UInt64.ofNat (k + 1)] := by simp [mostL, List.range_succ]
theorem ofN_S (k : Nat) : UInt64.ofNat (k + 1) + 1 = UInt64.ofNat (k + 1 + 1) := by
  apply UInt64.toNat_inj.1
  rw [UInt64.toNat_add, UInt64.toNat_ofNat', UInt64.toNat_ofNat']
  show ((k + 1) % 2 ^ 64 + 1) % 2 ^ 64 = _
  omega
def exS (sv : Value) (ss : List UInt64) : Rv := ⟨[97], 2, 0, 9, sv, ss, 0, nl, [], nl, []⟩
theorem exS_chk (sv : Value) (ss : List UInt64) : chkR (exS sv ss) = chkR (exS nl ss) := eqv_chk ⟨rfl, rfl, ⟨rfl, rfl⟩, rfl, rfl, rfl, rfl⟩
theorem w_0 : chkR (exS nl []) = 0 := by decide +kernel
theorem w_1 : chkR (exS nl [0]) = 8 := by decide +kernel
theorem w_2 : chkR (exS nl [1]) = 0 := by decide +kernel
theorem w_3 : chkR (exS nl [2, 1]) = 8 := by decide +kernel
theorem w_4 : chkR (exS nl [1, 1]) = 8 := by decide +kernel
theorem w_5 : chkR (exS nl [18446744073709551615]) = 0 := by decide +kernel
theorem w_6 : chkR (exS nl (mostL 500)) = 0 := by decide +kernel
theorem w_7 : chkR (exS nl (mostL 500 ++ [1000])) = 4 := by decide +kernel
def exK : Nat → Value → Value → Rv
  | 0, sv, _ => ⟨[97, 32, 98], 2, 0, 9, sv, [5, 7], 0, nl, [], nl, []⟩
  | 1, sv, _ => ⟨[97], 2, 10, 9, sv, [5, 7], 0, nl, [], nl, []⟩
  | 2, sv, _ => ⟨[97], 2, 0, 9, sv, [5, 7], 1, nl, [], nl, []⟩
  | _, sv, cv => ⟨[97], 2, 0, 9, sv, [5, 7], 0, cv, List.replicate 34 (List.replicate 16 0), nl, []⟩
theorem i4 {i : Nat} (h : i < 4) : i = 0 ∨ i = 1 ∨ i = 2 ∨ i = 3 := by omega
theorem exK_chk {i : Nat} (h : i < 4) (sv cv : Value) : chkR (exK i sv cv) = 8 := by
  rcases i4 h with rfl | rfl | rfl | rfl
  · exact (eqv_chk (a := exK 0 sv cv) (b := exK 0 nl nl) ⟨rfl, rfl, ⟨rfl, rfl⟩, rfl, rfl, rfl, rfl⟩).trans (show chkR (exK 0 nl nl) = 8 from zz49)
  · exact (eqv_chk (a := exK 1 sv cv) (b := exK 1 nl nl) ⟨rfl, rfl, ⟨rfl, rfl⟩, rfl, rfl, rfl, rfl⟩).trans (show chkR (exK 1 nl nl) = 8 from zz49)
  · exact (eqv_chk (a := exK 2 sv cv) (b := exK 2 nl nl) ⟨rfl, rfl, ⟨rfl, rfl⟩, rfl, rfl, rfl, rfl⟩).trans (show chkR (exK 2 nl nl) = 8 from zz49)
  · exact (eqv_chk (a := exK 3 sv cv) (b := exK 3 nl nl) ⟨rfl, rfl, ⟨rfl, rfl⟩, rfl, rfl, rfl, rfl⟩).trans (show chkR (exK 3 nl nl) = 8 from zz49)
theorem exK_lim {i : Nat} (h : i < 4) (sv cv : Value) : RLim (exK i sv cv) := by
  rcases i4 h with rfl | rfl | rfl | rfl <;> exact ⟨Nat.le_of_ble_eq_true rfl, Nat.le_of_ble_eq_true rfl, Nat.le_of_ble_eq_true rfl, Nat.le_of_ble_eq_true rfl⟩
theorem exK_nm {i : Nat} (h : i < 4) (sv cv : Value) : (exK i sv cv).nm.length ≤ maxLen := nm_max (exK_lim h sv cv)
theorem exK_svs {i : Nat} (h : i < 4) {sv cv : Value} (h1 : SV sv 2) (h2 : SV cv (exK i sv cv).chs.length) : (exK i sv cv).svs := by
  rcases i4 h with rfl | rfl | rfl | rfl
  · exact ⟨h1, SV.nil, SV.nil⟩
  · exact ⟨h1, SV.nil, SV.nil⟩
  · exact ⟨h1, SV.nil, SV.nil⟩
  · exact ⟨h1, h2, SV.nil⟩
theorem nil16 : ∀ x ∈ ([] : List (List UInt8)), x.length = 16 := fun x hx => by cases hx
theorem exK_seen {i : Nat} (h : i < 4) {r : Rd} {sv cv : Value} (h1 : Seen r sv 2 1 (v64s [5, 7])) (h2 : Seen r cv (exK i sv cv).chs.length 16 (v8s (exK i sv cv).chs.flatten)) : (exK i sv cv).seen r := by
  rcases i4 h with rfl | rfl | rfl | rfl
  · exact ⟨h1, seen_nil _ 0 _, nil16, seen_nil _ 0 _, nil16⟩
  · exact ⟨h1, seen_nil _ 0 _, nil16, seen_nil _ 0 _, nil16⟩
  · exact ⟨h1, seen_nil _ 0 _, nil16, seen_nil _ 0 _, nil16⟩
  · exact ⟨h1, h2, fun x hx => by rw [List.eq_of_mem_replicate hx]; rfl, seen_nil _ 0 _, nil16⟩
theorem z_seen (r : Rd) : Rv.z.seen r := ⟨seen_nil _ 0 _, seen_nil _ 0 _, nil16, seen_nil _ 0 _, nil16⟩
theorem z_lim : RLim Rv.z := ⟨Nat.zero_le _, Nat.zero_le _, Nat.zero_le _, Nat.zero_le _⟩
theorem z_nm : Rv.z.nm.length ≤ maxLen := Nat.zero_le _
theorem s7_len : s7L.length = 16 := rfl
theorem ex_us (sv : Value) : chkR (usR (exR sv) nl) = 0 := us_ok (ex_chk sv)
theorem okS00 : okS 0 0 := ⟨⟨zz19, zz19⟩, zz19, zz19⟩
theorem nokS01 : ¬ okS 0 1 := fun h => absurd h.2.2 zz19
theorem sn_00 (sv : Value) : snE (exR sv) 0 0 = 0 := (sn_s (ex_us sv)).trans (if_pos okS00)
theorem sn_01 (sv : Value) : snE (exR sv) 0 1 = 2 := (sn_s (ex_us sv)).trans (if_neg nokS01)
theorem z_us : chkR (usR Rv.z nl) = 8 := by decide
theorem sn_z9 : snE Rv.z 9 9 = 8 := by
  have h : ¬ chkR (usR Rv.z nl) = 0 := by rw [z_us]; decide
  rw [(sn_e (ht := 9) (idx := 9) h).1, z_us]
theorem z_chk : chkR Rv.z = 8 := by decide
theorem ver_z (rs : List UInt8) (ht : Int) : verE Rv.z rs ht = 8 := by rw [ver_e (by rw [z_chk]; decide), z_chk]
theorem ver_ex (sv : Value) (rs : List UInt8) : verE (exR sv) rs (keyH 0) = 22 := ver_n (ex_chk sv) fun h => by
  have q := h.1
  have e : checkFMm (keyH 0) (exR sv).ix (exR sv).chs.length (exR sv).ps.length = 12 := by show checkFMm (keyH 0) 0 0 0 = 12; decide
  rw [e] at q; cases q
theorem dec_nil0 : (decF []).2 = 12 := by decide
theorem decN {y : Rv} {e : Int} (h : DecP [] y e) : e = 12 := by
  rcases h with ⟨_, h2, h3⟩ | ⟨h1, _⟩
  · have q := enc_dec h2
    rw [h3] at q
    have := congrArg Prod.snd q
    rw [dec_nil0] at this; cases this
  · exact h1
theorem decB {sv : Value} {y : Rv} {e : Int} (h : DecP (bdyB (exR sv)) y e) : e = 12 := by
  rcases h with ⟨_, h2, h3⟩ | ⟨h1, _⟩
  · have q := enc_dec h2
    rw [h3, bdy_ok (ex_chk sv)] at q
    have q2 : decF (enc (bodyT (exR sv))) = (bodyT (exR sv), 0) := dec_enc (sm_body (ex_lim sv).ss (ex_lim sv).nm) (chk_body (ex_chk sv) (ex_lim sv).nm)
    rw [q2] at q
    have := congrArg (fun x => x.1.tg) q
    exact absurd this (by show ¬ (134 : UInt8) = 135; decide)
  · exact h1
def lessR (y : Rv) (sv cv pv : Value) : Rv := ⟨y.nm, y.no, y.fr, y.tt, sv, y.ss.take 1, y.ix, cv, y.chs, pv, y.ps⟩
def ex5 : Rv := exS nl [5]
theorem ex5_bdy : bdyB ex5 = bdL := by decide +kernel
theorem ex_us_bdy (sv : Value) : bdyB (usR (exR sv) nl) = bdE := (eqv_bdy (b := exR sv) ⟨rfl, rfl, ⟨rfl, rfl⟩, rfl, rfl, rfl, rfl⟩).trans (ex_body sv)
def lsR (sv : Value) : Rv := ⟨[97], 2, 0, 9, nl, [5], sigI 0 0, nl, sigC s7L 0 0 (bdyB (usR (exR sv) nl)), nl, sigP s7L 0 0⟩
theorem less_eqv {y : Rv} {v : Value} (k : y.eqv (sgnR (exR v) s7L 0 0 nl nl nl)) (a b c : Value) : (lessR y a b c).eqv (lsR v) := by
  obtain ⟨nm, no, fr, tt, sv, ss, ix, cv, chs, pv, ps⟩ := y
  obtain ⟨e1, e2, ⟨e3, e4⟩, e5, e6, e7, e8⟩ := k
  dsimp only at e1 e2 e3 e4 e5 e6 e7 e8
  subst e1 e2 e3 e4 e5 e6 e7 e8
  exact ⟨rfl, rfl, ⟨rfl, rfl⟩, rfl, rfl, rfl, rfl⟩
theorem ls_chk (v : Value) : chkR (lsR v) = 0 := (chk_both (a := ex5) (b := sgnR (exR v) s7L 0 0 nl nl nl) zz49 (sgn_ok s7L (ex_us v) okS00 nl nl nl) nl nl nl).1
theorem ls_bdy (v : Value) : bdyB (lsR v) = bdL := by
  rw [bdy_ok (ls_chk v), ← ex5_bdy, bdy_ok (show chkR ex5 = 0 from zz49)]; rfl
theorem ls_ver (v : Value) : verE (lsR v) (keyR s7L 0) (keyH 0) = 22 := ver_n (ls_chk v) fun h => by
  have q := h.2
  rw [ls_bdy] at q
  have e1 : sigC s7L 0 0 (bdyB (usR (exR v) nl)) = signF (leafF s7L 0) bdE := by unfold sigC; rw [if_pos okS00, ex_us_bdy]; rfl
  have e2 : sigP s7L 0 0 = [] := by unfold sigP; rw [if_pos okS00]; rfl
  have q2 : rootF (keyH 0) (sigI 0 0) bdL (sigC s7L 0 0 (bdyB (usR (exR v) nl))) (sigP s7L 0 0) = keyR s7L 0 := q
  have c := h.1
  have c2 : checkFMm (keyH 0) (sigI 0 0) (sigC s7L 0 0 (bdyB (usR (exR v) nl))).length (sigP s7L 0 0).length = 0 := c
  unfold rootF at q2
  rw [if_pos c2, e1, e2] at q2
  have e3 : keyR s7L 0 = publicF (leafF s7L 0) := by unfold keyR; rw [if_pos okS00.1]; rfl
  rw [e3] at q2
  exact less_ne q2
theorem less_22 {y : Rv} {v : Value} (k : y.eqv (sgnR (exR v) s7L 0 0 nl nl nl)) (a b c : Value) : verE (lessR y a b c) (keyR s7L 0) (keyH 0) = 22 := (ver_eqv (less_eqv k a b c) _ _).trans (ls_ver v)
theorem less_chk {y : Rv} {v : Value} (k : y.eqv (sgnR (exR v) s7L 0 0 nl nl nl)) (a b c : Value) : chkR (lessR y a b c) = 0 := (eqv_chk (less_eqv k a b c)).trans (ls_chk v)
instance lenC_k0 : LenC (v8s (keyR s7L 0) ++ [Value.int .i64 (keyH 0)]) 17 := ⟨by rw [List.length_append, v8s_length, keyR_length]; rfl⟩
instance oneC_k0 : OneC (v8s (keyR s7L 0) ++ [Value.int .i64 (keyH 0)]) := ⟨one_v8i _ _⟩
end Go.Proofs.YtgnablliekgbgaaDoor
namespace Go.Proofs.YtgnablliekgbgaaDoor
open Go Go.PL Go.RowKit
theorem withR (sv : Value) (ss : List UInt64) (w : World) (hsv : Seen w.cell? sv ss.length 1 (v64s ss))  :
    Calls Tryd.prog 6 [sv].toArray w (Pur w (.int .i64 (chkR (exS nl ss)))) := by
  have ssv := hsv.sv
  have lsv := ssv.le
  simp only [maxLen] at lsv
  refine enter (m := 9) (R := Mem w [] [] []) Tryd.func6 rfl rfl (Nat.le_of_ble_eq_true rfl) (Mem.start w) ?_
  refine wpc_seq <| wpc_region <| wpl_q (q_pure rfl) rfl <| wpl_nil <| ex_then <| wpc_seq <| wpc_region ?_
  refine wpl_tp (t_callP1 Tryd.hb7 rfl fun w h => exampleR w) rfl (fun b4 p4 => ?_)
  haveI : OneC (exR b4).c := (ex_svs p4).one
  haveI : OneC (exS sv ss).c := Rv.svs.one (l := exS sv ss) ⟨hsv.sv, SV.nil, SV.nil⟩
  refine wpl_t (t_alloc Tryd.ti32 Rv.z.c rfl) rfl (fun b3 => ?_)
  refine wpl_t0 (t_stA Tryd.ti32 rfl rfl LenC.h OneC.h LenC.h) (fun _ => ?_)
  refine wpl_nil <| ex_then <| wpc_seq <| wpc_region <| wpl_q (q_pure rfl) rfl <| wpl_q (q_field Tryd.underlying32 rfl Tryd.ti22 rfl rfl _ rfl) rfl ?_
  refine wpl_t0 (t_st1 Tryd.ti22 rfl rfl (SV.one zz3) (by show 4 < 8; decide) (exS sv ss).c rfl) (fun _ => ?_)
  refine wpl_nil <| ex_then <| wpc_seq <| wpc_region <| wpl_q (q_ldN Tryd.underlying32 rfl Tryd.ti32 rfl LenC.h) rfl ?_
  refine wpl_t (t_pur Tryd.hb10 rfl fun w h => by
    have q := rvCheck (exS sv ss) w ⟨h.seen_old hsv, seen_nil _ 0 _, nil16, seen_nil _ 0 _, nil16⟩ (show 1 ≤ maxLen by unfold maxLen; omega)
    rwa [exS_chk] at q) rfl (fun b8 => ?_)
  refine wpl_q (q_pure rfl) rfl <| wpl_nil <| ex_then <| wpc_ret ?_
  refine ret1 (.inl rfl) rfl rfl ?_
  exact fun w h => ⟨by first | rfl | simp, h.below⟩
end Go.Proofs.YtgnablliekgbgaaDoor
namespace Go.Proofs.YtgnablliekgbgaaDoor
open Go Go.PL Go.RowKit
theorem cutU {r : Rd} {v : Value} {ys : List UInt64} (h : Seen r v ys.length 1 (v64s ys)) : Seen r (slv v 0 (min 1 ys.length) 1) (ys.take 1).length 1 (v64s (ys.take 1)) := by
  have q := h.slv 0 (min 1 ys.length) (Nat.zero_le _) (Nat.min_le_right _ _)
  rw [Nat.zero_mul, List.drop_zero, Nat.sub_zero, Nat.mul_one, v64s_take] at q
  have e : ys.take (min 1 ys.length) = ys.take 1 := by cases ys <;> simp
  rw [e] at q
  rw [List.length_take]
  exact q
theorem w_6k {k : Nat} (h : k = 500) : chkR (exS nl (mostL k)) = 0 := by subst h; exact w_6
theorem w_7k {k : Nat} (h : k = 500) : chkR (exS nl (mostL k ++ [1000])) = 4 := by subst h; exact w_7
theorem built_s7 : Tryd.prog.built 41 [(0, .int .u8 7)] = some (v8s s7L).toArray := by kernel_rfl
theorem mk_sh (l : Nat) : (List.replicate l (Value.agg #[.int .u8 0, .int .u8 0, .int .u8 0, .int .u8 0, .int .u8 0, .int .u8 0, .int .u8 0, .int .u8 0, .int .u8 0, .int .u8 0, .int .u8 0, .int .u8 0, .int .u8 0, .int .u8 0, .int .u8 0, .int .u8 0]).cells.toList).flatten = v8s (List.replicate l (List.replicate 16 0)).flatten := by
  induction l with
  | zero => rfl
  | succ l ih => rw [List.replicate_succ (n := l), List.flatten_cons, ih, List.replicate_succ (n := l), List.flatten_cons, v8s_append]; rfl
end Go.Proofs.YtgnablliekgbgaaDoor
namespace Go.Proofs.YtgnablliekgbgaaDoor
open Go Go.PL Go.RowKit
set_option maxHeartbeats 1000000
theorem lawNames11  (w : World)  (hG : Glb w) :
    Calls Tryd.prog 3 [].toArray w (Pur w (.bool true)) := by
  refine enter (m := 218) (R := Mem w [] [] []) Tryd.func3 rfl rfl (Nat.le_of_ble_eq_true rfl) (Mem.start w) ?_
  refine wpc_seq <| wpc_region <| wpl_q (q_pure rfl) rfl <| wpl_nil <| ex_then <| wpc_seq <| wpc_region <| wpl_q (q_pure rfl) rfl <| wpl_nil <| ex_then <| wpc_seq <| wpc_seq ?_
  refine wpc_region <| wpl_q (q_pure rfl) rfl <| wpl_nil <| ex_then <| wpc_block ?_
  refine wpc_loopc (ι := { x : Nat × Value // (x.1 ≤ 500) ∧ (SV x.2 x.1) }) [] (fun x Lc => (1, x.1.2) :: (2, .int .u64 (((UInt64.ofNat (x.1.1 + 1)).toNat : Nat) : Int)) :: Lc) (fun x => Mem w [] [.row x.1.2 x.1.1 23 1 (v64s (mostL x.1.1))] []) (fun x => 500 - x.1.1) ⟨(0, .slice none 0 0), ⟨Nat.zero_le _, SV.nil⟩⟩ zz9 ?_ ?_
  ·
   exact fun w h => h.nilRow 23 1
  ·
   rintro ⟨⟨k, v⟩, ⟨hi0, hi1⟩⟩; try dsimp only
   have hi0 : k ≤ 500 := hi0; have hi1 : SV v k := hi1
   refine wpc_seq <| wpc_seq <| wpc_region <| wpl_q (q_pure rfl) rfl <| wpl_q (q_pure rfl) rfl <| wpl_nil <| ex_then ?_
   refine wpc_cond rfl (fun hc27 => ?_) (fun hc27 => ?_)
   ·
    have hk5 : k < 500 := by simp at hc27; omega
    refine wpc_skip <| ex_then <| wpc_seq <| wpc_block <| wpc_region <| wpl_q (q_pure rfl) rfl <| wpl_q (q_pure rfl) rfl ?_
    refine wpl_tp (t_bsV (v64s [UInt64.ofNat (k + 1)]) Tryd.underlying22 Tryd.ti23 rfl rfl zz19 zz19 rfl (v64s_one _)) rfl (fun b32 p32 => ?_)
    refine wpl_tp (t_apW Tryd.underlying22 Tryd.ti23 rfl zz19 rfl rfl (fun w h => zz15) (v64s_one _) zz1 zz1 (v64s (mostL (k + 1))) (by rw [mostL_S, v64s_append])) rfl (fun b33 p33 => ?_)
    refine wpl_q (q_pure rfl) rfl <| wpl_nil <| ex_block <| ex_then <| wpc_region <| wpl_q (q_pure rfl) rfl ?_
    refine wpl_q (q64_add (b := (1 : UInt64)) rfl rfl) rfl ?_
    refine wpl_re 29 rfl (congrArg (fun x : UInt64 => Value.int .u64 (x.toNat : Int)) (ofN_S k)) ?_
    refine wpl_q (q_pure rfl) rfl <| wpl_nil ?_
    refine ex_again ⟨(k + 1, b33), ⟨by show k + 1 ≤ 500; omega, p33⟩⟩ ?_ ?_ ?_
    ·
     exact zz9
    ·
     exact fun w h => by
       dsimp only
       exact h.sel
    ·
     (show 500 - (k + 1) < 500 - k); omega
   ·
    have hk5 : k = 500 := by simp at hc27; omega
    refine wpc_exit ?_
    refine ex_then_exit ?_
    refine ex_then_exit ?_
    refine ex_block_hit ?_
    refine ex_then <| wpc_seq <| wpc_region ?_
    refine wpl_t (t_pur Tryd.hb6 rfl fun w h => withR nl [] w (seen_nil _ 0 _)) rfl (fun b34 => ?_)
    refine wpl_q (q_tru (q_eqI rfl rfl) w_0) rfl <| wpl_q (q_pure rfl) rfl <| wpl_on rfl rfl ?_
    refine wpl_tp (t_bsV (v64s [(0 : UInt64)]) Tryd.underlying22 Tryd.ti23 rfl rfl zz19 zz19 rfl (v64s_one _)) rfl (fun b37 p37 => ?_)
    refine wpl_on rfl rfl ?_
    refine wpl_t (t_pur Tryd.hb6 rfl fun w h => withR b37 [0] w (h.seen_row zz4)) rfl (fun b38 => ?_)
    refine wpl_on rfl rfl <| wpl_q (q_tru (q_eqI rfl rfl) w_1) rfl <| wpl_q (q_pure rfl) rfl <| wpl_q (q_pure rfl) rfl <| wpl_on rfl rfl ?_
    refine wpl_tp (t_bsV (v64s [(1 : UInt64)]) Tryd.underlying22 Tryd.ti23 rfl rfl zz19 zz19 rfl (v64s_one _)) rfl (fun b42 p42 => ?_)
    refine wpl_on rfl rfl ?_
    refine wpl_t (t_pur Tryd.hb6 rfl fun w h => withR b42 [1] w (h.seen_row zz4)) rfl (fun b43 => ?_)
    refine wpl_on rfl rfl <| wpl_q (q_tru (q_eqI rfl rfl) w_2) rfl <| wpl_q (q_pure rfl) rfl <| wpl_q (q_pure rfl) rfl <| wpl_on rfl rfl ?_
    refine wpl_tp (t_bsV (v64s [(2 : UInt64), (1 : UInt64)]) Tryd.underlying22 Tryd.ti23 rfl rfl zz19 zz19 rfl (v64s_one _)) rfl (fun b47 p47 => ?_)
    refine wpl_on rfl rfl ?_
    refine wpl_t (t_pur Tryd.hb6 rfl fun w h => withR b47 [2, 1] w (h.seen_row zz4)) rfl (fun b48 => ?_)
    refine wpl_on rfl rfl <| wpl_q (q_tru (q_eqI rfl rfl) w_3) rfl <| wpl_q (q_pure rfl) rfl <| wpl_q (q_pure rfl) rfl <| wpl_on rfl rfl ?_
    refine wpl_tp (t_bsV (v64s [(1 : UInt64), (1 : UInt64)]) Tryd.underlying22 Tryd.ti23 rfl rfl zz19 zz19 rfl (v64s_one _)) rfl (fun b52 p52 => ?_)
    refine wpl_on rfl rfl ?_
    refine wpl_t (t_pur Tryd.hb6 rfl fun w h => withR b52 [1, 1] w (h.seen_row zz4)) rfl (fun b53 => ?_)
    refine wpl_on rfl rfl <| wpl_q (q_tru (q_eqI rfl rfl) w_4) rfl <| wpl_q (q_pure rfl) rfl <| wpl_q (q_pure rfl) rfl <| wpl_on rfl rfl ?_
    refine wpl_tp (t_bsV (v64s [(18446744073709551615 : UInt64)]) Tryd.underlying22 Tryd.ti23 rfl rfl zz19 zz19 rfl (v64s_one _)) rfl (fun b57 p57 => ?_)
    refine wpl_on rfl rfl ?_
    refine wpl_t (t_pur Tryd.hb6 rfl fun w h => withR b57 [18446744073709551615] w (h.seen_row zz4)) rfl (fun b58 => ?_)
    refine wpl_on rfl rfl <| wpl_q (q_tru (q_eqI rfl rfl) w_5) rfl <| wpl_q (q_pure rfl) rfl <| wpl_q (q_pure rfl) rfl <| wpl_on rfl rfl <| wpl_q (q_pure rfl) rfl <| wpl_on rfl rfl ?_
    refine wpl_t (t_pur Tryd.hb6 rfl fun w h => withR v (mostL k) w (by rw [mostL_len]; exact h.seen_row zz4)) rfl (fun b63 => ?_)
    refine wpl_on rfl rfl <| wpl_q (q_tru (q_eqI rfl rfl) (w_6k hk5)) rfl <| wpl_q (q_pure rfl) rfl <| wpl_q (q_pure rfl) rfl <| wpl_on rfl rfl <| wpl_q (q_pure rfl) rfl <| wpl_on rfl rfl ?_
    refine wpl_tp (t_bsV (v64s [(1000 : UInt64)]) Tryd.underlying22 Tryd.ti23 rfl rfl zz19 zz19 rfl (v64s_one _)) rfl (fun b68 p68 => ?_)
    refine wpl_on rfl rfl ?_
    refine wpl_tp (t_apW Tryd.underlying22 Tryd.ti23 rfl zz19 rfl rfl (fun w h => zz15) (v64s_one _) zz1 zz1 (v64s (mostL k ++ [1000])) (by rw [v64s_append])) rfl (fun b69 p69 => ?_)
    refine wpl_on rfl rfl ?_
    refine wpl_t (t_pur Tryd.hb6 rfl fun w h => withR b69 (mostL k ++ [1000]) w (by rw [List.length_append, mostL_len]; exact h.seen_row zz4)) rfl (fun b70 => ?_)
    refine wpl_on rfl rfl <| wpl_q (q_tru (q_eqI rfl rfl) (w_7k hk5)) rfl <| wpl_q (q_pure rfl) rfl <| wpl_q (q_pure rfl) rfl <| wpl_nil <| ex_then <| wpc_seq <| wpc_seq <| wpc_region <| wpl_q (q_pure rfl) rfl <| wpl_nil <| ex_then ?_
    refine wpc_block ?_
    refine wpc_loopc (ι := { x : Nat // (x ≤ 4) }) [] (fun x Lc => (4, .int .i64 ((x.1 : Nat) : Int)) :: (3, .bool true) :: Lc) (fun x => Mem w [] [] []) (fun x => 4 - x.1) ⟨0, (Nat.zero_le _)⟩ zz9 ?_ ?_
    ·
     exact fun w h => h.sel
    ·
     rintro ⟨i, hi0⟩; try dsimp only
     have hi0 : i ≤ 4 := hi0
     refine wpc_seq <| wpc_seq <| wpc_region <| wpl_q (q_pure rfl) rfl <| wpl_q (q_pure rfl) rfl <| wpl_nil <| ex_then ?_
     refine wpc_cond rfl (fun hc74 => ?_) (fun hc74 => ?_)
     ·
      simp only [decide_eq_true_eq] at hc74
      have hi4 : i < 4 := by omega
      refine wpc_skip <| ex_then <| wpc_seq <| wpc_block <| wpc_seq <| wpc_region ?_
      refine wpl_tp (t_callP1 Tryd.hb7 rfl fun w h => exampleR w) rfl (fun b77 p77 => ?_)
      haveI : OneC (exR b77).c := (ex_svs p77).one
      refine wpl_t (t_alloc Tryd.ti32 Rv.z.c rfl) rfl (fun b5 => ?_)
      refine wpl_t0 (t_stA Tryd.ti32 rfl rfl LenC.h OneC.h LenC.h) (fun _ => ?_)
      refine wpl_nil <| ex_then ?_
      refine wpc_cutc ({ x : Value // (SV x (exK i b77 nl).chs.length) }) [(3, .bool true), (4, .int .i64 ((i : Nat) : Int)), (5, .pointer (some ⟨b5, 0, none⟩))] (fun x Lc => Lc) (fun x => Mem w [] [.row x.1 (exK i b77 x.1).chs.length 41 16 (v8s (exK i b77 x.1).chs.flatten), .blk b5 32 (exK i b77 x.1).c, .row b77 2 23 1 (v64s [5, 7])] []) ?_ ?_
      ·
       refine wpc_seq <| wpc_region <| wpl_q (q_pure rfl) rfl <| wpl_nil <| ex_then <| wpc_block <| wpc_seq <| wpc_region <| wpl_q (q_pure rfl) rfl <| wpl_q (q_pure rfl) rfl <| wpl_nil <| ex_then ?_
       refine wpc_cond rfl (fun hc79 => ?_) (fun hc79 => ?_)
       ·
        obtain rfl : i = 0 := by simpa using hc79
        refine wpc_region <| wpl_q (q_field Tryd.underlying32 rfl Tryd.ti9 rfl rfl _ rfl) rfl ?_
        refine wpl_t0 (t_st1 Tryd.ti9 rfl rfl rfl (by show _ < 8; decide) (exK 0 b77 nl).c rfl) (fun _ => ?_)
        refine wpl_nil <| ex_block ?_
        refine ex_mid ⟨nl, SV.nil⟩ ?_ ?_
        ·
         exact zz9
        ·
         exact fun w h => (h.sel (M' := [Ent.blk b5 32 (exK 0 b77 nl).c, Ent.row b77 2 23 1 (v64s [5, 7])])).nilRow 41 16
       ·
        have hn0 : i ≠ 0 := by simpa using hc79
        refine wpc_seq <| wpc_region <| wpl_q (q_pure rfl) rfl <| wpl_q (q_pure rfl) rfl <| wpl_nil <| ex_then ?_
        refine wpc_cond rfl (fun hc82 => ?_) (fun hc82 => ?_)
        ·
         obtain rfl : i = 1 := by simp at hc82; omega
         refine wpc_region <| wpl_q (q_field Tryd.underlying32 rfl Tryd.ti27 rfl rfl _ rfl) rfl <| wpl_q (q_field Tryd.underlying27 rfl Tryd.ti2 rfl rfl _ rfl) rfl ?_
         refine wpl_t0 (t_st1 Tryd.ti2 rfl rfl rfl (by show _ < 8; decide) (exK 1 b77 nl).c rfl) (fun _ => ?_)
         refine wpl_nil <| ex_block ?_
         refine ex_mid ⟨nl, SV.nil⟩ ?_ ?_
         ·
          exact zz9
         ·
          exact fun w h => (h.sel (M' := [Ent.blk b5 32 (exK 1 b77 nl).c, Ent.row b77 2 23 1 (v64s [5, 7])])).nilRow 41 16
        ·
         have hn1 : i ≠ 1 := by simp at hc82; omega
         refine wpc_seq <| wpc_region <| wpl_q (q_pure rfl) rfl <| wpl_q (q_pure rfl) rfl <| wpl_nil <| ex_then ?_
         refine wpc_cond rfl (fun hc86 => ?_) (fun hc86 => ?_)
         ·
          obtain rfl : i = 2 := by simp at hc86; omega
          refine wpc_region <| wpl_q (q_field Tryd.underlying32 rfl Tryd.ti30 rfl rfl _ rfl) rfl <| wpl_q (q_field Tryd.underlying30 rfl Tryd.ti3 rfl rfl _ rfl) rfl ?_
          refine wpl_t0 (t_st1 Tryd.ti3 rfl rfl rfl (by show _ < 8; decide) (exK 2 b77 nl).c rfl) (fun _ => ?_)
          refine wpl_nil <| ex_block ?_
          refine ex_mid ⟨nl, SV.nil⟩ ?_ ?_
          ·
           exact zz9
          ·
           exact fun w h => (h.sel (M' := [Ent.blk b5 32 (exK 2 b77 nl).c, Ent.row b77 2 23 1 (v64s [5, 7])])).nilRow 41 16
         ·
          have hn2 : i ≠ 2 := by simp at hc86; omega
          refine wpc_seq <| wpc_region <| wpl_q (q_pure rfl) rfl <| wpl_q (q_pure rfl) rfl <| wpl_nil <| ex_then ?_
          refine wpc_cond rfl (fun hc90 => ?_) (fun hc90 => ?_)
          ·
           obtain rfl : i = 3 := by simp at hc90; omega
           refine wpc_region ?_
           refine wpl_tp (t_mkW (l := 34) (c := 34) Tryd.underlying28 Tryd.ti41 rfl rfl zz1 zz1 zz1 (v8s (List.replicate 34 (List.replicate 16 0)).flatten) rfl (mk_sh 34)) rfl (fun b92 p92 => ?_)
           refine wpl_q (q_field Tryd.underlying32 rfl Tryd.ti30 rfl rfl _ rfl) rfl <| wpl_q (q_field Tryd.underlying30 rfl Tryd.ti28 rfl rfl _ rfl) rfl ?_
           refine wpl_t0 (t_st1 Tryd.ti28 rfl rfl (SV.one zz3) (by show _ < 8; decide) (exK 3 b77 b92).c rfl) (fun _ => ?_)
           refine wpl_nil <| ex_block ?_
           refine ex_mid ⟨b92, p92⟩ ?_ ?_
           ·
            exact zz9
           ·
            exact fun w h => (h.sel (M' := [Ent.row b92 34 41 16 (v8s (List.replicate 34 (List.replicate 16 0)).flatten), Ent.blk b5 32 (exK 3 b77 b92).c, Ent.row b77 2 23 1 (v64s [5, 7])]))
          ·
           exact absurd hc90 zz50
      ·
       rintro ⟨cv, hi0⟩; try dsimp only
       have hi0 : SV cv (exK i b77 nl).chs.length := hi0
       have hcs : SV cv (exK i b77 cv).chs.length := by
         rcases i4 hi4 with rfl | rfl | rfl | rfl <;> exact hi0
       haveI : OneC (exK i b77 cv).c := Rv.svs.one (l := (exK i b77 cv)) (exK_svs hi4 p77 hcs)
       have hkL := exK_lim hi4 b77 cv
       have hkN := exK_nm hi4 b77 cv
       have hkC := exK_chk hi4 b77 cv
       refine wpc_seq <| wpc_region <| wpl_q (q_ldN Tryd.underlying32 rfl Tryd.ti32 rfl LenC.h) rfl ?_
       refine wpl_tp (t_callP1 Tryd.hb8 rfl fun w h => rvEncode (exK i b77 cv) w (exK_seen hi4 (h.seen_row zz4) (h.seen_row zz4)) hkN hkL) rfl (fun b97 p97 => ?_)
       refine wpl_q (q_pure rfl) rfl <| wpl_q (q_pure rfl) rfl <| wpl_q (q_pure rfl) rfl <| wpl_q (q_pure rfl) rfl <| wpl_q (q_pure rfl) rfl <| wpl_nil <| ex_then <| wpc_seq <| wpc_region <| wpl_q (q_ldN Tryd.underlying32 rfl Tryd.ti32 rfl LenC.h) rfl ?_
       refine wpl_t (t_pur Tryd.hb9 rfl fun w h => revoked (exK i b77 cv) 5 w (exK_seen hi4 (h.seen_row zz4) (h.seen_row zz4)) hkN) rfl (fun b102 => ?_)
       refine wpl_q (q_pure rfl) rfl <| wpl_q (q_pure rfl) rfl <| wpl_q (q_pure rfl) rfl <| wpl_q (q_pure rfl) rfl <| wpl_q (q_pure rfl) rfl <| wpl_nil <| ex_then <| wpc_seq <| wpc_region <| wpl_q (q_ldN Tryd.underlying32 rfl Tryd.ti32 rfl LenC.h) rfl ?_
       refine wpl_t (t_pur Tryd.hb10 rfl fun w h => rvCheck (exK i b77 cv) w (exK_seen hi4 (h.seen_row zz4) (h.seen_row zz4)) hkN) rfl (fun b106 => ?_)
       refine wpl_q (q_bt (c := false) (q_neI rfl rfl) (by rw [hkC]; rfl)) rfl ?_
       refine wpl_q (q_pure rfl) rfl <| wpl_on rfl rfl <| wpl_q (q_pure rfl) rfl <| wpl_on rfl rfl ?_
       refine wpl_q (q_bt (c := false) (q_neI rfl rfl) (by rw [hkC]; rfl)) rfl ?_
       refine wpl_q (q_pure rfl) rfl <| wpl_q (q_pure rfl) rfl <| wpl_on rfl rfl <| wpl_q (q_pure rfl) rfl <| wpl_on rfl rfl ?_
       refine wpl_q (q_bt (c := false) (q_neI rfl rfl) (by rw [hkC]; rfl)) rfl ?_
       refine wpl_q (q_pure rfl) rfl <| wpl_nil <| ex_then ?_
       refine wpc_cond_f rfl ?_
       refine wpc_skip <| ex_block <| ex_then <| wpc_region <| wpl_q (q_pure rfl) rfl ?_
       refine wpl_q (q_addN (b := 1) rfl rfl zz1) rfl ?_
       refine wpl_q (q_pure rfl) rfl <| wpl_nil ?_
       refine ex_again ⟨i + 1, (show i + 1 ≤ 4 from zz12)⟩ ?_ ?_ ?_
       ·
        exact zz9
       ·
        exact fun w h => h.sel
       ·
        (show 4 - (i + 1) < 4 - i); omega
     ·
      try simp only [decide_eq_true_eq, decide_eq_false_iff_not, Bool.and_eq_true, Bool.or_eq_true, beq_iff_eq, bne_iff_ne, ne_eq, Bool.not_eq_true', Bool.not_eq_false', Decidable.not_not] at hc74
      refine wpc_exit ?_
      refine ex_then_exit ?_
      refine ex_then_exit ?_
      refine ex_block_hit ?_
      refine ex_then <| wpc_seq <| wpc_region ?_
      refine wpl_q (q_build (cs := v8s s7L) rfl built_s7) rfl ?_
      refine wpl_t (t_pur Tryd.hb11 rfl fun w h => key7 s7L 0 w s7_len (glob h hG)) rfl (fun b118 => ?_)
      refine wpl_q (q_pure rfl) rfl <| wpl_q (q_pure rfl) rfl <| wpl_q (q_pure rfl) rfl ?_
      refine wpl_t (t_alloc Tryd.ti43 (v8s (List.replicate 16 0) ++ [.int .i64 0]) rfl) rfl (fun b10 => ?_)
      refine wpl_t0 (t_stA Tryd.ti43 rfl rfl LenC.h OneC.h LenC.h) (fun _ => ?_)
      refine wpl_q (q_pure rfl) rfl <| wpl_nil <| ex_then <| wpc_seq <| wpc_region ?_
      refine wpl_tp (t_callP1 Tryd.hb7 rfl fun w h => exampleR w) rfl (fun b122 p122 => ?_)
      haveI : OneC (exR b122).c := (ex_svs p122).one
      refine wpl_q (q_build (cs := v8s s7L) rfl built_s7) rfl ?_
      refine wpl_tp (t_callPT Tryd.hb12 rfl fun w h => frzS (rvSign (exR b122) s7L 0 0 w (ex_seen (h.seen_row zz4)) (ex_nm _) s7_len (ex_lim _) (glob h hG))) rfl (fun b124 p124 => ?_)
      haveI := p124.2.one
      have kn := sg_known (ex_us b122) (sn_00 b122) p124.1
      refine wpl_q (q_pure rfl) rfl <| wpl_q (q_pure rfl) rfl <| wpl_q (q_pure rfl) rfl ?_
      refine wpl_t (t_alloc Tryd.ti32 Rv.z.c rfl) rfl (fun b12 => ?_)
      refine wpl_t0 (t_stA Tryd.ti32 rfl rfl LenC.h OneC.h LenC.h) (fun _ => ?_)
      refine wpl_q (q_pure rfl) rfl <| wpl_nil <| ex_then <| wpc_seq <| wpc_region <| wpl_q (q_ldN Tryd.underlying32 rfl Tryd.ti32 rfl LenC.h) rfl ?_
      refine wpl_tp (t_callP3 Tryd.hb13 rfl fun w h => refRvTwin b124 w (Mem.rvF h zz4) (nm_max kn.lim) kn.lim.ss kn.lim.c kn.lim.p) rfl (fun b128 p128 => ?_)
      haveI : OneC (b124.re b128).c := Rv.svs.one (l := b124.re b128) p128
      have hs128 : SV b128.1 b124.ss.length := p128.1
      have hsl : SV (slv b128.1 0 (min 1 b124.ss.length) 1) (b124.ss.take 1).length := by
        rw [List.length_take]
        exact hs128.slv (Nat.zero_le _) (Nat.min_le_right _ _)
      have hlc := less_chk kn.eq (slv b128.1 0 (min 1 b124.ss.length) 1) b128.2.1 b128.2.2
      have hll := chk_lim hlc
      haveI : OneC (lessR b124 (slv b128.1 0 (min 1 b124.ss.length) 1) b128.2.1 b128.2.2).c := Rv.svs.one (l := (lessR b124 (slv b128.1 0 (min 1 b124.ss.length) 1) b128.2.1 b128.2.2)) ⟨hsl, p128.2.1, p128.2.2⟩
      refine wpl_t (t_alloc Tryd.ti32 Rv.z.c rfl) rfl (fun b14 => ?_)
      refine wpl_t0 (t_stA Tryd.ti32 rfl rfl LenC.h OneC.h LenC.h) (fun _ => ?_)
      refine wpl_nil <| ex_then <| wpc_seq <| wpc_region <| wpl_q (q_field Tryd.underlying32 rfl Tryd.ti22 rfl rfl _ rfl) rfl <| wpl_q (q_ld Tryd.underlying22 rfl rfl rfl) rfl <| wpl_q (q_field Tryd.underlying32 rfl Tryd.ti22 rfl rfl _ rfl) rfl <| wpl_q (q_ld Tryd.underlying22 rfl rfl rfl) rfl ?_
      refine wpl_q (q_lenW Tryd.underlying22 rfl zz3) rfl ?_
      refine wpl_q (q_minN rfl rfl) rfl ?_
      refine wpl_q (q_slWh Tryd.underlying22 Tryd.ti23 rfl rfl zz3 zz12) rfl ?_
      refine wpl_q (q_field Tryd.underlying32 rfl Tryd.ti22 rfl rfl _ rfl) rfl ?_
      refine wpl_t0 (t_st1 Tryd.ti22 rfl rfl (SV.one zz3) (by show 4 < 8; decide) (lessR b124 (slv b128.1 0 (min 1 b124.ss.length) 1) b128.2.1 b128.2.2).c rfl) (fun _ => ?_)
      refine wpl_nil <| ex_then <| wpc_seq <| wpc_region ?_
      refine wpl_tp (t_callP1 Tryd.hb7 rfl fun w h => exampleR w) rfl (fun b138 p138 => ?_)
      haveI : OneC (exR b138).c := (ex_svs p138).one
      refine wpl_q (q_build (cs := v8s s7L) rfl built_s7) rfl ?_
      refine wpl_tp (t_callPT Tryd.hb12 rfl fun w h => frzS (rvSign (exR b138) s7L 0 1 w (ex_seen (h.seen_row zz4)) (ex_nm _) s7_len (ex_lim _) (glob h hG))) rfl (fun b140 p140 => ?_)
      haveI := p140.2.one
      refine wpl_q (q_pure rfl) rfl <| wpl_q (q_pure rfl) rfl <| wpl_q (q_pure rfl) rfl ?_
      refine wpl_t (t_alloc Tryd.ti32 Rv.z.c rfl) rfl (fun b15 => ?_)
      refine wpl_t0 (t_stA Tryd.ti32 rfl rfl LenC.h OneC.h LenC.h) (fun _ => ?_)
      refine wpl_q (q_pure rfl) rfl <| wpl_nil <| ex_then <| wpc_seq <| wpc_region ?_
      refine wpl_q (q_build (cs := Rv.z.c) rfl built_rz) rfl ?_
      refine wpl_q (q_build (cs := v8s s7L) rfl built_s7) rfl ?_
      refine wpl_tp (t_callPT Tryd.hb12 rfl fun w h => frzS (rvSign Rv.z s7L 9 9 w (z_seen _) z_nm s7_len z_lim (glob h hG))) rfl (fun b146 p146 => ?_)
      haveI := p146.2.one
      refine wpl_q (q_pure rfl) rfl <| wpl_q (q_pure rfl) rfl <| wpl_q (q_pure rfl) rfl ?_
      refine wpl_t (t_alloc Tryd.ti32 Rv.z.c rfl) rfl (fun b17 => ?_)
      refine wpl_t0 (t_stA Tryd.ti32 rfl rfl LenC.h OneC.h LenC.h) (fun _ => ?_)
      refine wpl_q (q_pure rfl) rfl <| wpl_nil <| ex_then <| wpc_seq <| wpc_region ?_
      refine wpl_tp (t_callPT Tryd.hb14 rfl fun w h => frzD (decodeR nl [] w (seen_nil _ 0 _))) rfl (fun b150 p150 => ?_)
      haveI := p150.2.one
      have hd0 := decN p150.1
      refine wpl_q (q_pure rfl) rfl <| wpl_q (q_pure rfl) rfl <| wpl_q (q_pure rfl) rfl ?_
      refine wpl_t (t_alloc Tryd.ti32 Rv.z.c rfl) rfl (fun b19 => ?_)
      refine wpl_t0 (t_stA Tryd.ti32 rfl rfl LenC.h OneC.h LenC.h) (fun _ => ?_)
      refine wpl_q (q_pure rfl) rfl <| wpl_nil <| ex_then <| wpc_seq <| wpc_region ?_
      refine wpl_tp (t_callP1 Tryd.hb7 rfl fun w h => exampleR w) rfl (fun b154 p154 => ?_)
      haveI : OneC (exR b154).c := (ex_svs p154).one
      refine wpl_tp (t_callP1 Tryd.hb15 rfl fun w h => rvBodyB (exR b154) w (ex_seen (h.seen_row zz4)) (ex_nm _) (ex_lim _).ss (ex_lim _).nm) rfl (fun b155 p155 => ?_)
      refine wpl_q (q_pure rfl) rfl <| wpl_q (q_pure rfl) rfl <| wpl_q (q_pure rfl) rfl <| wpl_q (q_pure rfl) rfl <| wpl_q (q_pure rfl) rfl <| wpl_nil <| ex_then <| wpc_seq <| wpc_region <| wpl_q (q_pure rfl) rfl ?_
      refine wpl_tp (t_callPT Tryd.hb14 rfl fun w h => frzD (decodeR b155 (bdyB (exR b154)) w (h.seen_row zz4))) rfl (fun b160 p160 => ?_)
      haveI := p160.2.one
      have hdb := decB p160.1
      refine wpl_q (q_pure rfl) rfl <| wpl_q (q_pure rfl) rfl <| wpl_q (q_pure rfl) rfl ?_
      refine wpl_t (t_alloc Tryd.ti32 Rv.z.c rfl) rfl (fun b23 => ?_)
      refine wpl_t0 (t_stA Tryd.ti32 rfl rfl LenC.h OneC.h LenC.h) (fun _ => ?_)
      refine wpl_q (q_pure rfl) rfl <| wpl_nil <| ex_then <| wpc_seq ?_
      refine wpc_draw 47 zz7 (fun _ h => h.drew) ?_
      refine wpd_p 0 rfl zz7 trivial (q_pure rfl) rfl sk0 ?_
      refine wpd_p 1 rfl zz7 trivial (q_tru (q_eqI rfl rfl) rfl) rfl sk0 ?_
      refine wpd_p 2 rfl zz7 trivial (q_pure rfl) rfl sk0 ?_
      refine wpd_p 3 rfl zz7 ⟨_, rfl, rfl⟩ (q_pure rfl) rfl sk0 ?_
      refine wpd_p 4 rfl zz7 ⟨_, rfl, rfl⟩ (q_tru (q_eqI rfl rfl) (sn_00 b122)) rfl sk0 ?_
      refine wpd_p 5 rfl zz7 trivial (q_pure rfl) rfl sk0 ?_
      refine wpd_p 6 rfl zz7 trivial (q_pure rfl) rfl sk0 ?_
      refine wpd_q 7 rfl zz7 ⟨_, rfl, rfl⟩ (q_ldN Tryd.underlying32 rfl Tryd.ti32 rfl LenC.h) rfl (fun _ h => h) ?_
      refine wpd_q 8 rfl zz7 ⟨_, rfl, rfl⟩ (q_ldN Tryd.underlying43 rfl Tryd.ti43 rfl LenC.h) rfl (fun _ h => h) ?_
      refine wpd_t 9 rfl zz7 ⟨_, rfl, rfl⟩ (t_pur Tryd.hb16 rfl fun w h => rvVerify b124 (keyR s7L 0) (keyH 0) w (Mem.rvF h zz4) (nm_max kn.lim) (keyR_length _ _) kn.lim (glob h hG)) rfl (fun _ => sk0) (fun b172 => ?_)
      refine wpd_p 10 rfl zz7 ⟨_, rfl, rfl⟩ (q_tru (q_eqI rfl rfl) ((ver_eqv kn.eq _ _).trans (sgn_ver s7L (ex_us b122) okS00))) rfl sk0 ?_
      refine wpd_p 11 rfl zz7 trivial (q_pure rfl) rfl sk0 ?_
      refine wpd_p 12 rfl zz7 trivial (q_pure rfl) rfl sk0 ?_
      refine wpd_q 13 rfl zz7 ⟨_, rfl, rfl⟩ (q_ldN Tryd.underlying32 rfl Tryd.ti32 rfl LenC.h) rfl (fun _ h => h) ?_
      refine wpd_q 14 rfl zz7 ⟨_, rfl, rfl⟩ (q_ldN Tryd.underlying43 rfl Tryd.ti43 rfl LenC.h) rfl (fun _ h => h) ?_
      refine wpd_t 15 rfl zz7 ⟨_, rfl, rfl⟩ (t_pur Tryd.hb16 rfl fun w h => rvVerify (lessR b124 (slv b128.1 0 (min 1 b124.ss.length) 1) b128.2.1 b128.2.2) (keyR s7L 0) (keyH 0) w ⟨cutU (h.seen_row zz4), h.seen_row zz4, p124.1.2.1, h.seen_row zz4, p124.1.2.2⟩ (nm_max hll) (keyR_length _ _) hll (glob h hG)) rfl (fun _ => sk0) (fun b178 => ?_)
      refine wpd_p 16 rfl zz7 ⟨_, rfl, rfl⟩ (q_tru (q_eqI rfl rfl) (less_22 kn.eq _ _ _)) rfl sk0 ?_
      refine wpd_p 17 rfl zz7 trivial (q_pure rfl) rfl sk0 ?_
      refine wpd_p 18 rfl zz7 trivial (q_pure rfl) rfl sk0 ?_
      refine wpd_q 20 rfl zz7 ⟨_, rfl, rfl⟩ (q_ldN Tryd.underlying43 rfl Tryd.ti43 rfl LenC.h) rfl (fun _ h => h) ?_
      refine wpd_tp 19 rfl zz7 ⟨_, rfl, rfl⟩ (t_callP1 Tryd.hb7 rfl fun w h => exampleR w) rfl (fun _ => (fun w h => .inr (h.sub SubC.h SubC.h))) (fun b182 p182 => ?_)
      haveI : OneC (exR b182).c := (ex_svs p182).one
      refine wpd_t 21 rfl zz7 ⟨_, rfl, rfl⟩ (t_pur Tryd.hb16 rfl fun w h => rvVerify (exR b182) (keyR s7L 0) (keyH 0) w (ex_seen (h.seen_row zz4)) (ex_nm _) (keyR_length _ _) (ex_lim _) (glob h hG)) rfl (fun _ => (fun w h => .inr (h.sub SubC.h SubC.h))) (fun b184 => ?_)
      refine wpd_p 22 rfl zz7 ⟨_, rfl, rfl⟩ (q_tru (q_eqI rfl rfl) (ver_ex b182 _)) rfl (fun w h => .inr (h.sub SubC.h SubC.h)) ?_
      refine wpd_p 23 rfl zz7 trivial (q_pure rfl) rfl (fun w h => .inr (h.sub SubC.h SubC.h)) ?_
      refine wpd_p 24 rfl zz7 trivial (q_pure rfl) rfl (fun w h => .inr (h.sub SubC.h SubC.h)) ?_
      refine wpd_p 25 rfl zz7 ⟨_, rfl, rfl⟩ (q_build (cs := Rv.z.c) rfl built_rz) rfl (fun w h => .inr (h.sub SubC.h SubC.h)) ?_
      refine wpd_q 26 rfl zz7 ⟨_, rfl, rfl⟩ (q_ldN Tryd.underlying43 rfl Tryd.ti43 rfl LenC.h) rfl (fun w h => h.sub SubC.h SubC.h) ?_
      refine wpd_t 27 rfl zz7 ⟨_, rfl, rfl⟩ (t_pur Tryd.hb16 rfl fun w h => rvVerify Rv.z (keyR s7L 0) (keyH 0) w (z_seen _) z_nm (keyR_length _ _) z_lim (glob h hG)) rfl (fun _ => (fun w h => .inr (h.sub SubC.h SubC.h))) (fun b190 => ?_)
      refine wpd_p 28 rfl zz7 ⟨_, rfl, rfl⟩ (q_tru (q_eqI rfl rfl) (ver_z _ _)) rfl (fun w h => .inr (h.sub SubC.h SubC.h)) ?_
      refine wpd_p 29 rfl zz7 trivial (q_pure rfl) rfl (fun w h => .inr (h.sub SubC.h SubC.h)) ?_
      refine wpd_p 30 rfl zz7 trivial (q_pure rfl) rfl (fun w h => .inr (h.sub SubC.h SubC.h)) ?_
      refine wpd_p 31 rfl zz7 ⟨_, rfl, rfl⟩ (q_pure rfl) rfl (fun w h => .inr (h.sub SubC.h SubC.h)) ?_
      refine wpd_p 32 rfl zz7 ⟨_, rfl, rfl⟩ (q_tru (q_eqI rfl rfl) (sn_01 b138)) rfl (fun w h => .inr (h.sub SubC.h SubC.h)) ?_
      refine wpd_p 33 rfl zz7 trivial (q_pure rfl) rfl (fun w h => .inr (h.sub SubC.h SubC.h)) ?_
      refine wpd_p 34 rfl zz7 trivial (q_pure rfl) rfl (fun w h => .inr (h.sub SubC.h SubC.h)) ?_
      refine wpd_p 35 rfl zz7 ⟨_, rfl, rfl⟩ (q_pure rfl) rfl (fun w h => .inr (h.sub SubC.h SubC.h)) ?_
      refine wpd_p 36 rfl zz7 ⟨_, rfl, rfl⟩ (q_tru (q_eqI rfl rfl) sn_z9) rfl (fun w h => .inr (h.sub SubC.h SubC.h)) ?_
      refine wpd_p 37 rfl zz7 trivial (q_pure rfl) rfl (fun w h => .inr (h.sub SubC.h SubC.h)) ?_
      refine wpd_p 38 rfl zz7 trivial (q_pure rfl) rfl (fun w h => .inr (h.sub SubC.h SubC.h)) ?_
      refine wpd_p 39 rfl zz7 ⟨_, rfl, rfl⟩ (q_pure rfl) rfl (fun w h => .inr (h.sub SubC.h SubC.h)) ?_
      refine wpd_p 40 rfl zz7 ⟨_, rfl, rfl⟩ (q_tru (q_eqI rfl rfl) hd0) rfl (fun w h => .inr (h.sub SubC.h SubC.h)) ?_
      refine wpd_p 41 rfl zz7 trivial (q_pure rfl) rfl (fun w h => .inr (h.sub SubC.h SubC.h)) ?_
      refine wpd_p 42 rfl zz7 trivial (q_pure rfl) rfl (fun w h => .inr (h.sub SubC.h SubC.h)) ?_
      refine wpd_p 43 rfl zz7 ⟨_, rfl, rfl⟩ (q_pure rfl) rfl (fun w h => .inr (h.sub SubC.h SubC.h)) ?_
      refine wpd_p 44 rfl zz7 ⟨_, rfl, rfl⟩ (q_tru (q_eqI rfl rfl) hdb) rfl (fun w h => .inr (h.sub SubC.h SubC.h)) ?_
      refine wpd_p 45 rfl zz7 trivial (q_pure rfl) rfl (fun w h => .inr (h.sub SubC.h SubC.h)) ?_
      refine wpd_p 46 rfl zz7 trivial (q_pure rfl) rfl (fun w h => .inr (h.sub SubC.h SubC.h)) ?_
      refine wpd_done zz7 ?_
      refine ex_then <| wpc_seq <| wpc_region <| wpl_q (q_pure rfl) rfl <| wpl_on rfl rfl ?_
      refine wpl_t (t_pur (v := .bool true) Tryd.hb17 rfl fun w h => alive11 w) rfl (fun b210 => ?_)
      refine wpl_q (q_pure rfl) rfl <| wpl_q (q_pure rfl) rfl <| wpl_on rfl rfl <| wpl_q (q_pure rfl) rfl <| wpl_q (q_pure rfl) rfl <| wpl_q (q_pure rfl) rfl <| wpl_on rfl rfl <| wpl_q (q_pure rfl) rfl <| wpl_q (q_pure rfl) rfl <| wpl_q (q_pure rfl) rfl <| wpl_nil <| ex_then ?_
      refine wpc_ret ?_
      refine ret1 (.inl rfl) rfl rfl ?_
      exact fun w h => ⟨by first | rfl | simp, h.below⟩
end Go.Proofs.YtgnablliekgbgaaDoor
