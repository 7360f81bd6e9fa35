/- Values as arguments. -/
import Derived.Test.YtommkigkkeailaaOE
namespace Go.Proofs.Ytommkigkkeailaa
set_option linter.unusedSimpArgs false
set_option linter.unusedVariables false
open Go Go.PL Go.RowKit

variable {H : Type} {enc : TypeId × Value → H} {w : World} {base : Nat} {sp : Nat → Bool} {held : Bool}
theorem dels_lt {d e : DataW H} (h : e ∈ dels d) : SizeOf.sizeOf e < SizeOf.sizeOf d := by
  cases d with
  | slice es r =>
    have := List.sizeOf_lt_of_mem (show e ∈ es from h)
    rw [DataW.slice.sizeOf_spec]; omega
  | _ => cases h
theorem mem_weightsAll {P : Program} {e : TypeId} {x : Nat} {d : DataW H} : ∀ {ds : List (DataW H)}, d ∈ ds → x ∈ d.weights P e → x ∈ DataW.weightsAll P e ds
  | y :: ds, h, hx => by
    rw [DataW.weightsAll, List.mem_append]
    rcases List.mem_cons.1 h with rfl | h
    · exact .inl hx
    · exact .inr (mem_weightsAll h hx)
theorem mem_weightsEach {P : Program} {t : TypeId} {x : Nat} {d : DataW H} : ∀ {ts : List TypeId} {ds : List (DataW H)} (i : Nat), ts[i]? = some t → ds[i]? = some d → x ∈ d.weights P t → x ∈ DataW.weightsEach P ts ds
  | [], _, i, h, _, _ => by cases h
  | _ :: _, [], i, _, h, _ => by cases h
  | t' :: ts, d' :: ds, 0, h1, h2, hx => by
    cases h1; cases h2
    rw [DataW.weightsEach, List.mem_append]; exact .inl hx
  | t' :: ts, d' :: ds, i + 1, h1, h2, hx => by
    rw [DataW.weightsEach, List.mem_append]
    exact .inr (mem_weightsEach i h1 h2 hx)
theorem oct_list {r : Rd} {β : Type} {Wc : DataW H → Prop} : ∀ (qs : List (β × List Value × DataW H)), (∀ q ∈ qs, ∃ t : HT, q.2.1 = t.c ∧ HSeen r t ∧ (Wc q.2.2 → Lens t)) → ∃ l : List HT, hcs l = (qs.map (·.2.1)).flatten ∧ l.length = qs.length ∧ HSeenL r l ∧ ((∀ q ∈ qs, Wc q.2.2) → LensL l)
  | [], _ => ⟨[], rfl, rfl, trivial, fun _ => trivial⟩
  | q :: qs, h => by
    obtain ⟨t, h1, h2, h3⟩ := h q (List.mem_cons_self ..)
    obtain ⟨l, g1, g2, g3, g4⟩ := oct_list qs (fun q hq => h q (List.mem_cons_of_mem _ hq))
    refine ⟨t :: l, ?_, by rw [List.length_cons, g2]; rfl, ⟨h2, g3⟩, fun hw => ⟨h3 (hw q (List.mem_cons_self ..)), g4 fun q hq => hw q (List.mem_cons_of_mem _ hq)⟩⟩
    rw [List.map_cons, List.flatten_cons, ← g1, h1]; rfl
theorem bytes_lens {t e : TypeId} {d : DataW H} {n : Nat} (hu : Try.prog.underlying t = some (.slice e)) (hb : Try.prog.bytesOf e = 1) (h : (dels d).length = n) (hw : ∀ x ∈ d.weights Try.prog t, x ≤ reachBytes) : n ≤ 140737488351232 := by
  cases d with
  | slice es r =>
    have h1 := hw ((es.length + r.length) * Try.prog.bytesOf e) (by rw [DataW.weights, hu]; exact List.mem_cons_self ..)
    rw [hb, Nat.mul_one] at h1
    have h : es.length = n := h
    have h1 : es.length + r.length ≤ 140737488351232 := h1
    omega
  | _ =>
    have h : 0 = n := h
    omega
theorem kid_weights {t e : TypeId} {d q : DataW H} (hu : Try.prog.underlying t = some (.slice e)) (hq : q ∈ dels d) (hw : ∀ x ∈ d.weights Try.prog t, x ≤ reachBytes) : ∀ x ∈ q.weights Try.prog e, x ≤ reachBytes := by
  cases d with
  | slice es r =>
    intro x hx
    refine hw x ?_
    rw [DataW.weights, hu]
    exact List.mem_cons_of_mem _ (List.mem_append_left _ (mem_weightsAll hq hx))
  | _ => cases hq
theorem oct_open : ∀ (k : Nat) (d : DataW H) (n : Nat) (c : List Value) (ps : List MemPlace), SizeOf.sizeOf d < k → DataW.trod enc Try.prog w base sp held n 25 c = some (d, ps) →
    ∃ t : HT, c = t.c ∧ HSeen w.cell? t ∧ ((∀ x ∈ d.weights Try.prog 25, x ≤ reachBytes) → Lens t)
  | 0, _, _, _, _, hk, _ => by omega
  | k + 1, d, n, c, ps, hk, h => by
    obtain ⟨xs, m, _, hx, hl, hlen, hf⟩ := DataW.trod_struct Try.underlying25 h
    obtain ⟨rfl, _⟩ := Prod.mk.inj hx
    have hl : c.length = 3 := hl.trans (by kernel_rfl)
    have hlen : xs.length = 3 := hlen
    obtain ⟨x0, x1, x2, rfl⟩ : ∃ a b c, xs = [a, b, c] := by
      match xs, hlen with
      | [a, b, c], _ => exact ⟨a, b, c, rfl⟩
    obtain ⟨c0, c1, c2, rfl⟩ : ∃ a b e, c = [a, b, e] := by
      match c, hl with
      | [a, b, e], _ => exact ⟨a, b, e, rfl⟩
    have f0 : DataW.trod enc Try.prog w base sp held m 5 [c0] = some x0 := hf 0 _ rfl
    have f1 : DataW.trod enc Try.prog w base sp held m 22 [c1] = some x1 := hf 1 _ rfl
    have f2 : DataW.trod enc Try.prog w base sp held m 23 [c2] = some x2 := hf 2 _ rfl
    obtain ⟨tg, e0⟩ := opens_u8 Try.underlying5 _ _ _ f0
    obtain ⟨⟨bv, bs⟩, e1, s1, l1⟩ := opens_u8s Try.underlying22 Try.underlying5 (by kernel_rfl) _ _ _ f1
    obtain ⟨⟨lv, qs⟩, e2, s2, q2, l2⟩ := opens_slice (sz := 3) (R := fun (_ : Unit) c d => ∃ n ps, DataW.trod enc Try.prog w base sp held n 25 c = some (d, ps)) Try.underlying23 (by kernel_rfl) (fun n c y h => ⟨(), n, y.2, h⟩) _ _ _ f2
    dsimp only at e0 e1 s1 l1 e2 s2 q2 l2
    have hk2 : SizeOf.sizeOf x2.1 < k := by
      have h1 := List.sizeOf_lt_of_mem (show x2.1 ∈ [x0.1, x1.1, x2.1] by simp)
      have h2 : SizeOf.sizeOf (DataW.agg [x0.1, x1.1, x2.1]) = 1 + SizeOf.sizeOf [x0.1, x1.1, x2.1] := DataW.agg.sizeOf_spec _
      have hk : SizeOf.sizeOf (DataW.agg [x0.1, x1.1, x2.1]) < k + 1 := hk
      omega
    have hmem : ∀ q ∈ qs, q.2.2 ∈ dels x2.1 := fun q hq => by rw [l2]; exact List.mem_map_of_mem hq
    obtain ⟨l, g1, g2, g3, g4⟩ := oct_list (r := w.cell?) (Wc := fun d => ∀ x ∈ d.weights Try.prog 25, x ≤ reachBytes) qs (fun q hq => by
      obtain ⟨⟨n', ps', ht⟩, _⟩ := q2 q hq
      exact oct_open k q.2.2 n' _ ps' (Nat.lt_trans (dels_lt (hmem q hq)) hk2) ht)
    refine ⟨.nd tg bv bs lv l, ?_, ⟨s1, by rw [g2, g1]; exact s2, g3⟩, fun hw => ⟨?_, g4 fun q hq => ?_⟩⟩
    · cases e0; cases e1; cases e2; rfl
    all_goals
      have hw2 : ∀ x ∈ DataW.weightsEach Try.prog [5, 22, 23] [x0.1, x1.1, x2.1], x ≤ reachBytes := fun x hx => hw x (by
        show x ∈ (DataW.agg [x0.1, x1.1, x2.1]).weights _ _
        rw [DataW.weights, Try.underlying25]; exact hx)
    · exact bytes_lens Try.underlying22 (by kernel_rfl) l1 (fun x hx => hw2 x (mem_weightsEach 1 rfl rfl hx))
    · exact kid_weights Try.underlying23 (hmem q hq) (fun x hx => hw2 x (mem_weightsEach 2 rfl rfl hx))
theorem oct_arg {v : Value} {d : DataW H} {ps : List MemPlace} (h : DataW.Trod enc Try.prog w base sp held 25 v d ps) : ∃ t : HT, v.cells.toList = t.c ∧ HSeen w.cell? t ∧ ((∀ x ∈ d.weights Try.prog 25, x ≤ reachBytes) → Lens t) := by
  obtain ⟨n, hn⟩ := h
  exact oct_open _ d n _ ps (Nat.lt_succ_self _) hn

end Go.Proofs.Ytommkigkkeailaa
