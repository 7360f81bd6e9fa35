/- A walk through a value. -/
import Derived.Test.YtommkigkkeailaaON
namespace Go.Proofs.Ytommkigkkeailaa
set_option linter.unusedSimpArgs false
set_option linter.unusedVariables false
open Go Go.PL Go.RowKit

section
variable {P : Program} {R : World → Prop} {L : Slots} {Q : Exit → Act → World → Prop}
def AgainD (k : Nat) {ι : Type} (ds : ι → List Deferred) (Li : ι → Slots) (Ri : ι → World → Prop) (μ : ι → Nat) (x : ι) (a : Act) (w : World) : Prop := ∃ y, Sl ⟨k, ds y⟩ a (Li y) ∧ Ri y w ∧ μ y < μ x
theorem wpc_loopd {k : Nat} {c : Code} {ι : Type} (ds : ι → List Deferred) (Li : ι → Slots) (Ri : ι → World → Prop) (μ : ι → Nat) (x0 : ι) (h0 : subs L (Li x0)) (hR : ∀ w, R w → Ri x0 w)
    (round : ∀ x, WPC P (Exit.then (AgainD k ds Li Ri μ x) Q) ⟨k, ds x⟩ (Ri x) (Li x) c) : WPC P Q ⟨k, ds x0⟩ R L (.loop c) := by
  intro a w hs hr
  have key : ∀ m x a w, μ x = m → Sl ⟨k, ds x⟩ a (Li x) → Ri x w → ∀ (b : Frame) (k : List Item) (cs : List Frame),
      ∃ e a' w', Q e a' w' ∧ Arrives P (lone (b.at a (.code c :: .inLoop c :: k)) cs w) b k cs e a' w' := by
    intro m
    induction m using Nat.strongRecOn with
    | _ m ih =>
      intro x a w hm hs hr b k cs
      obtain ⟨e, a₁, w₁, hq, harr⟩ := round x a w hs hr b (.inLoop c :: k) cs
      cases e with
      | normal =>
        obtain ⟨y, hs1, hr1, hlt⟩ := hq
        obtain ⟨e₂, a₂, w₂, hq₂, harr₂⟩ := ih (μ y) (hm ▸ hlt) y a₁ w₁ rfl hs1 hr1 b k cs
        exact ⟨e₂, a₂, w₂, hq₂, .of_steps (Steps.trans harr (.one step_inLoop)) harr₂⟩
      | exit id => exact ⟨_, a₁, w₁, hq, .pass (x := .inLoop c) rfl (fun _ _ => .inl (by simp)) harr⟩
      | goto l => exact ⟨_, a₁, w₁, hq, .pass (x := .inLoop c) rfl (fun _ _ => .inl (by simp)) harr⟩
      | ret => exact ⟨_, a₁, w₁, hq, .pass (x := .inLoop c) rfl (fun _ _ => .inl (by simp)) harr⟩
      | panic ch => exact ⟨_, a₁, w₁, hq, .pass (x := .inLoop c) rfl (fun _ _ => .inl (by simp)) harr⟩
      | outgrown => exact ⟨_, a₁, w₁, hq, .pass (x := .inLoop c) rfl (fun _ _ => .inl (by simp)) harr⟩
  intro b k cs
  obtain ⟨e, a', w', hq, harr⟩ := key _ x0 a w rfl (hs.weaken (subs_get h0)) (hR w hr) b k cs
  exact ⟨e, a', w', hq, .of_steps (.one step_loop) harr⟩
theorem ex_againD {k : Nat} {d : List Deferred} {ι : Type} {ds : ι → List Deferred} {Li : ι → Slots} {Ri : ι → World → Prop} {μ : ι → Nat} {x : ι} (y : ι) (hl : subs L (Li y)) (hr : ∀ w, R w → Ri y w) (hm : μ y < μ x) (hd : d = ds y := by rfl) :
    EX (Exit.then (AgainD k ds Li Ri μ x) Q) .normal ⟨k, d⟩ R L := by
  subst hd
  exact fun _ w hs h => ⟨y, hs.weaken (subs_get hl), hr w h, hm⟩
abbrev obD (D : Nat) : Ent := .obj D (.deferred (some []))
theorem leaves_marks {fn : Func} {tmps : Array Value} {post : Ending → World → Prop} {w0 : World} {Ln : List Nat} : ∀ (Ds : List Nat) (w : World), Mem w0 Ln (Ds.map obD) [] w → (∀ w', Mem w0 Ln [] [] w' → LeavesInM Fence.wide 0 P fn tmps post [] .returning w') → LeavesInM Fence.wide 0 P fn tmps post (Ds.map Go.PL.mark) .returning w
  | [], w, h, hq => hq w h
  | D :: Ds, w, h, hq => by
    have hD : w.heap[D]? = some (.deferred (some [])) := h.own _ (List.mem_cons_self ..)
    exact ⟨by simp, .inl ⟨D, _, rfl, run_takeDeferred hD, leaves_marks Ds _ ((h.putO .here).sub (.drop (Sub.refl _)) .nil) hq⟩⟩
theorem ex_marks {fn : Func} {post : Ending → World → Prop} {m : Nat} {Ds : List Nat} {e : Exit} {w0 : World} {Ln : List Nat} (he : e = .ret ∨ e = .normal)
    (h : EX (bodyPost P fn post) e ⟨m, []⟩ (Mem w0 Ln [] []) L) : EX (NPQ (bodyPostM Fence.wide 0 P fn post)) e ⟨m, Ds.map Go.PL.mark⟩ (Mem w0 Ln (Ds.map obD) []) L := by
  intro a w hs hw
  have hd : a.defers = Ds.map Go.PL.mark := hs.defers
  have key : ∀ w', Mem w0 Ln [] [] w' → LeavesInM Fence.wide 0 P fn a.tmps post [] .returning w' := fun w' h' => by
    have h1 := h { tmps := a.tmps, defers := [] } w' ⟨hs.size, rfl, hs.tmp⟩ h'
    rcases he with rfl | rfl
    · obtain ⟨_, v, hv, hp⟩ := h1
      exact ⟨v, hv, hp⟩
    · obtain ⟨_, v, hv, hp⟩ := h1
      exact ⟨v, hv, hp⟩
  have hl := leaves_marks Ds w hw key
  rcases he with rfl | rfl
  · show LeavesInM _ _ _ _ _ _ a.defers _ _
    rw [hd]; exact hl
  · show LeavesInM _ _ _ _ _ _ a.defers _ _
    rw [hd]; exact hl
end
mutual
/-- The values in turn, each ahead of those in it, and how deep they lie. -/
def ord : HT → Nat → List (HT × Nat)
  | .nd g v bs u l, d => (.nd g v bs u l, d) :: ordL l (d + 1)
def ordL : List HT → Nat → List (HT × Nat)
  | [], _ => []
  | x :: l, d => ord x d ++ ordL l d
end
theorem ordL_append (a b : List HT) (d : Nat) : ordL (a ++ b) d = ordL a d ++ ordL b d := by
  induction a with
  | nil => rfl
  | cons x a ih => rw [List.cons_append, ordL, ih, ordL, List.append_assoc]
theorem ordL_take {l : List HT} {i d : Nat} (h : i < l.length) : ordL (l.take (i + 1)) d = ordL (l.take i) d ++ ord (l.getD i HT.z) d := by
  rw [take_succD HT.z h, ordL_append, ordL, ordL, List.append_nil]
theorem ordL_pre {l : List HT} {i d : Nat} (h : i ≤ l.length) : ordL (l.take i) d <+: ordL l d := by
  have e : l = l.take i ++ l.drop i := (List.take_append_drop i l).symm
  exact ⟨ordL (l.drop i) d, by rw [← ordL_append, ← e]⟩
theorem ord_seen {r : Rd} : ∀ {t : HT}, HSeen r t → ∀ {d : Nat} {y : HT × Nat}, y ∈ ord t d → HSeen r y.1 := by
  intro t
  induction t using HT.ind with
  | _ g v bs u l ih =>
    intro h d y hy
    rw [ord] at hy
    rcases List.mem_cons.1 hy with rfl | hy
    · exact h
    · have key : ∀ (m : List HT), (∀ x ∈ m, x ∈ l) → y ∈ ordL m (d + 1) → HSeen r y.1 := by
        intro m
        induction m with
        | nil => intro _ h; cases h
        | cons x m ih2 =>
          intro hm h2
          rw [ordL, List.mem_append] at h2
          rcases h2 with h2 | h2
          · exact ih x (hm x (List.mem_cons_self ..)) (HSeenL_iff.1 h.2.2 x (hm x (List.mem_cons_self ..))) h2
          · exact ih2 (fun x hx => hm x (List.mem_cons_of_mem _ hx)) h2
      exact key l (fun _ hx => hx) hy
def encO (x : HT × Nat) (_ : Unit) : Array Value := #[.agg x.1.c.toArray, .int .i64 ((x.2 : Nat) : Int)]
theorem ord_pre {g : UInt8} {v u : Value} {bs : List UInt8} {l : List HT} {i d : Nat} (h : i < l.length) {q : List (HT × Nat)} (hq : q <+: ord (l.getD i HT.z) (d + 1)) : ((HT.nd g v bs u l, d) :: ordL (l.take i) (d + 1)) ++ q <+: ord (.nd g v bs u l) d := by
  obtain ⟨r, hr⟩ := hq
  obtain ⟨r2, hr2⟩ := ordL_pre (l := l) (i := i + 1) (d := d + 1) (by omega)
  refine ⟨r ++ r2, ?_⟩
  rw [ord, ← hr2, ordL_take h, ← hr]
  simp only [List.cons_append, List.append_assoc]

end Go.Proofs.Ytommkigkkeailaa
