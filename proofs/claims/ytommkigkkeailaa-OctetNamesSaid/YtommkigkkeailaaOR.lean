/- Ranges over a value. -/
import Derived.Test.YtommkigkkeailaaOQ
namespace Go.Proofs.Ytommkigkkeailaa
set_option linter.unusedSimpArgs false
set_option linter.unusedVariables false
open Go Go.PL Go.RowKit

theorem allIter : ∀ (t : HT) (d pa pd : Nat) (w : World), w.heap[pa]? = some (.cells t.c.toArray 25 (0, 0)) → w.heap[pd]? = some (.cells #[.int .i64 ((d : Nat) : Int)] 3 (0, 0)) → pa ≠ pd → d + t.tr.dep ≤ 1000000 → HSeen w.cell? t →
    IterN Try.prog 61 #[.pointer (some ⟨pa, 0, none⟩), .pointer (some ⟨pd, 0, none⟩)] encO (fun w => HSeen w.cell? t) (ord t d) [pa, pd] w := by
  intro t
  induction t using HT.ind with
  | _ tg bv bs lv l ih =>
    intro d pa pd w h1 h2 hne hd _ yl J K hst hinv hsk hy hJ0
    exact all1_step yl pa pd (.nd tg bv bs lv l) d J K w hst hinv hsk hy hJ0 h1 h2 hne hd (fun x hx d pa pd w a b c e f => ih x hx d pa pd w a b c e f)
theorem Mem.join {w0 u w : World} {Ln T : List Nat} {Ms N : List Ent} (h : Mem w0 Ln Ms [] u) (hT : ∀ j, j ∈ T → w0.heap.size ≤ j ∧ inM Ms j = false) (h2 : Mem u T N [] w) : Mem w0 Ln (N ++ Ms) [] w := by
  have hc := h.chg (h2.sub .nil .nil) hT
  refine ⟨hc.os, hc.tape, hc.output, hc.size, hc.old, fun e he => ?_, fun e he k hk => ?_, List.pairwise_append.2 ⟨h2.apart, hc.apart, fun e he f hf k hk hfk => ?_⟩, fun _ hs => (by cases hs)⟩
  · rcases List.mem_append.1 he with he | he
    · exact h2.own e he
    · exact hc.own e he
  · rcases List.mem_append.1 he with he | he
    · rcases h2.new e he k hk with h1 | h1
      · exact .inl (Nat.le_trans h.size h1)
      · exact .inl (hT k h1).1
    · exact hc.new e he k hk
  · have hlt := Ent.lt (h.own f hf) hfk
    rcases h2.new e he k hk with h1 | h1
    · omega
    · exact inM_not (hT k h1).2 f hf hfk
def TopJ {α σ : Type} (w0 : World) (Ln : List Nat) (M : σ → List Ent) (g : List α → σ → Prop) (T : List Nat) (pre : List α) (w : World) : Prop := ∃ s, g pre s ∧ Mem w0 Ln (M s) [] w ∧ ∀ j, j ∈ T → w0.heap.size ≤ j ∧ inM (M s) j = false ∧ j < w.heap.size
theorem top_stab {α σ : Type} {w0 : World} {Ln : List Nat} {M : σ → List Ent} {g : List α → σ → Prop} : StabJ (TopJ w0 Ln M g) := by
  rintro T T' pre w1 w2 ⟨s, hg, h, hT⟩ hc hT'
  refine ⟨s, hg, h.chg hc fun k hk => ⟨(hT k hk).1, (hT k hk).2.1⟩, fun j hj => ?_⟩
  obtain ⟨h1, h2⟩ := hT' j hj
  rcases h1 with h1 | h1
  · exact ⟨(hT j h1).1, (hT j h1).2.1, h2⟩
  · refine ⟨Nat.le_trans h.size h1, ?_, h2⟩
    cases hm : inM (M s) j
    · rfl
    · obtain ⟨e, he, hn⟩ := inM_iff.1 hm
      have := Ent.lt (h.own e he) hn
      omega
theorem inM_apart {A B : List Ent} {j : Nat} (h : (A ++ B).Pairwise fun e f => ∀ k, e.num = some k → f.num ≠ some k) (hj : j ∈ nums A) : inM B j = false := by
  obtain ⟨e, he, hn⟩ := mem_nums.1 hj
  cases hm : inM B j
  · rfl
  · obtain ⟨f, hf, hfn⟩ := inM_iff.1 hm
    exact absurd hfn ((List.pairwise_append.1 h).2.2 e he f hf j hn)
/-- **A range over such an iterator**, by a function that owns M s. -/
theorem wpc_rangeT {P : Program} {Q : Exit → Act → World → Prop} {gx : Operand} {ps : Array Tmp} {assign body : Code} {k : Nat} {ds : List Deferred} {L : Slots} {w0 : World} {Ln : List Nat} {S : List Fact} {α ι ρ σ β : Type} {gf : FuncId} {lb : Array Value}
    {encs : α → ι → Array Value} {Inv : World → Prop} {xs : List α} (E0 : List Ent) (M : σ → List Ent) (g : List α → σ → Prop) (s0 : σ) (pr : ρ → Prop) (Mr : ρ → List Ent) (Ma : α → ι → β → List Ent) (L1 : α → ι → β → Slots)
    (hg : ev L gx = some (.func (.func gf) #[] lb)) (hbd : HasBody P gf) (h0 : g [] s0)
    (hE0 : ∀ w, Mem w0 Ln (E0 ++ M s0) S w → ∀ k, k ∈ nums E0 → w0.heap.size ≤ k)
    (hit : ∀ wb w, Mem wb (nums E0) E0 [] w → Inv w → IterN P gf lb encs Inv xs (nums E0) w) (hInv : ∀ pre s w, g pre s → Mem w0 Ln (M s) [] w → Inv w)
    (hps : ∀ x i, (encs x i).size = ps.size) (hpk : ∀ p ∈ ps.toList, p < k)
    (hassign : ∀ (l : Nat) (x : α) (i : ι) (w1 : World) (K : Act → World → Prop), x ∈ xs → (∀ b a w, Sl ⟨k, []⟩ a (L1 x i b) → Mem w1 [] (Ma x i b) [] w → K a w) →
      WPCI (Fence.wide.inRound l) P (Exit.then K (fun _ _ _ => False)) ⟨k, []⟩ (Mem w1 [] [] []) (addSlots ps.toList (encs x i).toList L) assign)
    (hbody : ∀ (l : Nat) (pre : List α) (x : α) (i : ι) (s : σ) (b : β) (w1 : World), g pre s → (pre ++ [x]) <+: xs → Mem w0 Ln (Ma x i b ++ M s) [] w1 →
      WPCI (Fence.wide.inRound l) P (RoundPostS (fun w' => ∃ s', g (pre ++ [x]) s' ∧ Mem w1 (nums (Ma x i b ++ M s)) (M s') [] w') (fun c w' => c = .ret ∧ ∃ r, pr r ∧ Mem w1 (nums (Ma x i b ++ M s)) (Mr r) [] w')) ⟨k, []⟩ (Mem w1 (nums (Ma x i b ++ M s)) (Ma x i b ++ M s) []) (L1 x i b) body)
    (hdone : ∀ D s, g xs s → EX Q .normal ⟨k, Go.PL.mark D :: ds⟩ (Mem w0 Ln (Ent.obj D (.deferred (some [])) :: M s) []) L)
    (hstop : ∀ D r, pr r → WPC P Q ⟨k, Go.PL.mark D :: ds⟩ (Mem w0 Ln (Ent.obj D (.deferred (some [])) :: Mr r) []) L .ret) :
    WPC P Q ⟨k, ds⟩ (Mem w0 Ln (E0 ++ M s0) S) L (.rangeFunc gx ps assign body) := by
  intro a w hs hr
  have hr0 := List.pairwise_append.1 hr.apart
  refine wpc_rangeN (encs := encs) (Inv := Inv) (xs := xs) (β := β) (J := TopJ w0 Ln M g) (K := fun T w => TopJ w0 Ln Mr (fun (_ : List α) r => pr r) T [] w) (wb := w) (Ln := nums E0) (S := []) E0 [] [] Ma L1 top_stab (stabJ_T top_stab []) ?_ ?_ hg hbd ?_ hps hpk hassign ?_ ?_ ?_ a w hs ?_
  · rintro T pre w1 ⟨s, h1, h2, _⟩
    exact hInv pre s w1 h1 h2
  · exact ⟨s0, h0, hr.sub (sub_app _ _) .nil, fun j hj => ⟨hE0 w hr j hj, inM_apart hr.apart hj, (by
      obtain ⟨e, he, hn⟩ := mem_nums.1 hj
      exact Ent.lt (hr.own e (List.mem_append_left _ he)) hn)⟩⟩
  · intro w1 h1 hI
    rw [List.append_nil] at h1
    exact hit w w1 h1 hI
  · rintro l pre x i b w1 LO ⟨s, h1, h2, h3⟩ hpre a1 w2 hs1 hm
    rw [List.nil_append] at h3 hm
    have hAll := Mem.join h2 (fun j hj => ⟨(h3 j hj).1, (h3 j hj).2.1⟩) hm
    have hU : Mem w0 Ln (LO ++ (Ma x i b ++ M s)) [] w2 := hAll.perm (by
      rw [List.append_assoc]; exact List.perm_append_comm_assoc _ _ _)
    have hUs : Mem w0 Ln (Ma x i b ++ M s) [] w2 := hU.sub (sub_app _ _) .nil
    refine wpIn_mono (hbody l pre x i s b w2 h1 hpre hUs a1 w2 hs1 (Mem.startL w2 hUs.own hUs.apart)) ?_
    have fin : ∀ {M' : List Ent} {w3 : World}, Mem w2 (nums (Ma x i b ++ M s)) M' [] w3 → Mem w0 Ln M' [] w3 ∧ (∀ j, j ∈ nums LO → w0.heap.size ≤ j ∧ inM M' j = false ∧ j < w3.heap.size) ∧ Mem w3 (nums LO) ([] ++ LO) [] w3 := fun {M'} {w3} h => by
      have hF := hU.framed h
      refine ⟨hF.sub (sub_app _ _) .nil, fun j hj => ⟨?_, inM_apart hF.apart hj, ?_⟩, Mem.startL w3 (fun e he => hF.own e (List.mem_append_left _ he)) (List.pairwise_append.1 hF.apart).1⟩
      · obtain ⟨e, he, hn⟩ := mem_nums.1 hj
        exact (h3 j (mem_nums.2 ⟨e, List.mem_append_right _ (by simpa using he), hn⟩)).1
      · obtain ⟨e, he, hn⟩ := mem_nums.1 hj
        exact Ent.lt (hF.own e (List.mem_append_left _ he)) hn
    rintro e a3 w3 hp
    cases e with
    | normal =>
      obtain ⟨s', hg', hm'⟩ : ∃ s', g (pre ++ [x]) s' ∧ Mem w2 (nums (Ma x i b ++ M s)) (M s') [] w3 := hp
      obtain ⟨f1, f2, f3⟩ := fin hm'
      exact ⟨w3, nums LO, ⟨s', hg', f1, f2⟩, f3⟩
    | ret =>
      obtain ⟨_, r, hg', hm'⟩ : Code.ret = .ret ∧ ∃ r, pr r ∧ Mem w2 (nums (Ma x i b ++ M s)) (Mr r) [] w3 := hp
      obtain ⟨f1, f2, f3⟩ := fin hm'
      exact ⟨rfl, w3, nums LO, ⟨r, hg', f1, f2⟩, f3⟩
    | exit id => exact (Code.noConfusion (hp : Code.exit id = .ret ∧ _).1)
    | goto t => exact (hp : False).elim
    | panic ch => exact (hp : False).elim
    | outgrown => exact (hp : False).elim
  · rintro D u T ⟨s, h1, h2, h3⟩ a1 w1 hs1 hm
    exact hdone D s h1 a1 w1 hs1 (Mem.join h2 (fun j hj => ⟨(h3 j hj).1, (h3 j hj).2.1⟩) hm)
  · rintro D u T ⟨r, h1, h2, h3⟩ a1 w1 hs1 hm
    exact hstop D r h1 a1 w1 hs1 (Mem.join h2 (fun j hj => ⟨(h3 j hj).1, (h3 j hj).2.1⟩) hm)
  · rw [List.append_nil]; exact Mem.startL w (fun e he => hr.own e (List.mem_append_left _ he)) hr0.1

end Go.Proofs.Ytommkigkkeailaa
