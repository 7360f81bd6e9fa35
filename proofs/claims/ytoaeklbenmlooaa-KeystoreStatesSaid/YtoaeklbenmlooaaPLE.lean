/- '==' on arrays and structs of numbers, bools and strings: true just where the cells are the same. -/
import Derived.Test.YtoaeklbenmlooaaPLV
import Derived.ChangeKeysEq
import Derived.Laws.StructEq
namespace Go.PL
set_option linter.unusedSimpArgs false
set_option linter.unusedVariables false
open Go Go.RowKit
section
variable {P : Program}

def mkV (agg : Bool) (cs : List Value) : Value := if agg then .agg cs.toArray else cs.headD undef

/-- Values of type t with these cells are compared by their cells. -/
def EqC (P : Program) (dp : Nat) (t : TypeId) (agg : Bool) (sz : Nat) (W : List Value → Prop) : Prop :=
  (∀ w, (isAgg t).run P w = .ok agg w) ∧ (∀ w, (sizeOf t).run P w = .ok sz w) ∧ (agg = false → sz = 1) ∧ (∀ cs, W cs → cs.length = sz) ∧
  ∀ d, dp ≤ d → ∀ cs ds, W cs → W ds → ∃ r : Bool, (∀ w, (Op.equalIn d t (mkV agg cs) (mkV agg ds)).run P w = .ok r w) ∧ (r = true ↔ cs = ds)

def IntCell (k : IntKind) (cs : List Value) : Prop := ∃ a : Int, cs = [.int k a]
def BoolCell (cs : List Value) : Prop := ∃ a : Bool, cs = [.bool a]
def StrCell (cs : List Value) : Prop := ∃ a : ByteArray, cs = [.string a]

theorem eqc_int {t : TypeId} {k : IntKind} {z : Value} {by_ : Nat} (hu : P.underlying t = some (.int k)) (ht : TyI P t z 1 by_) : EqC P 1 t false 1 (IntCell k) := by
  refine ⟨fun w => run_agg hu w, fun w => run_sz ht w, fun _ => rfl, ?_, ?_⟩
  · rintro cs ⟨a, rfl⟩; rfl
  · rintro d hd cs ds ⟨a, rfl⟩ ⟨b, rfl⟩
    obtain ⟨d, rfl⟩ : ∃ m, d = m + 1 := ⟨d - 1, by omega⟩
    exact ⟨a == b, fun w => run_equalIn_int w d t k k a b hu, by simp⟩
theorem eqc_bool {t : TypeId} {z : Value} {by_ : Nat} (hu : P.underlying t = some .bool) (ht : TyI P t z 1 by_) : EqC P 1 t false 1 BoolCell := by
  refine ⟨fun w => run_agg hu w, fun w => run_sz ht w, fun _ => rfl, ?_, ?_⟩
  · rintro cs ⟨a, rfl⟩; rfl
  · rintro d hd cs ds ⟨a, rfl⟩ ⟨b, rfl⟩
    obtain ⟨d, rfl⟩ : ∃ m, d = m + 1 := ⟨d - 1, by omega⟩
    exact ⟨a == b, fun w => run_equalIn_bool' w d t a b hu, by simp⟩

theorem part_run {t : TypeId} {agg : Bool} {sz : Nat} (ha : ∀ w, (isAgg t).run P w = .ok agg w) (hs : ∀ w, (sizeOf t).run P w = .ok sz w) (h1 : agg = false → sz = 1) {cs : List Value} {off : Nat} (hin : off + sz ≤ cs.length) (hpos : 0 < sz ∨ agg = true) (w : World) :
    (part t cs.toArray off).run P w = .ok (mkV agg ((cs.drop off).take sz)) w := by
  cases agg with
  | true => simp [part, ha, hs, mkV]
  | false =>
    have := h1 rfl
    subst this
    have hlt : off < cs.length := by omega
    have e : (cs.drop off).take 1 = [cs[off]] := by
      rw [List.drop_eq_getElem_cons hlt]; rfl
    simp [part, ha, mkV, hlt, e]

theorem take_drop_split {cs ds : List Value} {off sz : Nat} (hl : cs.length = ds.length) : cs.drop off = ds.drop off ↔ (cs.drop off).take sz = (ds.drop off).take sz ∧ cs.drop (off + sz) = ds.drop (off + sz) := by
  constructor
  · intro h
    refine ⟨by rw [h], ?_⟩
    rw [← List.drop_drop, ← List.drop_drop, h]
  · rintro ⟨h1, h2⟩
    rw [← List.take_append_drop sz (cs.drop off), ← List.take_append_drop sz (ds.drop off), h1, List.drop_drop, List.drop_drop, h2]

/-- Fields, one behind the other from off on. -/
inductive EqFs (P : Program) (dp : Nat) : List Field → Nat → Nat → (List Value → Prop) → Prop where
  | nil (off : Nat) : EqFs P dp [] off off (fun _ => True)
  | cons {f : Field} {fs : List Field} {off sz fin : Nat} {agg : Bool} {W W' : List Value → Prop} (hn : (f.name == "_") = false) (ho : f.offset = off) (h : EqC P dp f.type agg sz W) (hr : EqFs P dp fs (off + sz) fin W') :
      EqFs P dp (f :: fs) off fin (fun cs => W ((cs.drop off).take sz) ∧ W' cs)

theorem eqfs_le {dp : Nat} {fs : List Field} {off fin : Nat} {W : List Value → Prop} (h : EqFs P dp fs off fin W) : off ≤ fin := by
  induction h with
  | nil => exact Nat.le_refl _
  | cons _ _ _ _ ih => omega

theorem eqfs_run {dp : Nat} {fs : List Field} {off fin : Nat} {W : List Value → Prop} (h : EqFs P dp fs off fin W) : ∀ d, dp ≤ d → ∀ cs ds : List Value, cs.length = fin → ds.length = fin → W cs → W ds →
    ∃ r : Bool, (∀ w, (Op.eqFields d cs.toArray ds.toArray fs).run P w = .ok r w) ∧ (r = true ↔ cs.drop off = ds.drop off) := by
  induction h with
  | nil off =>
    intro d hd cs ds hc hd' _ _
    exact ⟨true, fun w => by simp [Op.eqFields], by simp [List.drop_of_length_le, hc, hd']⟩
  | @cons f fs off sz fin agg W W' hn ho h hr ih =>
    intro d hd cs ds hc hd' hw hw'
    obtain ⟨ha, hs, h1, hlen, heq⟩ := h
    obtain ⟨r1, hr1, hi1⟩ := heq d hd _ _ hw.1 hw'.1
    obtain ⟨r2, hr2, hi2⟩ := ih d hd cs ds hc hd' hw.2 hw'.2
    have hle := eqfs_le hr
    have hl1 := hlen _ hw.1
    have hpos : 0 < sz ∨ agg = true := by
      cases agg
      · exact .inl (by have := h1 rfl; omega)
      · exact .inr rfl
    have hn' := (beq_eq_false_iff_ne.1 hn)
    refine ⟨r1 && r2, fun w => ?_, ?_⟩
    · have p1 := part_run ha hs h1 (cs := cs) (off := off) (by omega) hpos w
      have p2 := part_run ha hs h1 (cs := ds) (off := off) (by omega) hpos w
      simp only [Op.eqFields, if_pos hn', Sem.run_bind]
      rw [ho, p1]
      simp only [Result.andThen_ok]
      rw [p2]
      simp only [Result.andThen_ok]
      rw [hr1 w]
      cases r1
      · simp
      · simp [hr2 w]
    · rw [Bool.and_eq_true, hi1, hi2]
      exact (take_drop_split (by omega)).symm

theorem eqc_struct {dp : Nat} {t : TypeId} {fs : Array Field} {sz : Nat} {W : List Value → Prop} {z : Value} {by_ : Nat} (hu : P.underlying t = some (.struct fs)) (ht : TyI P t z sz by_) (hp : P.stoodInHeld t = false) (h : EqFs P dp fs.toList 0 sz W) :
    EqC P (dp + 1) t true sz (fun cs => cs.length = sz ∧ W cs) := by
  refine ⟨fun w => run_agg hu w, fun w => run_sz ht w, fun h => (by cases h), fun cs h => h.1, ?_⟩
  rintro d hd cs ds ⟨hc, hwc⟩ ⟨hd', hwd⟩
  obtain ⟨d, rfl⟩ : ∃ m, d = m + 1 := ⟨d - 1, by omega⟩
  obtain ⟨r, hr, hi⟩ := eqfs_run h d (by omega) cs ds hc hd' hwc hwd
  refine ⟨r, fun w => ?_, by simpa using hi⟩
  have hf : P.fieldsOf t = fs := by simp [Program.fieldsOf, hu]
  rw [show mkV true cs = .agg cs.toArray from rfl, show mkV true ds = .agg ds.toArray from rfl, run_equalIn_struct (P := P) w d t _ _ (by rw [hf]; exact hu) hp, hf]
  exact hr w

theorem eqitems_run {dp : Nat} {e : TypeId} {agg : Bool} {sz : Nat} {W : List Value → Prop} (h : EqC P dp e agg sz W) (hsz : P.cellsOf e = sz) (cs ds : List Value) (n : Nat) (hc : cs.length = n * sz) (hd' : ds.length = n * sz)
    (hw : ∀ i, i < n → W ((cs.drop (i * sz)).take sz)) (hw' : ∀ i, i < n → W ((ds.drop (i * sz)).take sz)) (d : Nat) (hd : dp ≤ d) : ∀ (m i : Nat), i + m = n →
    ∃ r : Bool, (∀ w, (Op.eqItems d e (P.cellsOf e) cs.toArray ds.toArray (List.range' i m)).run P w = .ok r w) ∧ (r = true ↔ cs.drop (i * sz) = ds.drop (i * sz)) := by
  obtain ⟨ha, hs, h1, hlen, heq⟩ := h
  intro m
  induction m with
  | zero =>
    intro i hi
    have : i = n := by omega
    subst this
    exact ⟨true, fun w => by simp [Op.eqItems], by simp [List.drop_of_length_le, hc, hd']⟩
  | succ m ih =>
    intro i hi
    obtain ⟨r1, hr1, hi1⟩ := heq d hd _ _ (hw i (by omega)) (hw' i (by omega))
    obtain ⟨r2, hr2, hi2⟩ := ih (i + 1) (by omega)
    have hb : i * sz + sz ≤ n * sz := by rw [← Nat.succ_mul]; exact Nat.mul_le_mul_right _ (by omega)
    have hl1 := hlen _ (hw i (by omega))
    have hpos : 0 < sz ∨ agg = true := by
      cases agg
      · exact .inl (by have := h1 rfl; omega)
      · exact .inr rfl
    refine ⟨r1 && r2, fun w => ?_, ?_⟩
    · have p1 := part_run ha hs h1 (cs := cs) (off := i * sz) (by omega) hpos w
      have p2 := part_run ha hs h1 (cs := ds) (off := i * sz) (by omega) hpos w
      rw [List.range'_succ]
      simp only [Op.eqItems, Sem.run_bind, hsz]
      rw [p1]
      simp only [Result.andThen_ok]
      rw [p2]
      simp only [Result.andThen_ok]
      rw [hr1 w]
      have h2 := hr2 w
      rw [hsz] at h2
      cases r1
      · simp
      · simp [h2]
    · rw [Bool.and_eq_true, hi1, hi2, Nat.succ_mul]
      exact (take_drop_split (by omega)).symm

theorem eqc_array {dp : Nat} {t e : TypeId} {n : Nat} {agg : Bool} {sz tot : Nat} {W : List Value → Prop} {z ze : Value} {by_ bye : Nat} (hu : P.underlying t = some (.array n e)) (ht : TyI P t z tot by_) (he : TyI P e ze sz bye) (htot : tot = n * sz) (h : EqC P dp e agg sz W) :
    EqC P (dp + 1) t true tot (fun cs => cs.length = tot ∧ ∀ i, i < n → W ((cs.drop (i * sz)).take sz)) := by
  subst htot
  refine ⟨fun w => run_agg hu w, fun w => run_sz ht w, fun h => (by cases h), fun cs h => h.1, ?_⟩
  rintro d hd cs ds ⟨hc, hwc⟩ ⟨hd', hwd⟩
  obtain ⟨d, rfl⟩ : ∃ m, d = m + 1 := ⟨d - 1, by omega⟩
  obtain ⟨i, hi, _, his, _⟩ := he.info
  have hcell : P.cellsOf e = sz := by simp [Program.cellsOf, hi, his]
  obtain ⟨r, hr, hiff⟩ := eqitems_run h hcell cs ds n hc hd' hwc hwd d (by omega) n 0 (by omega)
  refine ⟨r, fun w => ?_, by simpa using hiff⟩
  rw [show mkV true cs = .agg cs.toArray from rfl, show mkV true ds = .agg ds.toArray from rfl, run_equalIn_array (P := P) w d _ _ hu hi, List.range_eq_range']
  exact hr w

variable {n : Cx} {R : World → Prop} {L : Slots}

theorem q_eqA {dp : Nat} {t t' : TypeId} {x y : Operand} {cs ds : List Value} {sz : Nat} {W : List Value → Prop} (h : EqC P dp t true sz W) (hdp : dp ≤ 10000) (hg : P.eqGuardType P.depth t = false)
    (hx : ev L x = some (.agg cs.toArray)) (hy : ev L y = some (.agg ds.toArray)) (hc : W cs) (hd : W ds) (b : Bool) (hb : b = true ↔ cs = ds) : QOp P n R L (.binOp .eql t x y t') (.bool b) := by
  intro d' ty pos af g a w hs _
  obtain ⟨r, hr, hi⟩ := h.2.2.2.2 10000 hdp cs ds hc hd
  have e : r = b := by
    rw [Bool.eq_iff_iff, hi, hb]
  subst e
  have h2 := hr w
  simp only [mkV, if_true] at h2
  simp only [execOp, hs.eval hx, hs.eval hy]
  simp [eqGuard, hg, binOp, Op.equal, Op.maxDepth, h2, pure]
theorem q_neA {dp : Nat} {t t' : TypeId} {x y : Operand} {cs ds : List Value} {sz : Nat} {W : List Value → Prop} (h : EqC P dp t true sz W) (hdp : dp ≤ 10000) (hg : P.eqGuardType P.depth t = false)
    (hx : ev L x = some (.agg cs.toArray)) (hy : ev L y = some (.agg ds.toArray)) (hc : W cs) (hd : W ds) (b : Bool) (hb : b = true ↔ cs ≠ ds) : QOp P n R L (.binOp .neq t x y t') (.bool b) := by
  intro d' ty pos af g a w hs _
  obtain ⟨r, hr, hi⟩ := h.2.2.2.2 10000 hdp cs ds hc hd
  have e : (!r) = b := by
    rw [Bool.eq_iff_iff, hb]; cases r <;> simp at hi ⊢ <;> exact hi
  subst e
  have h2 := hr w
  simp only [mkV, if_true] at h2
  simp only [execOp, hs.eval hx, hs.eval hy]
  simp [eqGuard, hg, binOp, Op.equal, Op.maxDepth, h2, pure]
end
end Go.PL
