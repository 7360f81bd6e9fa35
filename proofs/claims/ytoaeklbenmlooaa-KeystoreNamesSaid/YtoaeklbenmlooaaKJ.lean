/- Stores. -/
import Derived.Test.YtoaeklbenmlooaaKI
namespace Go.Proofs.Ytoaeklbenmlooaa
set_option linter.unusedSimpArgs false
set_option linter.unusedVariables false
open Go Go.PL Go.RowKit

/-- A store. -/
structure St where
  ms : List UInt8
  bt : Int
  up : Bool
  dk : List UInt8
  pd : List UInt8
  ks : List KE
def St.c (s : St) (dv pv kv : Value) : List Value := v8s s.ms ++ [.int .i64 s.bt, .bool s.up, dv, pv, kv]
section
variable {s : St} {dv pv kv : Value} (h : s.ms.length = 32)
include h
theorem St.c_length : (s.c dv pv kv).length = 37 := by rw [St.c, List.length_append, v8s_length, h]; rfl
theorem St.c_b : (s.c dv pv kv)[32]? = some (.int .i64 s.bt) := by rw [St.c, List.getElem?_append_right (by rw [v8s_length, h]; omega), v8s_length, h]; rfl
theorem St.c_u : (s.c dv pv kv)[33]? = some (.bool s.up) := by rw [St.c, List.getElem?_append_right (by rw [v8s_length, h]; omega), v8s_length, h]; rfl
theorem St.c_d : (s.c dv pv kv)[34]? = some dv := by rw [St.c, List.getElem?_append_right (by rw [v8s_length, h]; omega), v8s_length, h]; rfl
theorem St.c_p : (s.c dv pv kv)[35]? = some pv := by rw [St.c, List.getElem?_append_right (by rw [v8s_length, h]; omega), v8s_length, h]; rfl
theorem St.c_k : (s.c dv pv kv)[36]? = some kv := by rw [St.c, List.getElem?_append_right (by rw [v8s_length, h]; omega), v8s_length, h]; rfl
theorem St.c_m : ((s.c dv pv kv).drop 0).take 32 = v8s s.ms := by rw [St.c, List.drop_zero, List.take_append_of_le_length (by rw [v8s_length, h]; exact Nat.le_refl _), List.take_of_length_le (by rw [v8s_length, h]; exact Nat.le_refl _)]
theorem St.s_b (x : Int) : (s.c dv pv kv).set 32 (.int .i64 x) = ({ s with bt := x } : St).c dv pv kv := by rw [St.c, List.set_append_right _ _ (by rw [v8s_length, h]; omega), v8s_length, h]; rfl
theorem St.s_u (x : Bool) : (s.c dv pv kv).set 33 (.bool x) = ({ s with up := x } : St).c dv pv kv := by rw [St.c, List.set_append_right _ _ (by rw [v8s_length, h]; omega), v8s_length, h]; rfl
theorem St.s_d (x : Value) : (s.c dv pv kv).set 34 x = s.c x pv kv := by rw [St.c, List.set_append_right _ _ (by rw [v8s_length, h]; omega), v8s_length, h]; rfl
theorem St.s_p (x : Value) : (s.c dv pv kv).set 35 x = s.c dv x kv := by rw [St.c, List.set_append_right _ _ (by rw [v8s_length, h]; omega), v8s_length, h]; rfl
theorem St.s_k (x : Value) : (s.c dv pv kv).set 36 x = s.c dv pv x := by rw [St.c, List.set_append_right _ _ (by rw [v8s_length, h]; omega), v8s_length, h]; rfl
end
theorem St.c_one {s : St} {dv pv kv : Value} {a b c : Nat} (hd : SV dv a) (hp : SV pv b) (hk : SV kv c) : ∀ u ∈ s.c dv pv kv, u.oneCell' = true := by
  intro u hu
  rw [St.c] at hu
  rcases List.mem_append.1 hu with hu | hu
  · exact v8s_one _ u hu
  · simp only [List.mem_cons, List.not_mem_nil, or_false] at hu
    rcases hu with rfl | rfl | rfl | rfl | rfl
    · rfl
    · rfl
    · exact hd.one
    · exact hp.one
    · exact hk.one
/-- A store as it lies in memory. -/
structure StS (r : Rd) (s : St) (dv pv kv : Value) : Prop where
  len : s.ms.length = 32
  d : Seen r dv s.dk.length 1 (v8s s.dk)
  p : Seen r pv s.pd.length 1 (v8s s.pd)
  k : Seen r kv s.ks.length 6 (kcs s.ks)
  ld : s.dk.length ≤ 1200
  lp : s.pd.length ≤ 1200
  lk : s.ks.length ≤ 30
theorem StS.old {w0 w : World} {M : List Ent} {S : List Fact} {s : St} {dv pv kv : Value} (h : Mem w0 [] M S w) (hs : StS w0.cell? s dv pv kv) : StS w.cell? s dv pv kv :=
  ⟨hs.len, h.seen_old hs.d, h.seen_old hs.p, h.seen_old hs.k, hs.ld, hs.lp, hs.lk⟩
def okK (k a : KE) (d : Int) : Bool := decide (k.id = a.id) && decide (k.ht = a.ht) && decide (k.ak = a.ak) && decide (k.dr = a.dr) && decide (k.du = d) && decide (0 ≤ k.nx) && decide (k.nx ≤ d)
def durF (d : List KE) (i : Nat) : Int := if i < d.length then (d.getD i KE.z).ak else 0
def ChkU (s : St) : Prop := (scanR s.dk).2 = s.dk.length ∧ (scanR (s.dk ++ s.pd)).2 = s.dk.length + s.pd.length ∧ (scanR (s.dk ++ s.pd)).1.length = s.ks.length ∧
  ∀ i, i < s.ks.length → okK (s.ks.getD i KE.z) ((scanR (s.dk ++ s.pd)).1.getD i KE.z) (durF (scanR s.dk).1 i) = true
def ChkP (s : St) : Prop := 1 ≤ s.bt ∧ s.bt ≤ 16 ∧ s.dk.length + s.pd.length ≤ 1000 ∧ (s.up = false → s.pd.length = 0 ∧ s.ks.length = 0) ∧ (s.up = true → ChkU s)
instance (s : St) : Decidable (ChkU s) := by unfold ChkU; infer_instance
instance (s : St) : Decidable (ChkP s) := by unfold ChkP; infer_instance
def chkF (s : St) : Int := if ChkP s then 0 else 8
theorem chk0 {s : St} (h : ChkP s) : chkF s = 0 := if_pos h
theorem chk8 {s : St} (h : ¬ ChkP s) : chkF s = 8 := if_neg h
theorem partsK2 {r : Rd} {v a b : Value} {xs ys : List UInt8} (h : Seen r v 2 1 [a, b]) (h1 : Seen r a xs.length 1 (v8s xs)) (h2 : Seen r b ys.length 1 (v8s ys)) : PartsK r v [(a, xs), (b, ys)] := ⟨h, fun q hq => by
  simp only [List.mem_cons, List.not_mem_nil, or_false] at hq
  rcases hq with rfl | rfl
  · exact h1
  · exact h2⟩
theorem concat2 (v a b : Value) (xs ys : List UInt8) (w : World) (hP : PartsK w.cell? v [(a, xs), (b, ys)]) (hl : (xs ++ ys).length ≤ 100000) : Calls Try.prog 41 [v].toArray w (GivesP w (fun v => SV v (xs ++ ys).length) (fun v => v) (fun v => [.row v (xs ++ ys).length 5 1 (v8s (xs ++ ys))]) (fun _ => [])) := by
  have h := concat v [(a, xs), (b, ys)] w hP (by rw [flatK_2]; exact hl)
  rw [flatK_2] at h
  exact h

end Go.Proofs.Ytoaeklbenmlooaa
