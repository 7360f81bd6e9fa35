/- Stores: lengths and bounds, again. -/
import Derived.Test.YtoaeklbenmlooaaKY
namespace Go.Proofs.Ytoaeklbenmlooaa
set_option linter.unusedSimpArgs false
set_option linter.unusedVariables false
open Go Go.PL Go.RowKit

theorem syncF_len {s : St} (h : s.ms.length = 32) : (syncF s).1.ms.length = 32 := by
  unfold syncF; split
  · rfl
  · exact h
theorem crashF_len {s : St} {k : Int} (h : s.ms.length = 32) : (crashF s k).1.ms.length = 32 := by
  unfold crashF; split
  · rfl
  · split
    · rfl
    · exact h
theorem openF_len {s : St} (h : s.ms.length = 32) : (openF s).1.ms.length = 32 := by
  unfold openF; split
  · rfl
  · exact h
theorem takeF_len {s : St} {id : UInt32} (h : s.ms.length = 32) : (takeF s id).2.1.ms.length = 32 := by
  unfold takeF; split
  · rfl
  · split
    · rfl
    · split
      · rfl
      · exact h
theorem upF_len {s : St} {is : Bool} (h : upF s is = 0) : s.dk.length + s.pd.length ≤ 1000 := (upF_ok h).1.2.2.1
theorem syncF_bd {s : St} (h1 : s.dk.length ≤ 1200) (h3 : s.ks.length ≤ 20) : Bd (syncF s).1 := by
  unfold syncF; split
  · exact zBd
  · rename_i hu
    have := upF_len (Decidable.not_not.1 hu)
    exact ⟨by show (s.dk ++ s.pd).length ≤ 1200; rw [List.length_append]; omega, Nat.zero_le 1200, by show (durT s.ks s.ks.length).length ≤ 30; rw [durT_len]; omega⟩
theorem crashF_bd {s : St} {k : Int} (h1 : s.dk.length ≤ 1200) (h3 : s.ks.length ≤ 20) : Bd (crashF s k).1 := by
  unfold crashF; split
  · exact zBd
  · rename_i hu
    have := upF_len (Decidable.not_not.1 hu)
    split
    · exact zBd
    · exact ⟨by show (s.dk ++ s.pd.take k.toNat).length ≤ 1200; rw [List.length_append, List.length_take]; omega, Nat.zero_le 1200, Nat.zero_le 30⟩
theorem openF_bd {s : St} (h1 : s.dk.length ≤ 1200) (h3 : s.ks.length ≤ 20) : Bd (openF s).1 := by
  unfold openF; split
  · exact zBd
  · rename_i hu
    have := upF_len (Decidable.not_not.1 hu)
    have hk := (scanR_ok s.dk).1
    exact ⟨by show (s.dk.take _).length ≤ 1200; rw [List.length_take]; omega, by show s.pd.length ≤ 1200; omega, by show (scanR s.dk).1.length ≤ 30; omega⟩
theorem takeF_bd {s : St} {id : UInt32} (h1 : s.dk.length ≤ 1200) (h2 : s.pd.length ≤ 1200) (h3 : s.ks.length ≤ 20) : Bd (takeF s id).2.1 := by
  unfold takeF; split
  · exact zBd
  · split
    · exact zBd
    · split
      · exact zBd
      · exact ⟨h1, h2, by show (s.ks.set _ _).length ≤ 30; rw [List.length_set]; omega⟩
theorem openF_pd {s : St} : (openF s).1.pd = [] := by
  unfold openF; split
  · rfl
  · rename_i hu; show s.pd = []; exact open_pd (Decidable.not_not.1 hu)
theorem openP_sv {s : St} {pv : Value} (h : SV pv s.pd.length) : SV (openP s pv) (openF s).1.pd.length := by
  by_cases hu : upF s false = 0
  · rw [op2 hu, op2p hu]; exact h
  · rw [op1 hu, op1p hu]; exact SV.nil
theorem openP_seen {r : Rd} {s : St} {pv : Value} (h : Seen r pv s.pd.length 1 (v8s s.pd)) : Seen r (openP s pv) (openF s).1.pd.length 1 (v8s (openF s).1.pd) := by
  by_cases hu : upF s false = 0
  · rw [op2 hu, op2p hu]; exact h
  · rw [op1 hu, op1p hu]; exact seen_nil _ _

end Go.Proofs.Ytoaeklbenmlooaa
