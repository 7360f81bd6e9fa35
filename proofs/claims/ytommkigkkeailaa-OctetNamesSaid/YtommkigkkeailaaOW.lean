/- The encoder. -/
import Derived.Test.YtommkigkkeailaaOV
namespace Go.Proofs.Ytommkigkkeailaa
set_option linter.unusedSimpArgs false
set_option linter.unusedVariables false
open Go Go.PL Go.RowKit

/-- What can be read beside the blocks Ln. -/
def rdO (Ln : List Nat) (w : World) : Rd := fun a => if a.block ∈ Ln then none else w.cell? a
theorem rdO_some {Ln : List Nat} {w : World} {a : Addr} {v : Value} (h : rdO Ln w a = some v) : a.block ∉ Ln ∧ w.cell? a = some v := by
  unfold rdO at h
  split at h
  · cases h
  · exact ⟨‹_›, h⟩
theorem rdo_old {w0 w : World} {Ln : List Nat} {M : List Ent} {S : List Fact} (h : Mem w0 Ln M S w) : ∀ a v, rdO Ln w0 a = some v → w.cell? a = some v := fun a v hv => by
  obtain ⟨h1, h2⟩ := rdO_some hv
  exact h.cell_oldL h2 h1
theorem rdo_nums {w0 w : World} {Ln : List Nat} {M : List Ent} {S : List Fact} (h : Mem w0 Ln M S w) {e : Ent} (he : e ∈ M) : ∀ a v, rdO Ln w0 a = some v → rdO (nums [e]) w a = some v := fun a v hv => by
  obtain ⟨h1, h2⟩ := rdO_some hv
  have h3 := h.cell_oldL h2 h1
  have hlt := World.block_lt_of_cell? w0 a h2
  unfold rdO
  rw [if_neg]
  · exact h3
  · intro hm
    obtain ⟨f, hf, hn⟩ := mem_nums.1 hm
    rw [List.mem_singleton] at hf
    subst hf
    rcases h.new f he _ hn with h4 | h4
    · omega
    · exact h1 h4
theorem rdo_nil {w0 w : World} {M : List Ent} {S : List Fact} (h : Mem w0 [] M S w) {e : Ent} (he : e ∈ M) : ∀ a v, w0.cell? a = some v → rdO (nums [e]) w a = some v := fun a v hv => rdo_nums h he a v (by unfold rdO; rw [if_neg (by simp)]; exact hv)
theorem lenB_num {n : Nat} (h : n < 16777216) : lenB n = if n < 128 then [of8 (n : Int)] else of8 ((128 + kB n : Nat) : Int) :: numK (kB n) n := by
  have hw := wideF_eq h
  unfold lenB
  by_cases h1 : n < 128
  · rw [if_pos h1, if_pos h1]
  · have hk : kB n = wideF n - 1 := by unfold wideF kB; rw [if_neg h1]; omega
    rw [if_neg h1] at hw
    rw [if_neg h1, if_neg h1, hk, hw]
    split
    · show _ = _ :: (numK 0 _ ++ [_])
      rw [of8_mod]; rfl
    · split
      · show _ = _ :: ((numK 0 _ ++ [_]) ++ [_])
        rw [of8_mod (n / 256)]; rfl
      · show _ = _ :: (((numK 0 _ ++ [_]) ++ [_]) ++ [_])
        rw [of8_mod (n / 256 / 256), show n / 256 / 256 = n / 65536 by omega]; rfl
theorem wide_k {n : Nat} (h : ¬ n < 128) : wideF n - 1 = kB n := by unfold wideF kB; rw [if_neg h]; omega
theorem wide_1 {n : Nat} (h : n < 128) : wideF n - 1 = 0 := by unfold wideF; rw [if_pos h]
theorem wide_ge {n : Nat} (h : ¬ n < 128) : 1 ≤ kB n := by
  unfold kB
  have : ¬ lenF n ≤ 0 := fun hh => by have := lenF_lt hh; omega
  omega

end Go.Proofs.Ytommkigkkeailaa
