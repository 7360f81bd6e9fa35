/- Copies of lists. -/
import Derived.Test.YtgnablliekgbgaaVK
namespace Go.Proofs.Ytgnablliekgbgaa
set_option linter.unusedSimpArgs false
set_option linter.unusedVariables false
open Go Go.PL Go.RowKit
theorem cl_nil {a : Option Addr} {cap : Nat} {sz : Nat} {n : Nat} {cs : List Value} {r : Rd} (h : Seen r (.slice a n cap) n sz cs) (hn : a.isNone = true) : n = 0 := by
  obtain ⟨a', cap', e, h1, h2, h3⟩ := h.sv
  simp only [Value.slice.injEq] at e
  obtain ⟨rfl, _, rfl⟩ := e
  have := h3 (by simpa using hn)
  omega

set_option maxRecDepth 100000 in
theorem clone640 (a : Option Addr) (cap : Nat) (l : List UInt64) (w : World) (hav : Seen w.cell? (.slice a l.length cap) l.length 1 (v64s l)) (hl : l.length ≤ 1000) :
    Calls Try.prog 28 [.slice a l.length cap].toArray w (GivesP w (fun v => SV v l.length) (fun v => v) (fun v => [.row v l.length 22 1 (v64s l)]) (fun _ => [])) := by
  have sav := hav.sv
  refine enter (m := 8) (R := Mem w [] [] []) Try.func28 rfl rfl (Nat.le_of_ble_eq_true rfl) (Mem.start w) ?_
  refine wpc_seq ?_
  refine wpc_region ?_
  refine wpl_q (q_pure rfl) rfl ?_
  refine wpl_nil ?_
  refine ex_then ?_
  refine wpc_seq ?_
  refine wpc_seq ?_
  refine wpc_region ?_
  refine wpl_q (q_pure rfl) rfl ?_
  refine wpl_q (q_slNil Try.underlying25 rfl rfl (by kernel_rfl)) rfl ?_
  refine wpl_nil ?_
  refine ex_then ?_
  refine wpc_cond rfl (fun hc4 => ?_) (fun hc4 => ?_)
  ·
   have h0 := cl_nil hav hc4
   have hx0 := List.eq_nil_of_length_eq_zero h0
   subst hx0
   refine wpc_seq ?_
   refine wpc_region ?_
   refine wpl_q (q_pure rfl) rfl ?_
   refine wpl_nil ?_
   refine ex_then ?_
   refine wpc_ret ?_
   refine ex_then_ret ?_
   refine ret1 (.inl rfl) rfl rfl ?_
   exact fun w h => ⟨.slice none 0 0, SV.nil, rfl, h.below, (h.nilRow 22 1).made (by repeat (first | exact Sub.nil | exact Sub.refl _ | with_reducible refine Sub.keep ?_ | refine Sub.drop ?_)) .nil⟩
  ·
   refine wpc_skip ?_
   refine ex_then ?_
   refine wpc_seq ?_
   refine wpc_region ?_
   refine wpl_tp (t_bs0W Try.underlying25 Try.ti22) rfl (fun b5 p5 => ?_)
   refine wpl_q (q_pure rfl) rfl ?_
   refine wpl_tp (t_ap0 Try.underlying25 Try.ti22 rfl (by decide) rfl rfl (fun w h => h.seen_old hav) (v64s_one _) (by first | omega | (simp only [maxLen]; omega) | (simp only [List.length_append, List.length_cons, List.length_nil, List.length_take, maxLen]; omega) | (simp only [List.length_append, List.length_cons, List.length_nil, List.length_take]; omega)) (by first | omega | (simp only [maxLen]; omega) | (simp only [List.length_append, List.length_cons, List.length_nil, List.length_take, maxLen]; omega) | (simp only [List.length_append, List.length_cons, List.length_nil, List.length_take]; omega))) rfl (fun b7 p7 => ?_)
   refine wpl_q (q_pure rfl) rfl ?_
   refine wpl_nil ?_
   refine ex_then ?_
   refine wpc_ret ?_
   refine ret1 (.inl rfl) rfl rfl ?_
   exact fun w h => ⟨b7, p7, rfl, h.below, h.made SubC.h .nil⟩

set_option maxRecDepth 100000 in
theorem cloneS0 (a : Option Addr) (cap : Nat) (l : List (List UInt8)) (w : World) (hav : Seen w.cell? (.slice a l.length cap) l.length 16 (v8s l.flatten)) (hll : ∀ x ∈ l, x.length = 16) (hl : l.length ≤ 1000) :
    Calls Try.prog 29 [.slice a l.length cap].toArray w (GivesP w (fun v => SV v l.length) (fun v => v) (fun v => [.row v l.length 62 16 (v8s l.flatten)]) (fun _ => [])) := by
  have sav := hav.sv
  refine enter (m := 8) (R := Mem w [] [] []) Try.func29 rfl rfl (Nat.le_of_ble_eq_true rfl) (Mem.start w) ?_
  refine wpc_seq ?_
  refine wpc_region ?_
  refine wpl_q (q_pure rfl) rfl ?_
  refine wpl_nil ?_
  refine ex_then ?_
  refine wpc_seq ?_
  refine wpc_seq ?_
  refine wpc_region ?_
  refine wpl_q (q_pure rfl) rfl ?_
  refine wpl_q (q_slNil Try.underlying26 rfl rfl (by kernel_rfl)) rfl ?_
  refine wpl_nil ?_
  refine ex_then ?_
  refine wpc_cond rfl (fun hc4 => ?_) (fun hc4 => ?_)
  ·
   have h0 := cl_nil hav hc4
   have hx0 := List.eq_nil_of_length_eq_zero h0
   subst hx0
   refine wpc_seq ?_
   refine wpc_region ?_
   refine wpl_q (q_pure rfl) rfl ?_
   refine wpl_nil ?_
   refine ex_then ?_
   refine wpc_ret ?_
   refine ex_then_ret ?_
   refine ret1 (.inl rfl) rfl rfl ?_
   exact fun w h => ⟨.slice none 0 0, SV.nil, rfl, h.below, (h.nilRow 62 16).made (by repeat (first | exact Sub.nil | exact Sub.refl _ | with_reducible refine Sub.keep ?_ | refine Sub.drop ?_)) .nil⟩
  ·
   refine wpc_skip ?_
   refine ex_then ?_
   refine wpc_seq ?_
   refine wpc_region ?_
   refine wpl_tp (t_bs0W Try.underlying26 Try.ti62) rfl (fun b5 p5 => ?_)
   refine wpl_q (q_pure rfl) rfl ?_
   refine wpl_tp (t_ap0 Try.underlying26 Try.ti62 rfl (by decide) rfl rfl (fun w h => h.seen_old hav) (v8s_one _) (by first | omega | (simp only [maxLen]; omega) | (simp only [List.length_append, List.length_cons, List.length_nil, List.length_take, maxLen]; omega) | (simp only [List.length_append, List.length_cons, List.length_nil, List.length_take]; omega)) (by first | omega | (simp only [maxLen]; omega) | (simp only [List.length_append, List.length_cons, List.length_nil, List.length_take, maxLen]; omega) | (simp only [List.length_append, List.length_cons, List.length_nil, List.length_take]; omega))) rfl (fun b7 p7 => ?_)
   refine wpl_q (q_pure rfl) rfl ?_
   refine wpl_nil ?_
   refine ex_then ?_
   refine wpc_ret ?_
   refine ret1 (.inl rfl) rfl rfl ?_
   exact fun w h => ⟨b7, p7, rfl, h.below, h.made SubC.h .nil⟩


theorem clone64 (v : Value) (l : List UInt64) (w : World) (h : Seen w.cell? v l.length 1 (v64s l)) (hl : l.length ≤ 1000) : Calls Try.prog 28 [v].toArray w (GivesP w (fun v => SV v l.length) (fun v => v) (fun v => [.row v l.length 22 1 (v64s l)]) (fun _ => [])) := by
  obtain ⟨a, cap, rfl, _⟩ := h.sv
  exact clone640 a cap l w h hl
theorem cloneS (v : Value) (l : List (List UInt8)) (w : World) (h : Seen w.cell? v l.length 16 (v8s l.flatten)) (hll : ∀ x ∈ l, x.length = 16) (hl : l.length ≤ 1000) : Calls Try.prog 29 [v].toArray w (GivesP w (fun v => SV v l.length) (fun v => v) (fun v => [.row v l.length 62 16 (v8s l.flatten)]) (fun _ => [])) := by
  obtain ⟨a, cap, rfl, _⟩ := h.sv
  exact cloneS0 a cap l w h hll hl
def Rv.ws (l : Rv) (v : Value) : Rv := { l with sv := v }
def Rv.wc (l : Rv) (v : Value) : Rv := { l with cv := v }
def Rv.wp (l : Rv) (v : Value) : Rv := { l with pv := v }
abbrev V3 := Value × Value × Value
/-- The copy of a list with other handles. -/
abbrev Rv.re (l : Rv) (x : V3) : Rv := ((l.ws x.1).wc x.2.1).wp x.2.2
theorem Rv.s_s (l : Rv) (v : Value) : l.c.set 4 v = (l.ws v).c := rfl
theorem Rv.s_c (l : Rv) (v : Value) : l.c.set 6 v = (l.wc v).c := rfl
theorem Rv.s_p (l : Rv) (v : Value) : l.c.set 7 v = (l.wp v).c := rfl
theorem Rv.wpc (l : Rv) (u v : Value) : (l.wp u).wc v = (l.wc v).wp u := rfl
theorem re_seen {l : Rv} {r : Rd} {x : V3} (h1 : Seen r x.1 l.ss.length 1 (v64s l.ss)) (h2 : Seen r x.2.1 l.chs.length 16 (v8s l.chs.flatten)) (h3 : Seen r x.2.2 l.ps.length 16 (v8s l.ps.flatten)) (hc : ∀ y ∈ l.chs, y.length = 16) (hp : ∀ y ∈ l.ps, y.length = 16) : (l.re x).seen r := ⟨h1, h2, hc, h3, hp⟩
theorem re_eqv (l : Rv) (x : V3) : l.eqv (l.re x) := ⟨rfl, rfl, ⟨rfl, rfl⟩, rfl, rfl, rfl, rfl⟩

end Go.Proofs.Ytgnablliekgbgaa
