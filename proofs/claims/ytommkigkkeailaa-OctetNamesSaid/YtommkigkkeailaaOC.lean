/- What is counted in a value. -/
import Derived.Test.YtommkigkkeailaaOB
namespace Go.Proofs.Ytommkigkkeailaa
set_option linter.unusedSimpArgs false
set_option linter.unusedVariables false
open Go Go.PL Go.RowKit

mutual
def Tr.cnt : Tr → Nat
  | .nd _ _ l => 1 + cntL l
def cntL : List Tr → Nat
  | [] => 0
  | x :: l => x.cnt + cntL l
end
mutual
def Tr.dep : Tr → Nat
  | .nd _ _ l => depL l + 1
def depL : List Tr → Nat
  | [] => 0
  | x :: l => max x.dep (depL l)
end
mutual
def Tr.byt : Tr → Nat
  | .nd _ bs l => bs.length + bytL l
def bytL : List Tr → Nat
  | [] => 0
  | x :: l => x.byt + bytL l
end
mutual
def Tr.siz : Tr → Nat
  | .nd _ bs l => 1 + wideF (bs.length + sizL l) + (bs.length + sizL l)
def sizL : List Tr → Nat
  | [] => 0
  | x :: l => x.siz + sizL l
end
def badT (t : UInt8) (b n : Nat) : Bool := decide (t = 0) || (decide (t < 128) && decide (0 < n)) || (decide (128 ≤ t) && decide (0 < b))
mutual
def Tr.shp : Tr → Bool
  | .nd t bs l => !badT t bs.length l.length && shpL l
def shpL : List Tr → Bool
  | [] => true
  | x :: l => x.shp && shpL l
end
theorem cntL_app : ∀ (a b : List Tr), cntL (a ++ b) = cntL a + cntL b
  | [], b => by simp [cntL]
  | x :: a, b => by rw [List.cons_append, cntL, cntL, cntL_app a b]; omega
theorem bytL_app : ∀ (a b : List Tr), bytL (a ++ b) = bytL a + bytL b
  | [], b => by simp [bytL]
  | x :: a, b => by rw [List.cons_append, bytL, bytL, bytL_app a b]; omega
theorem sizL_app : ∀ (a b : List Tr), sizL (a ++ b) = sizL a + sizL b
  | [], b => by simp [sizL]
  | x :: a, b => by rw [List.cons_append, sizL, sizL, sizL_app a b]; omega
theorem depL_app : ∀ (a b : List Tr), depL (a ++ b) = max (depL a) (depL b)
  | [], b => by simp [depL]
  | x :: a, b => by rw [List.cons_append, depL, depL, depL_app a b]; omega
theorem shpL_app : ∀ (a b : List Tr), shpL (a ++ b) = (shpL a && shpL b)
  | [], b => by simp [shpL]
  | x :: a, b => by rw [List.cons_append, shpL, shpL, shpL_app a b, Bool.and_assoc]
section
variable {l : List HT} {i : Nat} (h : i < l.length)
include h
theorem trs_takeS : trs (l.take (i + 1)) = trs (l.take i) ++ [(l.getD i HT.z).tr] := by rw [take_succD HT.z h, trs_append]; rfl
theorem trs_split : trs l = trs (l.take i) ++ (l.getD i HT.z).tr :: trs (l.drop (i + 1)) := by
  conv => lhs; rw [← List.take_append_drop i l, drop_consD HT.z h, trs_append]
  rfl
theorem cntL_take : cntL (trs (l.take (i + 1))) = cntL (trs (l.take i)) + (l.getD i HT.z).tr.cnt := by rw [trs_takeS h, cntL_app]; rfl
theorem bytL_take : bytL (trs (l.take (i + 1))) = bytL (trs (l.take i)) + (l.getD i HT.z).tr.byt := by rw [trs_takeS h, bytL_app]; rfl
theorem sizL_take : sizL (trs (l.take (i + 1))) = sizL (trs (l.take i)) + (l.getD i HT.z).tr.siz := by rw [trs_takeS h, sizL_app]; rfl
theorem depL_take : depL (trs (l.take (i + 1))) = max (depL (trs (l.take i))) (l.getD i HT.z).tr.dep := by rw [trs_takeS h, depL_app]; simp [depL]
theorem shpL_take : shpL (trs (l.take (i + 1))) = (shpL (trs (l.take i)) && (l.getD i HT.z).tr.shp) := by rw [trs_takeS h, shpL_app]; simp [shpL]
theorem cntL_kid : cntL (trs (l.take i)) + (l.getD i HT.z).tr.cnt ≤ cntL (trs l) := by rw [trs_split h, cntL_app, cntL]; omega
theorem bytL_kid : bytL (trs (l.take i)) + (l.getD i HT.z).tr.byt ≤ bytL (trs l) := by rw [trs_split h, bytL_app, bytL]; omega
theorem sizL_kid : sizL (trs (l.take i)) + (l.getD i HT.z).tr.siz ≤ sizL (trs l) := by rw [trs_split h, sizL_app, sizL]; omega
theorem depL_kid : (l.getD i HT.z).tr.dep ≤ depL (trs l) := by rw [trs_split h, depL_app, depL]; omega
end
theorem cnt_pos (t : Tr) : 1 ≤ t.cnt := by cases t; rw [Tr.cnt]; omega
theorem cntL_len : ∀ l : List Tr, l.length ≤ cntL l
  | [] => Nat.le_refl _
  | x :: l => by have := cntL_len l; have := cnt_pos x; rw [cntL, List.length_cons]; omega
theorem dep_pos (t : Tr) : 1 ≤ t.dep := by cases t; rw [Tr.dep]; omega
/-- A value of a size that fits. -/
def Sm (t : Tr) : Prop := t.byt + 5 * t.cnt ≤ 1000000
theorem Sm.kid {tg : UInt8} {bv lv : Value} {bs : List UInt8} {l : List HT} (h : Sm (HT.nd tg bv bs lv l).tr) {i : Nat} (hi : i < l.length) : Sm (l.getD i HT.z).tr := by
  have h1 := cntL_kid hi
  have h2 := bytL_kid hi
  have h : bs.length + bytL (trs l) + 5 * (1 + cntL (trs l)) ≤ 1000000 := h
  unfold Sm; omega
theorem siz_le : ∀ t : Tr, Sm t → t.siz ≤ t.byt + 5 * t.cnt := by
  intro t
  induction t using Tr.ind with
  | _ tg bs l ih =>
    intro h
    have h : bs.length + bytL l + 5 * (1 + cntL l) ≤ 1000000 := h
    have key : ∀ m : List Tr, (∀ x ∈ m, x ∈ l) → bytL m + 5 * cntL m ≤ 1000000 → sizL m ≤ bytL m + 5 * cntL m := by
      intro m
      induction m with
      | nil => intro _ _; exact Nat.le_refl _
      | cons x m ihm =>
        intro hm hb
        rw [bytL, cntL] at hb
        have h1 := ih x (hm x (List.mem_cons_self ..)) (by unfold Sm; omega)
        have h2 := ihm (fun y hy => hm y (List.mem_cons_of_mem _ hy)) (by omega)
        rw [sizL, bytL, cntL]; omega
    have h1 := key l (fun _ hx => hx) (by omega)
    have h2 := wideF_le (bs.length + sizL l) (by omega)
    rw [Tr.siz, Tr.byt, Tr.cnt]; omega
theorem content_le {t : UInt8} {bs : List UInt8} {l : List Tr} (h : Sm (.nd t bs l)) : bs.length + sizL l ≤ 1000000 := by
  have h1 := siz_le _ h
  have h2 : bs.length + bytL l + 5 * (1 + cntL l) ≤ 1000000 := h
  rw [Tr.siz, Tr.byt, Tr.cnt] at h1; omega

set_option maxRecDepth 100000 in
theorem size_step (t : HT) (w : World) (ht : HSeen w.cell? t) (hsm : Sm t.tr) (ih : ∀ x ∈ t.kids, ∀ (w : World), HSeen w.cell? x → Sm x.tr → Calls Try.prog 47 [.agg x.c.toArray].toArray w (Pur w (.int .i64 ((x.tr.siz : Nat) : Int)))) :
    Calls Try.prog 47 [.agg t.c.toArray].toArray w (Pur w (.int .i64 ((t.tr.siz : Nat) : Int))) := by
  obtain ⟨tg, bv, bs, lv, l⟩ := t
  have hb := ht.1
  have hk := ht.2.1
  have svb := hb.sv
  have svl := hk.sv
  have lb := svb.le
  have ll := svl.le
  simp only [maxLen] at lb ll
  refine enter (m := 26) (R := Mem w [] [] []) Try.func47 rfl rfl (Nat.le_of_ble_eq_true rfl) (Mem.start w) ?_
  refine wpc_seq ?_
  refine wpc_region ?_
  refine wpl_t (t_box rfl [.int .u8 (tg.toNat : Int), bv, lv] rfl) rfl (fun b1 => ?_)
  refine wpl_q (q_pure rfl) rfl ?_
  refine wpl_nil ?_
  refine ex_then ?_
  refine wpc_seq ?_
  refine wpc_region ?_
  refine wpl_q (q_field Try.underlying25 rfl Try.ti22 rfl rfl _ rfl) rfl ?_
  refine wpl_q (q_ld Try.underlying22 rfl rfl rfl) rfl ?_
  refine wpl_q (q_lenW Try.underlying22 rfl (by first | assumption | exact SV.nil | exact SV.slv (by assumption) (by omega) (by omega) | exact arv_sv (by first | decide | (simp only [maxLen]; omega)))) rfl ?_
  refine wpl_q (q_pure rfl) rfl ?_
  refine wpl_nil ?_
  refine ex_then ?_
  refine wpc_seq ?_
  refine wpc_seq ?_
  refine wpc_region ?_
  refine wpl_q (q_field Try.underlying25 rfl Try.ti23 rfl rfl _ rfl) rfl ?_
  refine wpl_q (q_ld Try.underlying23 rfl rfl rfl) rfl ?_
  refine wpl_q (q_lenW Try.underlying23 rfl (by first | assumption | exact SV.nil | exact SV.slv (by assumption) (by omega) (by omega) | exact arv_sv (by first | decide | (simp only [maxLen]; omega)))) rfl ?_
  refine wpl_q (q_pure rfl) rfl ?_
  refine wpl_nil ?_
  refine ex_then ?_
  refine wpc_block ?_
  refine wpc_loopc (ι := { x : Nat // (x ≤ l.length) }) [(10, _), (11, _)] (fun x Lc => (12, .int .i64 ((x.1 : Nat) : Int)) :: (3, .int .i64 ((bs.length + sizL (trs (l.take x.1)) : Nat) : Int)) :: Lc) (fun x => Mem w [] [] []) (fun x => l.length - x.1) ⟨0, (Nat.zero_le _)⟩ (by repeat (first | exact trivial | refine ⟨rfl, ?_⟩)) ?_ ?_
  ·
   exact fun w h => h.sub .nil .nil
  ·
   rintro ⟨i, hi0⟩; try dsimp only
   have hi0 : i ≤ l.length := hi0
   refine wpc_seq ?_
   refine wpc_region ?_
   refine wpl_q (q_pure rfl) rfl ?_
   refine wpl_nil ?_
   refine ex_then ?_
   refine wpc_seq ?_
   refine wpc_cond rfl (fun hc13 => ?_) (fun hc13 => ?_)
   ·
    simp only [decide_eq_true_eq] at hc13
    have hil : i < l.length := by omega
    haveI := (ht.kid hil).sv.one
    have hs1 := sizL_take hil
    have hs2 := sizL_kid hil
    have hs3 := content_le hsm
    refine wpc_skip ?_
    refine ex_then ?_
    refine wpc_seq ?_
    refine wpc_block ?_
    refine wpc_seq ?_
    refine wpc_region ?_
    refine wpl_q (q_idxW Try.underlying23 Try.ti25 rfl rfl (by first | assumption | exact SV.nil | exact SV.slv (by assumption) (by omega) (by omega) | exact arv_sv (by first | decide | (simp only [maxLen]; omega))) (by first | omega | (simp only [maxLen]; omega) | (simp only [List.length_append, List.length_cons, List.length_nil, List.length_take, maxLen]; omega) | (simp only [List.length_append, List.length_cons, List.length_nil, List.length_take]; omega))) rfl ?_
    refine wpl_q (q_ldWN Try.underlying25 rfl Try.ti25 rfl (fun w h => h.seen_old hk) (l.getD i HT.z).c (cat_part HT.c_length HT.z hil) (HT.c_length _)) rfl ?_
    refine wpl_t (t_alloc Try.ti25 HT.z.c rfl) rfl (fun b5 => ?_)
    refine wpl_t0 (t_stA Try.ti25 rfl rfl LenC.h OneC.h LenC.h) (fun _ => ?_)
    refine wpl_nil ?_
    refine ex_then ?_
    refine wpc_region ?_
    refine wpl_q (q_pure rfl) rfl ?_
    refine wpl_q (q_ldN Try.underlying25 rfl Try.ti25 rfl LenC.h) rfl ?_
    refine wpl_t (t_pur Try.hb47 rfl fun w h => ih (l.getD i HT.z) (getD_memH hil) w ((ht.kid hil).old h) (hsm.kid hil)) rfl (fun b18 => ?_)
    refine wpl_q (q_addN rfl rfl (by first | omega | (simp only [maxLen]; omega) | (simp only [List.length_append, List.length_cons, List.length_nil, List.length_take, maxLen]; omega) | (simp only [List.length_append, List.length_cons, List.length_nil, List.length_take]; omega))) rfl ?_
    refine wpl_re 19 rfl (congrArg (fun n : Nat => Value.int .i64 (n : Int)) (show bs.length + sizL (trs (l.take i)) + (l.getD i HT.z).tr.siz = bs.length + sizL (trs (l.take (i + 1))) by omega)) ?_
    refine wpl_q (q_pure rfl) rfl ?_
    refine wpl_nil ?_
    refine ex_block ?_
    refine ex_then ?_
    refine wpc_region ?_
    refine wpl_q (q_addN (b := 1) rfl rfl (by first | omega | (simp only [maxLen]; omega) | (simp only [List.length_append, List.length_cons, List.length_nil, List.length_take, maxLen]; omega) | (simp only [List.length_append, List.length_cons, List.length_nil, List.length_take]; omega))) rfl ?_
    refine wpl_q (q_pure rfl) rfl ?_
    refine wpl_nil ?_
    refine ex_again ⟨i + 1, (by omega)⟩ ?_ ?_ ?_
    ·
     exact (by repeat (first | exact trivial | refine ⟨rfl, ?_⟩))
    ·
     exact fun w h => h.sub .nil .nil
    ·
     (show l.length - (i + 1) < l.length - i); omega
   ·
    simp only [decide_eq_false_iff_not] at hc13
    obtain rfl : i = l.length := by omega
    rw [List.take_length]
    have hs3 := content_le hsm
    have hw := wideF_le (bs.length + sizL (trs l)) (by omega)
    refine wpc_exit ?_
    refine ex_then_exit ?_
    refine ex_then_exit ?_
    refine ex_block_hit ?_
    refine ex_then ?_
    refine wpc_seq ?_
    refine wpc_region ?_
    refine wpl_q (q_pure rfl) rfl ?_
    refine wpl_t (t_pur Try.hb62 rfl fun w h => wide _ w (by omega)) rfl (fun b22 => ?_)
    refine wpl_q (q_addN (a := 1) rfl rfl (by first | omega | (simp only [maxLen]; omega) | (simp only [List.length_append, List.length_cons, List.length_nil, List.length_take, maxLen]; omega) | (simp only [List.length_append, List.length_cons, List.length_nil, List.length_take]; omega))) rfl ?_
    refine wpl_q (q_pure rfl) rfl ?_
    refine wpl_q (q_addN rfl rfl (by first | omega | (simp only [maxLen]; omega) | (simp only [List.length_append, List.length_cons, List.length_nil, List.length_take, maxLen]; omega) | (simp only [List.length_append, List.length_cons, List.length_nil, List.length_take]; omega))) rfl ?_
    refine wpl_q (q_pure rfl) rfl ?_
    refine wpl_nil ?_
    refine ex_then ?_
    refine wpc_ret ?_
    refine ret1 (.inl rfl) rfl rfl ?_
    exact fun w h => ⟨rfl, h.below⟩
theorem size : ∀ (t : HT) (w : World), HSeen w.cell? t → Sm t.tr → Calls Try.prog 47 [.agg t.c.toArray].toArray w (Pur w (.int .i64 ((t.tr.siz : Nat) : Int))) := by
  intro t
  induction t using HT.ind with
  | _ tg bv bs lv l ih => intro w h hs; exact size_step _ w h hs (fun x hx w hx' hs' => ih x hx w hx' hs')

end Go.Proofs.Ytommkigkkeailaa
