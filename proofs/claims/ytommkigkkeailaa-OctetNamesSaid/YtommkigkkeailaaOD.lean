/- What the reference counts in a value. -/
import Derived.Test.YtommkigkkeailaaOC
namespace Go.Proofs.Ytommkigkkeailaa
set_option linter.unusedSimpArgs false
set_option linter.unusedVariables false
open Go Go.PL Go.RowKit

section
variable {P : Program} {n : Cx} {R : World → Prop} {L : Slots}
theorem q_maxN {x y : Operand} {at_ : Array TypeId} {a b : Nat} (hx : ev L x = some (.int .i64 ((a : Nat) : Int))) (hy : ev L y = some (.int .i64 ((b : Nat) : Int))) :
    QOp P n R L (.call { callee := .builtin .max, args := #[x, y], argTypes := at_ }) (.int .i64 ((max a b : Nat) : Int)) := by
  intro d ty pos af g ac w hs _
  simp only [execOp, resolve, invoke, builtin, List.map_toArray, List.map_cons, List.map_nil, hs.eval hx, hs.eval hy]
  simp [run_max_int2]
  split <;> omega
end
theorem badT_iff {t : UInt8} {b n : Nat} : badT t b n = true ↔ t.toNat = 0 ∨ (t.toNat < 128 ∧ 0 < n) ∨ (128 ≤ t.toNat ∧ 0 < b) := by
  have h1 : t = 0 ↔ t.toNat = 0 := ⟨fun h => by rw [h]; rfl, fun h => UInt8.toNat_inj.1 h⟩
  have h2 : t < 128 ↔ t.toNat < 128 := UInt8.lt_iff_toNat_lt
  have h3 : 128 ≤ t ↔ 128 ≤ t.toNat := UInt8.le_iff_toNat_le
  simp only [badT, Bool.or_eq_true, Bool.and_eq_true, decide_eq_true_eq, or_assoc, h1, h2, h3]
theorem shp_bad {t : UInt8} {bs : List UInt8} {l : List Tr} (h : t.toNat = 0 ∨ (t.toNat < 128 ∧ 0 < l.length) ∨ (128 ≤ t.toNat ∧ 0 < bs.length)) : Tr.shp (.nd t bs l) = false := by
  rw [Tr.shp, badT_iff.2 h]; rfl
theorem shp_good {t : UInt8} {bs : List UInt8} {l : List Tr} (h : ¬ (t.toNat = 0 ∨ (t.toNat < 128 ∧ 0 < l.length) ∨ (128 ≤ t.toNat ∧ 0 < bs.length))) : Tr.shp (.nd t bs l) = shpL l := by
  rw [Tr.shp, Bool.eq_false_iff.2 (fun hh => h (badT_iff.1 hh))]; rfl
theorem shpL_bad {l : List HT} {i : Nat} (h : i < l.length) (h2 : (l.getD i HT.z).tr.shp = false) : shpL (trs l) = false := by
  rw [trs_split h, shpL_app, shpL, h2]; simp
theorem tg0 {t : UInt8} : (t == 0) = true → t.toNat = 0 := fun h => by rw [beq_iff_eq] at h; rw [h]; rfl
theorem tg1 {t : UInt8} : (t == 0) = false → ¬ t.toNat = 0 := fun h hh => by
  have : t = 0 := UInt8.toNat_inj.1 hh
  rw [this] at h; exact absurd h (by decide)

mutual
def Lens : HT → Prop
  | .nd _ _ bs _ l => bs.length ≤ 140737488351232 ∧ LensL l
def LensL : List HT → Prop
  | [] => True
  | x :: l => Lens x ∧ LensL l
end
theorem LensL_iff : ∀ {l : List HT}, LensL l ↔ ∀ x ∈ l, Lens x
  | [] => by simp [LensL]
  | x :: l => by simp [LensL, LensL_iff (l := l)]
theorem byt_lens : ∀ (t : HT), Lens t → t.tr.byt ≤ t.tr.cnt * 140737488351232 := by
  intro t
  induction t using HT.ind with
  | _ tg bv bs lv l ih =>
    rintro ⟨h1, h2⟩
    have key : ∀ m : List HT, (∀ x ∈ m, x ∈ l) → bytL (trs m) ≤ cntL (trs m) * 140737488351232 := by
      intro m
      induction m with
      | nil => intro _; exact Nat.le_refl _
      | cons x m ihm =>
        intro hm
        have h3 := ih x (hm x (List.mem_cons_self ..)) (LensL_iff.1 h2 x (hm x (List.mem_cons_self ..)))
        have h4 := ihm (fun y hy => hm y (List.mem_cons_of_mem _ hy))
        rw [trs, bytL, cntL, Nat.add_mul]; omega
    have h3 := key l (fun _ hx => hx)
    show bs.length + bytL (trs l) ≤ (1 + cntL (trs l)) * 140737488351232
    rw [Nat.add_mul]; omega
def Wt (t : Tr) (d : Nat) (y : Nat × Int × Bool) : Prop := (y.2.2 = true ∧ t.dep ≤ d ∧ y.1 = t.cnt ∧ t.cnt ≤ 10000 * d + 1 ∧ (t.cnt ≤ 4200 → y.2.1 = ((t.byt : Nat) : Int))) ∨ (y.2.2 = false ∧ (d < t.dep ∨ 4200 < t.cnt))
def GreatT (t : Tr) : Prop := 30 < t.dep ∨ 4200 < t.cnt ∨ 80000 < t.byt
instance (t : Tr) : Decidable (GreatT t) := by unfold GreatT; infer_instance
theorem great_no {t : Tr} (h : ¬ GreatT t) : t.dep ≤ 30 ∧ t.cnt ≤ 4200 ∧ t.byt ≤ 80000 := by unfold GreatT at h; omega
theorem great_sm {t : Tr} (h : ¬ GreatT t) : Sm t := by have := great_no h; unfold Sm; omega

set_option maxRecDepth 100000 in
theorem refSize_step (t : HT) (w : World) (ht : HSeen w.cell? t) (hsm : Sm t.tr) (ih : ∀ x ∈ t.kids, ∀ (w : World), HSeen w.cell? x → Sm x.tr → Calls Try.prog 51 [.agg x.c.toArray].toArray w (Pur w (.int .i64 ((x.tr.siz : Nat) : Int)))) :
    Calls Try.prog 51 [.agg t.c.toArray].toArray w (Pur w (.int .i64 ((t.tr.siz : Nat) : Int))) := by
  obtain ⟨tg, bv, bs, lv, l⟩ := t
  have hb := ht.1
  have hk := ht.2.1
  have svb := hb.sv
  have svl := hk.sv
  have lb := svb.le
  have ll := svl.le
  simp only [maxLen] at lb ll
  refine enter (m := 29) (R := Mem w [] [] []) Try.func51 rfl rfl (Nat.le_of_ble_eq_true rfl) (Mem.start w) ?_
  refine wpc_seq ?_
  refine wpc_region ?_
  refine wpl_t (t_box rfl [.int .u8 (tg.toNat : Int), bv, lv] rfl) rfl (fun b1 => ?_)
  refine wpl_q (q_pure rfl) rfl ?_
  refine wpl_nil ?_
  refine ex_then ?_
  refine wpc_seq ?_
  refine wpc_region ?_
  refine wpl_q (q_field Try.underlying25 rfl Try.ti22 rfl rfl _ rfl) rfl ?_
  refine wpl_q (q_ld Try.underlying22 rfl rfl rfl) rfl ?_
  refine wpl_q (q_lenW Try.underlying22 rfl (by first | assumption | exact SV.nil | exact SV.slv (by assumption) (by omega) (by omega) | exact arv_sv (by first | decide | (simp only [maxLen]; omega)))) rfl ?_
  refine wpl_q (q_pure rfl) rfl ?_
  refine wpl_nil ?_
  refine ex_then ?_
  refine wpc_seq ?_
  refine wpc_seq ?_
  refine wpc_region ?_
  refine wpl_q (q_pure rfl) rfl ?_
  refine wpl_nil ?_
  refine ex_then ?_
  refine wpc_block ?_
  refine wpc_loopc (ι := { x : Nat // (x ≤ l.length) }) [(1, _)] (fun x Lc => (4, .int .i64 ((x.1 : Nat) : Int)) :: (3, .int .i64 ((bs.length + sizL (trs (l.take x.1)) : Nat) : Int)) :: Lc) (fun x => Mem w [] [.blk b1 25 [.int .u8 (tg.toNat : Int), bv, lv]] []) (fun x => l.length - x.1) ⟨0, (Nat.zero_le _)⟩ (by repeat (first | exact trivial | refine ⟨rfl, ?_⟩)) ?_ ?_
  ·
   exact fun w h => h
  ·
   rintro ⟨i, hi0⟩; try dsimp only
   have hi0 : i ≤ l.length := hi0
   refine wpc_seq ?_
   refine wpc_seq ?_
   refine wpc_region ?_
   refine wpl_q (q_pure rfl) rfl ?_
   refine wpl_q (q_field Try.underlying25 rfl Try.ti23 rfl rfl _ rfl) rfl ?_
   refine wpl_q (q_ld Try.underlying23 rfl rfl rfl) rfl ?_
   refine wpl_q (q_lenW Try.underlying23 rfl (by first | assumption | exact SV.nil | exact SV.slv (by assumption) (by omega) (by omega) | exact arv_sv (by first | decide | (simp only [maxLen]; omega)))) rfl ?_
   refine wpl_q (q_pure rfl) rfl ?_
   refine wpl_nil ?_
   refine ex_then ?_
   refine wpc_cond rfl (fun hc12 => ?_) (fun hc12 => ?_)
   ·
    simp only [decide_eq_true_eq] at hc12
    have hil : i < l.length := by omega
    haveI := (ht.kid hil).sv.one
    have hs1 := sizL_take hil
    have hs2 := sizL_kid hil
    have hs3 := content_le hsm
    refine wpc_skip ?_
    refine ex_then ?_
    refine wpc_seq ?_
    refine wpc_block ?_
    refine wpc_region ?_
    refine wpl_q (q_pure rfl) rfl ?_
    refine wpl_q (q_field Try.underlying25 rfl Try.ti23 rfl rfl _ rfl) rfl ?_
    refine wpl_q (q_ld Try.underlying23 rfl rfl rfl) rfl ?_
    refine wpl_q (q_pure rfl) rfl ?_
    refine wpl_q (q_idxW Try.underlying23 Try.ti25 rfl rfl (by first | assumption | exact SV.nil | exact SV.slv (by assumption) (by omega) (by omega) | exact arv_sv (by first | decide | (simp only [maxLen]; omega))) (by first | omega | (simp only [maxLen]; omega) | (simp only [List.length_append, List.length_cons, List.length_nil, List.length_take, maxLen]; omega) | (simp only [List.length_append, List.length_cons, List.length_nil, List.length_take]; omega))) rfl ?_
    refine wpl_q (q_ldWN Try.underlying25 rfl Try.ti25 rfl (fun w h => h.seen_old hk) (l.getD i HT.z).c (cat_part HT.c_length HT.z hil) (HT.c_length _)) rfl ?_
    refine wpl_t (t_pur Try.hb51 rfl fun w h => ih (l.getD i HT.z) (getD_memH hil) w ((ht.kid hil).old h) (hsm.kid hil)) rfl (fun b21 => ?_)
    refine wpl_q (q_addN rfl rfl (by first | omega | (simp only [maxLen]; omega) | (simp only [List.length_append, List.length_cons, List.length_nil, List.length_take, maxLen]; omega) | (simp only [List.length_append, List.length_cons, List.length_nil, List.length_take]; omega))) rfl ?_
    refine wpl_re 22 rfl (congrArg (fun n : Nat => Value.int .i64 (n : Int)) (show bs.length + sizL (trs (l.take i)) + (l.getD i HT.z).tr.siz = bs.length + sizL (trs (l.take (i + 1))) by omega)) ?_
    refine wpl_q (q_pure rfl) rfl ?_
    refine wpl_nil ?_
    refine ex_block ?_
    refine ex_then ?_
    refine wpc_region ?_
    refine wpl_q (q_pure rfl) rfl ?_
    refine wpl_q (q_addN (b := 1) rfl rfl (by first | omega | (simp only [maxLen]; omega) | (simp only [List.length_append, List.length_cons, List.length_nil, List.length_take, maxLen]; omega) | (simp only [List.length_append, List.length_cons, List.length_nil, List.length_take]; omega))) rfl ?_
    refine wpl_q (q_pure rfl) rfl ?_
    refine wpl_nil ?_
    refine ex_again ⟨i + 1, (by omega)⟩ ?_ ?_ ?_
    ·
     exact (by repeat (first | exact trivial | refine ⟨rfl, ?_⟩))
    ·
     exact fun w h => h
    ·
     (show l.length - (i + 1) < l.length - i); omega
   ·
    simp only [decide_eq_false_iff_not] at hc12
    obtain rfl : i = l.length := by omega
    rw [List.take_length]
    have hs3 := content_le hsm
    have hw := wideF_le (bs.length + sizL (trs l)) (by omega)
    have hw2 := lenB_length (n := bs.length + sizL (trs l)) (by omega)
    refine wpc_exit ?_
    refine ex_then_exit ?_
    refine ex_then_exit ?_
    refine ex_block_hit ?_
    refine ex_then ?_
    refine wpc_seq ?_
    refine wpc_region ?_
    refine wpl_q (q_pure rfl) rfl ?_
    refine wpl_tp (t_callP1 Try.hb63 rfl fun w h => refLength _ w (by omega)) rfl (fun b24 p24 => ?_)
    refine wpl_q (q_lenW Try.underlying22 rfl (by first | assumption | exact SV.nil | exact SV.slv (by assumption) (by omega) (by omega) | exact arv_sv (by first | decide | (simp only [maxLen]; omega)))) rfl ?_
    refine wpl_q (q_addN (a := 1) rfl rfl (by first | omega | (simp only [maxLen]; omega) | (simp only [List.length_append, List.length_cons, List.length_nil, List.length_take, maxLen]; omega) | (simp only [List.length_append, List.length_cons, List.length_nil, List.length_take]; omega))) rfl ?_
    refine wpl_q (q_pure rfl) rfl ?_
    refine wpl_q (q_addN rfl rfl (by first | omega | (simp only [maxLen]; omega) | (simp only [List.length_append, List.length_cons, List.length_nil, List.length_take, maxLen]; omega) | (simp only [List.length_append, List.length_cons, List.length_nil, List.length_take]; omega))) rfl ?_
    refine wpl_q (q_pure rfl) rfl ?_
    refine wpl_nil ?_
    refine ex_then ?_
    refine wpc_ret ?_
    refine ret1 (.inl rfl) rfl rfl ?_
    exact fun w h => ⟨by rw [hw2]; rfl, h.below⟩
theorem refSize : ∀ (t : HT) (w : World), HSeen w.cell? t → Sm t.tr → Calls Try.prog 51 [.agg t.c.toArray].toArray w (Pur w (.int .i64 ((t.tr.siz : Nat) : Int))) := by
  intro t
  induction t using HT.ind with
  | _ tg bv bs lv l ih => intro w h hs; exact refSize_step _ w h hs (fun x hx w hx' hs' => ih x hx w hx' hs')

set_option maxRecDepth 100000 in
theorem refCount_step (t : HT) (w : World) (ht : HSeen w.cell? t) (hsm : t.tr.cnt ≤ 1000000) (ih : ∀ x ∈ t.kids, ∀ (w : World), HSeen w.cell? x → x.tr.cnt ≤ 1000000 → Calls Try.prog 48 [.agg x.c.toArray].toArray w (Pur w (.int .i64 ((x.tr.cnt : Nat) : Int)))) :
    Calls Try.prog 48 [.agg t.c.toArray].toArray w (Pur w (.int .i64 ((t.tr.cnt : Nat) : Int))) := by
  obtain ⟨tg, bv, bs, lv, l⟩ := t
  have hb := ht.1
  have hk := ht.2.1
  have svb := hb.sv
  have svl := hk.sv
  have lb := svb.le
  have ll := svl.le
  simp only [maxLen] at lb ll
  refine enter (m := 21) (R := Mem w [] [] []) Try.func48 rfl rfl (Nat.le_of_ble_eq_true rfl) (Mem.start w) ?_
  refine wpc_seq ?_
  refine wpc_region ?_
  refine wpl_t (t_box rfl [.int .u8 (tg.toNat : Int), bv, lv] rfl) rfl (fun b1 => ?_)
  refine wpl_q (q_pure rfl) rfl ?_
  refine wpl_nil ?_
  refine ex_then ?_
  refine wpc_seq ?_
  refine wpc_region ?_
  refine wpl_q (q_pure rfl) rfl ?_
  refine wpl_nil ?_
  refine ex_then ?_
  refine wpc_seq ?_
  refine wpc_seq ?_
  refine wpc_region ?_
  refine wpl_q (q_pure rfl) rfl ?_
  refine wpl_nil ?_
  refine ex_then ?_
  refine wpc_block ?_
  refine wpc_loopc (ι := { x : Nat // (x ≤ l.length) }) [(1, _)] (fun x Lc => (4, .int .i64 ((x.1 : Nat) : Int)) :: (3, .int .i64 ((1 + cntL (trs (l.take x.1)) : Nat) : Int)) :: Lc) (fun x => Mem w [] [.blk b1 25 [.int .u8 (tg.toNat : Int), bv, lv]] []) (fun x => l.length - x.1) ⟨0, (Nat.zero_le _)⟩ (by repeat (first | exact trivial | refine ⟨rfl, ?_⟩)) ?_ ?_
  ·
   exact fun w h => h
  ·
   rintro ⟨i, hi0⟩; try dsimp only
   have hi0 : i ≤ l.length := hi0
   refine wpc_seq ?_
   refine wpc_seq ?_
   refine wpc_region ?_
   refine wpl_q (q_pure rfl) rfl ?_
   refine wpl_q (q_field Try.underlying25 rfl Try.ti23 rfl rfl _ rfl) rfl ?_
   refine wpl_q (q_ld Try.underlying23 rfl rfl rfl) rfl ?_
   refine wpl_q (q_lenW Try.underlying23 rfl (by first | assumption | exact SV.nil | exact SV.slv (by assumption) (by omega) (by omega) | exact arv_sv (by first | decide | (simp only [maxLen]; omega)))) rfl ?_
   refine wpl_q (q_pure rfl) rfl ?_
   refine wpl_nil ?_
   refine ex_then ?_
   refine wpc_cond rfl (fun hc9 => ?_) (fun hc9 => ?_)
   ·
    simp only [decide_eq_true_eq] at hc9
    have hil : i < l.length := by omega
    haveI := (ht.kid hil).sv.one
    have hs1 := cntL_take hil
    have hs2 := cntL_kid hil
    have hs3 : 1 + cntL (trs l) ≤ 1000000 := hsm
    refine wpc_skip ?_
    refine ex_then ?_
    refine wpc_seq ?_
    refine wpc_block ?_
    refine wpc_region ?_
    refine wpl_q (q_pure rfl) rfl ?_
    refine wpl_q (q_field Try.underlying25 rfl Try.ti23 rfl rfl _ rfl) rfl ?_
    refine wpl_q (q_ld Try.underlying23 rfl rfl rfl) rfl ?_
    refine wpl_q (q_pure rfl) rfl ?_
    refine wpl_q (q_idxW Try.underlying23 Try.ti25 rfl rfl (by first | assumption | exact SV.nil | exact SV.slv (by assumption) (by omega) (by omega) | exact arv_sv (by first | decide | (simp only [maxLen]; omega))) (by first | omega | (simp only [maxLen]; omega) | (simp only [List.length_append, List.length_cons, List.length_nil, List.length_take, maxLen]; omega) | (simp only [List.length_append, List.length_cons, List.length_nil, List.length_take]; omega))) rfl ?_
    refine wpl_q (q_ldWN Try.underlying25 rfl Try.ti25 rfl (fun w h => h.seen_old hk) (l.getD i HT.z).c (cat_part HT.c_length HT.z hil) (HT.c_length _)) rfl ?_
    refine wpl_t (t_pur Try.hb48 rfl fun w h => ih (l.getD i HT.z) (getD_memH hil) w ((ht.kid hil).old h) (show (l.getD i HT.z).tr.cnt ≤ 1000000 by omega)) rfl (fun b18 => ?_)
    refine wpl_q (q_addN rfl rfl (by first | omega | (simp only [maxLen]; omega) | (simp only [List.length_append, List.length_cons, List.length_nil, List.length_take, maxLen]; omega) | (simp only [List.length_append, List.length_cons, List.length_nil, List.length_take]; omega))) rfl ?_
    refine wpl_re 19 rfl (congrArg (fun n : Nat => Value.int .i64 (n : Int)) (show 1 + cntL (trs (l.take i)) + (l.getD i HT.z).tr.cnt = 1 + cntL (trs (l.take (i + 1))) by omega)) ?_
    refine wpl_q (q_pure rfl) rfl ?_
    refine wpl_nil ?_
    refine ex_block ?_
    refine ex_then ?_
    refine wpc_region ?_
    refine wpl_q (q_pure rfl) rfl ?_
    refine wpl_q (q_addN (b := 1) rfl rfl (by first | omega | (simp only [maxLen]; omega) | (simp only [List.length_append, List.length_cons, List.length_nil, List.length_take, maxLen]; omega) | (simp only [List.length_append, List.length_cons, List.length_nil, List.length_take]; omega))) rfl ?_
    refine wpl_q (q_pure rfl) rfl ?_
    refine wpl_nil ?_
    refine ex_again ⟨i + 1, (by omega)⟩ ?_ ?_ ?_
    ·
     exact (by repeat (first | exact trivial | refine ⟨rfl, ?_⟩))
    ·
     exact fun w h => h
    ·
     (show l.length - (i + 1) < l.length - i); omega
   ·
    simp only [decide_eq_false_iff_not] at hc9
    obtain rfl : i = l.length := by omega
    rw [List.take_length]
    refine wpc_exit ?_
    refine ex_then_exit ?_
    refine ex_then_exit ?_
    refine ex_block_hit ?_
    refine ex_then ?_
    refine wpc_seq ?_
    refine wpc_region ?_
    refine wpl_q (q_pure rfl) rfl ?_
    refine wpl_q (q_pure rfl) rfl ?_
    refine wpl_nil ?_
    refine ex_then ?_
    refine wpc_ret ?_
    refine ret1 (.inl rfl) rfl rfl ?_
    exact fun w h => ⟨rfl, h.below⟩
theorem refCount : ∀ (t : HT) (w : World), HSeen w.cell? t → t.tr.cnt ≤ 1000000 → Calls Try.prog 48 [.agg t.c.toArray].toArray w (Pur w (.int .i64 ((t.tr.cnt : Nat) : Int))) := by
  intro t
  induction t using HT.ind with
  | _ tg bv bs lv l ih => intro w h hs; exact refCount_step _ w h hs (fun x hx w hx' hs' => ih x hx w hx' hs')

set_option maxRecDepth 100000 in
theorem refDepth_step (t : HT) (w : World) (ht : HSeen w.cell? t) (hsm : t.tr.dep ≤ 1000000) (ih : ∀ x ∈ t.kids, ∀ (w : World), HSeen w.cell? x → x.tr.dep ≤ 1000000 → Calls Try.prog 49 [.agg x.c.toArray].toArray w (Pur w (.int .i64 ((x.tr.dep : Nat) : Int)))) :
    Calls Try.prog 49 [.agg t.c.toArray].toArray w (Pur w (.int .i64 ((t.tr.dep : Nat) : Int))) := by
  obtain ⟨tg, bv, bs, lv, l⟩ := t
  have hb := ht.1
  have hk := ht.2.1
  have svb := hb.sv
  have svl := hk.sv
  have lb := svb.le
  have ll := svl.le
  simp only [maxLen] at lb ll
  refine enter (m := 22) (R := Mem w [] [] []) Try.func49 rfl rfl (Nat.le_of_ble_eq_true rfl) (Mem.start w) ?_
  refine wpc_seq ?_
  refine wpc_region ?_
  refine wpl_t (t_box rfl [.int .u8 (tg.toNat : Int), bv, lv] rfl) rfl (fun b1 => ?_)
  refine wpl_q (q_pure rfl) rfl ?_
  refine wpl_nil ?_
  refine ex_then ?_
  refine wpc_seq ?_
  refine wpc_region ?_
  refine wpl_q (q_pure rfl) rfl ?_
  refine wpl_nil ?_
  refine ex_then ?_
  refine wpc_seq ?_
  refine wpc_seq ?_
  refine wpc_region ?_
  refine wpl_q (q_pure rfl) rfl ?_
  refine wpl_nil ?_
  refine ex_then ?_
  refine wpc_block ?_
  refine wpc_loopc (ι := { x : Nat // (x ≤ l.length) }) [(1, _)] (fun x Lc => (4, .int .i64 ((x.1 : Nat) : Int)) :: (3, .int .i64 ((depL (trs (l.take x.1)) : Nat) : Int)) :: Lc) (fun x => Mem w [] [.blk b1 25 [.int .u8 (tg.toNat : Int), bv, lv]] []) (fun x => l.length - x.1) ⟨0, (Nat.zero_le _)⟩ (by repeat (first | exact trivial | refine ⟨rfl, ?_⟩)) ?_ ?_
  ·
   exact fun w h => h
  ·
   rintro ⟨i, hi0⟩; try dsimp only
   have hi0 : i ≤ l.length := hi0
   refine wpc_seq ?_
   refine wpc_seq ?_
   refine wpc_region ?_
   refine wpl_q (q_pure rfl) rfl ?_
   refine wpl_q (q_field Try.underlying25 rfl Try.ti23 rfl rfl _ rfl) rfl ?_
   refine wpl_q (q_ld Try.underlying23 rfl rfl rfl) rfl ?_
   refine wpl_q (q_lenW Try.underlying23 rfl (by first | assumption | exact SV.nil | exact SV.slv (by assumption) (by omega) (by omega) | exact arv_sv (by first | decide | (simp only [maxLen]; omega)))) rfl ?_
   refine wpl_q (q_pure rfl) rfl ?_
   refine wpl_nil ?_
   refine ex_then ?_
   refine wpc_cond rfl (fun hc9 => ?_) (fun hc9 => ?_)
   ·
    simp only [decide_eq_true_eq] at hc9
    have hil : i < l.length := by omega
    haveI := (ht.kid hil).sv.one
    have hs1 := depL_take hil
    have hs2 := depL_kid hil
    have hs3 : depL (trs l) + 1 ≤ 1000000 := hsm
    refine wpc_skip ?_
    refine ex_then ?_
    refine wpc_seq ?_
    refine wpc_block ?_
    refine wpc_region ?_
    refine wpl_q (q_pure rfl) rfl ?_
    refine wpl_q (q_field Try.underlying25 rfl Try.ti23 rfl rfl _ rfl) rfl ?_
    refine wpl_q (q_ld Try.underlying23 rfl rfl rfl) rfl ?_
    refine wpl_q (q_pure rfl) rfl ?_
    refine wpl_q (q_idxW Try.underlying23 Try.ti25 rfl rfl (by first | assumption | exact SV.nil | exact SV.slv (by assumption) (by omega) (by omega) | exact arv_sv (by first | decide | (simp only [maxLen]; omega))) (by first | omega | (simp only [maxLen]; omega) | (simp only [List.length_append, List.length_cons, List.length_nil, List.length_take, maxLen]; omega) | (simp only [List.length_append, List.length_cons, List.length_nil, List.length_take]; omega))) rfl ?_
    refine wpl_q (q_ldWN Try.underlying25 rfl Try.ti25 rfl (fun w h => h.seen_old hk) (l.getD i HT.z).c (cat_part HT.c_length HT.z hil) (HT.c_length _)) rfl ?_
    refine wpl_t (t_pur Try.hb49 rfl fun w h => ih (l.getD i HT.z) (getD_memH hil) w ((ht.kid hil).old h) (show (l.getD i HT.z).tr.dep ≤ 1000000 by omega)) rfl (fun b18 => ?_)
    refine wpl_q (q_maxN rfl rfl) rfl ?_
    refine wpl_re 19 rfl (congrArg (fun n : Nat => Value.int .i64 (n : Int)) (show max (depL (trs (l.take i))) (l.getD i HT.z).tr.dep = depL (trs (l.take (i + 1))) by omega)) ?_
    refine wpl_q (q_pure rfl) rfl ?_
    refine wpl_nil ?_
    refine ex_block ?_
    refine ex_then ?_
    refine wpc_region ?_
    refine wpl_q (q_pure rfl) rfl ?_
    refine wpl_q (q_addN (b := 1) rfl rfl (by first | omega | (simp only [maxLen]; omega) | (simp only [List.length_append, List.length_cons, List.length_nil, List.length_take, maxLen]; omega) | (simp only [List.length_append, List.length_cons, List.length_nil, List.length_take]; omega))) rfl ?_
    refine wpl_q (q_pure rfl) rfl ?_
    refine wpl_nil ?_
    refine ex_again ⟨i + 1, (by omega)⟩ ?_ ?_ ?_
    ·
     exact (by repeat (first | exact trivial | refine ⟨rfl, ?_⟩))
    ·
     exact fun w h => h
    ·
     (show l.length - (i + 1) < l.length - i); omega
   ·
    simp only [decide_eq_false_iff_not] at hc9
    obtain rfl : i = l.length := by omega
    rw [List.take_length]
    have hs3 : depL (trs l) + 1 ≤ 1000000 := hsm
    refine wpc_exit ?_
    refine ex_then_exit ?_
    refine ex_then_exit ?_
    refine ex_block_hit ?_
    refine ex_then ?_
    refine wpc_seq ?_
    refine wpc_region ?_
    refine wpl_q (q_pure rfl) rfl ?_
    refine wpl_q (q_addN (b := 1) rfl rfl (by first | omega | (simp only [maxLen]; omega) | (simp only [List.length_append, List.length_cons, List.length_nil, List.length_take, maxLen]; omega) | (simp only [List.length_append, List.length_cons, List.length_nil, List.length_take]; omega))) rfl ?_
    refine wpl_q (q_pure rfl) rfl ?_
    refine wpl_nil ?_
    refine ex_then ?_
    refine wpc_ret ?_
    refine ret1 (.inl rfl) rfl rfl ?_
    exact fun w h => ⟨rfl, h.below⟩
theorem refDepth : ∀ (t : HT) (w : World), HSeen w.cell? t → t.tr.dep ≤ 1000000 → Calls Try.prog 49 [.agg t.c.toArray].toArray w (Pur w (.int .i64 ((t.tr.dep : Nat) : Int))) := by
  intro t
  induction t using HT.ind with
  | _ tg bv bs lv l ih => intro w h hs; exact refDepth_step _ w h hs (fun x hx w hx' hs' => ih x hx w hx' hs')

set_option maxRecDepth 100000 in
theorem refShaped_step (t : HT) (w : World) (ht : HSeen w.cell? t) (hsm : True) (ih : ∀ x ∈ t.kids, ∀ (w : World), HSeen w.cell? x → True → Calls Try.prog 50 [.agg x.c.toArray].toArray w (Pur w (.bool x.tr.shp))) :
    Calls Try.prog 50 [.agg t.c.toArray].toArray w (Pur w (.bool t.tr.shp)) := by
  obtain ⟨tg, bv, bs, lv, l⟩ := t
  have hb := ht.1
  have hk := ht.2.1
  have svb := hb.sv
  have svl := hk.sv
  have lb := svb.le
  have ll := svl.le
  simp only [maxLen] at lb ll
  refine enter (m := 43) (R := Mem w [] [] []) Try.func50 rfl rfl (Nat.le_of_ble_eq_true rfl) (Mem.start w) ?_
  refine wpc_seq ?_
  refine wpc_region ?_
  refine wpl_t (t_box rfl [.int .u8 (tg.toNat : Int), bv, lv] rfl) rfl (fun b1 => ?_)
  refine wpl_q (q_pure rfl) rfl ?_
  refine wpl_nil ?_
  refine ex_then ?_
  refine wpc_seq ?_
  refine wpc_seq ?_
  refine wpc_region ?_
  refine wpl_q (q_field Try.underlying25 rfl Try.ti5 rfl rfl _ rfl) rfl ?_
  refine wpl_q (q_ld Try.underlying5 rfl rfl (by first | exact v8s_get (by first | decide | omega | exact Nat.zero_lt_one | (simp; omega) | (simp; done) | (simp only [v8s_length, v32s_length, vis_length, vns_length, v64s_length]; omega)) | rfl)) rfl ?_
  refine wpl_q (q8_eql (b := (0 : UInt8)) rfl rfl) rfl ?_
  refine wpl_q (q_pure rfl) rfl ?_
  refine wpl_bool2 7 6 rfl rfl (fun hb7 => ?_) (fun hb7 => ?_)
  ·
   have h0 := tg0 hb7
   refine wpl_off rfl rfl rfl rfl ?_
   refine wpl_off rfl rfl rfl rfl ?_
   refine wpl_off rfl rfl rfl rfl ?_
   refine wpl_off rfl rfl rfl rfl ?_
   refine wpl_off rfl rfl rfl rfl ?_
   refine wpl_off rfl rfl rfl rfl ?_
   refine wpl_off rfl rfl rfl rfl ?_
   refine wpl_off rfl rfl rfl rfl ?_
   refine wpl_off rfl rfl rfl rfl ?_
   refine wpl_q (q_pure rfl) rfl ?_
   refine wpl_q (q_pure rfl) rfl ?_
   refine wpl_off rfl rfl rfl rfl ?_
   refine wpl_off rfl rfl rfl rfl ?_
   refine wpl_off rfl rfl rfl rfl ?_
   refine wpl_off rfl rfl rfl rfl ?_
   refine wpl_off rfl rfl rfl rfl ?_
   refine wpl_off rfl rfl rfl rfl ?_
   refine wpl_off rfl rfl rfl rfl ?_
   refine wpl_off rfl rfl rfl rfl ?_
   refine wpl_off rfl rfl rfl rfl ?_
   refine wpl_q (q_pure rfl) rfl ?_
   refine wpl_nil ?_
   refine ex_then ?_
   refine wpc_cond_t rfl ?_
   refine wpc_seq ?_
   refine wpc_region ?_
   refine wpl_q (q_pure rfl) rfl ?_
   refine wpl_nil ?_
   refine ex_then ?_
   refine wpc_ret ?_
   refine ex_then_ret ?_
   refine ret1 (.inl rfl) rfl rfl ?_
   exact fun w h => ⟨by
     have hb := shp_bad (t := tg) (bs := bs) (l := trs l) (by rw [trs_length]; simp only [decide_eq_true_eq, decide_eq_false_iff_not, gt_iff_lt, ge_iff_le] at *; omega)
     show Ending.returned (.bool false) = .returned (.bool (Tr.shp (.nd tg bs (trs l))))
     rw [hb], h.below⟩
  ·
   have h0 := tg1 hb7
   refine wpl_on rfl rfl ?_
   refine wpl_q (q_field Try.underlying25 rfl Try.ti5 rfl rfl _ rfl) rfl ?_
   refine wpl_on rfl rfl ?_
   refine wpl_q (q_ld Try.underlying5 rfl rfl (by first | exact v8s_get (by first | decide | omega | exact Nat.zero_lt_one | (simp; omega) | (simp; done) | (simp only [v8s_length, v32s_length, vis_length, vns_length, v64s_length]; omega)) | rfl)) rfl ?_
   refine wpl_on rfl rfl ?_
   refine wpl_q (q_pure rfl) rfl ?_
   refine wpl_on rfl rfl ?_
   refine wpl_q (q_pure rfl) rfl ?_
   refine wpl_bool2 11 10 rfl rfl (fun hb11 => ?_) (fun hb11 => ?_)
   ·
    refine wpl_on rfl rfl ?_
    refine wpl_q (q_field Try.underlying25 rfl Try.ti23 rfl rfl _ rfl) rfl ?_
    refine wpl_on rfl rfl ?_
    refine wpl_q (q_ld Try.underlying23 rfl rfl rfl) rfl ?_
    refine wpl_on rfl rfl ?_
    refine wpl_q (q_lenW Try.underlying23 rfl (by first | assumption | exact SV.nil | exact SV.slv (by assumption) (by omega) (by omega) | exact arv_sv (by first | decide | (simp only [maxLen]; omega)))) rfl ?_
    refine wpl_on rfl rfl ?_
    refine wpl_q (q_pure rfl) rfl ?_
    refine wpl_on rfl rfl ?_
    refine wpl_q (q_pure rfl) rfl ?_
    refine wpl_q (q_pure rfl) rfl ?_
    refine wpl_q (q_pure rfl) rfl ?_
    refine wpl_bool2 18 15 rfl rfl (fun hb18 => ?_) (fun hb18 => ?_)
    ·
     refine wpl_off rfl rfl rfl rfl ?_
     refine wpl_off rfl rfl rfl rfl ?_
     refine wpl_off rfl rfl rfl rfl ?_
     refine wpl_off rfl rfl rfl rfl ?_
     refine wpl_off rfl rfl rfl rfl ?_
     refine wpl_off rfl rfl rfl rfl ?_
     refine wpl_off rfl rfl rfl rfl ?_
     refine wpl_off rfl rfl rfl rfl ?_
     refine wpl_off rfl rfl rfl rfl ?_
     refine wpl_q (q_pure rfl) rfl ?_
     refine wpl_nil ?_
     refine ex_then ?_
     refine wpc_cond_t rfl ?_
     refine wpc_seq ?_
     refine wpc_region ?_
     refine wpl_q (q_pure rfl) rfl ?_
     refine wpl_nil ?_
     refine ex_then ?_
     refine wpc_ret ?_
     refine ex_then_ret ?_
     refine ret1 (.inl rfl) rfl rfl ?_
     exact fun w h => ⟨by
       have hb := shp_bad (t := tg) (bs := bs) (l := trs l) (by rw [trs_length]; simp only [decide_eq_true_eq, decide_eq_false_iff_not, gt_iff_lt, ge_iff_le] at *; omega)
       show Ending.returned (.bool false) = .returned (.bool (Tr.shp (.nd tg bs (trs l))))
       rw [hb], h.below⟩
    ·
     refine wpl_on rfl rfl ?_
     refine wpl_q (q_field Try.underlying25 rfl Try.ti5 rfl rfl _ rfl) rfl ?_
     refine wpl_on rfl rfl ?_
     refine wpl_q (q_ld Try.underlying5 rfl rfl (by first | exact v8s_get (by first | decide | omega | exact Nat.zero_lt_one | (simp; omega) | (simp; done) | (simp only [v8s_length, v32s_length, vis_length, vns_length, v64s_length]; omega)) | rfl)) rfl ?_
     refine wpl_on rfl rfl ?_
     refine wpl_q (q_pure rfl) rfl ?_
     refine wpl_on rfl rfl ?_
     refine wpl_q (q_pure rfl) rfl ?_
     refine wpl_bool2 22 21 rfl rfl (fun hb22 => ?_) (fun hb22 => ?_)
     ·
      refine wpl_on rfl rfl ?_
      refine wpl_q (q_field Try.underlying25 rfl Try.ti22 rfl rfl _ rfl) rfl ?_
      refine wpl_on rfl rfl ?_
      refine wpl_q (q_ld Try.underlying22 rfl rfl rfl) rfl ?_
      refine wpl_on rfl rfl ?_
      refine wpl_q (q_lenW Try.underlying22 rfl (by first | assumption | exact SV.nil | exact SV.slv (by assumption) (by omega) (by omega) | exact arv_sv (by first | decide | (simp only [maxLen]; omega)))) rfl ?_
      refine wpl_on rfl rfl ?_
      refine wpl_q (q_pure rfl) rfl ?_
      refine wpl_on rfl rfl ?_
      refine wpl_q (q_pure rfl) rfl ?_
      refine wpl_q (q_pure rfl) rfl ?_
      refine wpl_nil ?_
      refine ex_then ?_
      refine wpc_cond rfl (fun hc28 => ?_) (fun hc28 => ?_)
      ·
       refine wpc_seq ?_
       refine wpc_region ?_
       refine wpl_q (q_pure rfl) rfl ?_
       refine wpl_nil ?_
       refine ex_then ?_
       refine wpc_ret ?_
       refine ex_then_ret ?_
       refine ret1 (.inl rfl) rfl rfl ?_
       exact fun w h => ⟨by
         have hb := shp_bad (t := tg) (bs := bs) (l := trs l) (by rw [trs_length]; simp only [decide_eq_true_eq, decide_eq_false_iff_not, gt_iff_lt, ge_iff_le] at *; omega)
         show Ending.returned (.bool false) = .returned (.bool (Tr.shp (.nd tg bs (trs l))))
         rw [hb], h.below⟩
      ·
       refine wpc_skip ?_
       refine ex_then ?_
       refine wpc_seq ?_
       refine wpc_seq ?_
       refine wpc_region ?_
       refine wpl_q (q_pure rfl) rfl ?_
       refine wpl_nil ?_
       refine ex_then ?_
       refine wpc_block ?_
       refine wpc_loopc (ι := { x : Nat // (x ≤ l.length) ∧ (shpL (trs (l.take x)) = true) }) [(1, _)] (fun x Lc => (3, .int .i64 ((x.1 : Nat) : Int)) :: Lc) (fun x => Mem w [] [.blk b1 25 [.int .u8 (tg.toNat : Int), bv, lv]] []) (fun x => l.length - x.1) ⟨0, ⟨Nat.zero_le _, rfl⟩⟩ (by repeat (first | exact trivial | refine ⟨rfl, ?_⟩)) ?_ ?_
       ·
        exact fun w h => h
       ·
        rintro ⟨i, ⟨hi0, hi1⟩⟩; try dsimp only
        have hi0 : i ≤ l.length := hi0; have hi1 : shpL (trs (l.take i)) = true := hi1
        refine wpc_seq ?_
        refine wpc_seq ?_
        refine wpc_region ?_
        refine wpl_q (q_pure rfl) rfl ?_
        refine wpl_q (q_field Try.underlying25 rfl Try.ti23 rfl rfl _ rfl) rfl ?_
        refine wpl_q (q_ld Try.underlying23 rfl rfl rfl) rfl ?_
        refine wpl_q (q_lenW Try.underlying23 rfl (by first | assumption | exact SV.nil | exact SV.slv (by assumption) (by omega) (by omega) | exact arv_sv (by first | decide | (simp only [maxLen]; omega)))) rfl ?_
        refine wpl_q (q_pure rfl) rfl ?_
        refine wpl_nil ?_
        refine ex_then ?_
        refine wpc_cond rfl (fun hc33 => ?_) (fun hc33 => ?_)
        ·
         simp only [decide_eq_true_eq] at hc33
         have hil : i < l.length := by omega
         haveI := (ht.kid hil).sv.one
         refine wpc_skip ?_
         refine ex_then ?_
         refine wpc_seq ?_
         refine wpc_block ?_
         refine wpc_seq ?_
         refine wpc_region ?_
         refine wpl_q (q_field Try.underlying25 rfl Try.ti23 rfl rfl _ rfl) rfl ?_
         refine wpl_q (q_ld Try.underlying23 rfl rfl rfl) rfl ?_
         refine wpl_q (q_pure rfl) rfl ?_
         refine wpl_q (q_idxW Try.underlying23 Try.ti25 rfl rfl (by first | assumption | exact SV.nil | exact SV.slv (by assumption) (by omega) (by omega) | exact arv_sv (by first | decide | (simp only [maxLen]; omega))) (by first | omega | (simp only [maxLen]; omega) | (simp only [List.length_append, List.length_cons, List.length_nil, List.length_take, maxLen]; omega) | (simp only [List.length_append, List.length_cons, List.length_nil, List.length_take]; omega))) rfl ?_
         refine wpl_q (q_ldWN Try.underlying25 rfl Try.ti25 rfl (fun w h => h.seen_old hk) (l.getD i HT.z).c (cat_part HT.c_length HT.z hil) (HT.c_length _)) rfl ?_
         refine wpl_t (t_pur Try.hb50 rfl fun w h => ih (l.getD i HT.z) (getD_memH hil) w ((ht.kid hil).old h) trivial) rfl (fun b41 => ?_)
         refine wpl_q (q_pure rfl) rfl ?_
         refine wpl_nil ?_
         refine ex_then ?_
         refine wpc_cond rfl (fun hc42 => ?_) (fun hc42 => ?_)
         ·
          have hno : (l.getD i HT.z).tr.shp = false := by simpa using hc42
          refine wpc_seq ?_
          refine wpc_region ?_
          refine wpl_q (q_pure rfl) rfl ?_
          refine wpl_nil ?_
          refine ex_then ?_
          refine wpc_ret ?_
          refine ex_block_ret ?_
          refine ex_then_ret ?_
          refine ex_then_ret ?_
          refine ex_block_ret ?_
          refine ex_then_ret ?_
          refine ret1 (.inl rfl) rfl rfl ?_
          exact fun w h => ⟨by
            show Ending.returned (.bool false) = .returned (.bool (Tr.shp (.nd tg bs (trs l))))
            rw [shp_good (by rw [trs_length]; simp only [decide_eq_true_eq, decide_eq_false_iff_not, gt_iff_lt, ge_iff_le] at *; omega), shpL_bad hil hno], h.below⟩
         ·
          have hok : (l.getD i HT.z).tr.shp = true := by simpa using hc42
          refine wpc_skip ?_
          refine ex_block ?_
          refine ex_then ?_
          refine wpc_region ?_
          refine wpl_q (q_pure rfl) rfl ?_
          refine wpl_q (q_addN (b := 1) rfl rfl (by first | omega | (simp only [maxLen]; omega) | (simp only [List.length_append, List.length_cons, List.length_nil, List.length_take, maxLen]; omega) | (simp only [List.length_append, List.length_cons, List.length_nil, List.length_take]; omega))) rfl ?_
          refine wpl_q (q_pure rfl) rfl ?_
          refine wpl_nil ?_
          refine ex_again ⟨i + 1, ⟨by omega, by rw [shpL_take hil, hi1, hok]; rfl⟩⟩ ?_ ?_ ?_
          ·
           exact (by repeat (first | exact trivial | refine ⟨rfl, ?_⟩))
          ·
           exact fun w h => h
          ·
           (show l.length - (i + 1) < l.length - i); omega
        ·
         simp only [decide_eq_false_iff_not] at hc33
         obtain rfl : i = l.length := by omega
         rw [List.take_length] at hi1
         refine wpc_exit ?_
         refine ex_then_exit ?_
         refine ex_then_exit ?_
         refine ex_block_hit ?_
         refine ex_then ?_
         refine wpc_seq ?_
         refine wpc_region ?_
         refine wpl_q (q_pure rfl) rfl ?_
         refine wpl_nil ?_
         refine ex_then ?_
         refine wpc_ret ?_
         refine ret1 (.inl rfl) rfl rfl ?_
         exact fun w h => ⟨by
           show Ending.returned (.bool true) = .returned (.bool (Tr.shp (.nd tg bs (trs l))))
           rw [shp_good (by rw [trs_length]; simp only [decide_eq_true_eq, decide_eq_false_iff_not, gt_iff_lt, ge_iff_le] at *; omega), hi1], h.below⟩
     ·
      refine wpl_off rfl rfl rfl rfl ?_
      refine wpl_off rfl rfl rfl rfl ?_
      refine wpl_off rfl rfl rfl rfl ?_
      refine wpl_off rfl rfl rfl rfl ?_
      refine wpl_on rfl rfl ?_
      refine wpl_q (q_pure rfl) rfl ?_
      refine wpl_q (q_pure rfl) rfl ?_
      refine wpl_nil ?_
      refine ex_then ?_
      refine wpc_cond_f rfl ?_
      refine wpc_skip ?_
      refine ex_then ?_
      refine wpc_seq ?_
      refine wpc_seq ?_
      refine wpc_region ?_
      refine wpl_q (q_pure rfl) rfl ?_
      refine wpl_nil ?_
      refine ex_then ?_
      refine wpc_block ?_
      refine wpc_loopc (ι := { x : Nat // (x ≤ l.length) ∧ (shpL (trs (l.take x)) = true) }) [(1, _)] (fun x Lc => (3, .int .i64 ((x.1 : Nat) : Int)) :: Lc) (fun x => Mem w [] [.blk b1 25 [.int .u8 (tg.toNat : Int), bv, lv]] []) (fun x => l.length - x.1) ⟨0, ⟨Nat.zero_le _, rfl⟩⟩ (by repeat (first | exact trivial | refine ⟨rfl, ?_⟩)) ?_ ?_
      ·
       exact fun w h => h
      ·
       rintro ⟨i, ⟨hi0, hi1⟩⟩; try dsimp only
       have hi0 : i ≤ l.length := hi0; have hi1 : shpL (trs (l.take i)) = true := hi1
       refine wpc_seq ?_
       refine wpc_seq ?_
       refine wpc_region ?_
       refine wpl_q (q_pure rfl) rfl ?_
       refine wpl_q (q_field Try.underlying25 rfl Try.ti23 rfl rfl _ rfl) rfl ?_
       refine wpl_q (q_ld Try.underlying23 rfl rfl rfl) rfl ?_
       refine wpl_q (q_lenW Try.underlying23 rfl (by first | assumption | exact SV.nil | exact SV.slv (by assumption) (by omega) (by omega) | exact arv_sv (by first | decide | (simp only [maxLen]; omega)))) rfl ?_
       refine wpl_q (q_pure rfl) rfl ?_
       refine wpl_nil ?_
       refine ex_then ?_
       refine wpc_cond rfl (fun hc33 => ?_) (fun hc33 => ?_)
       ·
        simp only [decide_eq_true_eq] at hc33
        have hil : i < l.length := by omega
        haveI := (ht.kid hil).sv.one
        refine wpc_skip ?_
        refine ex_then ?_
        refine wpc_seq ?_
        refine wpc_block ?_
        refine wpc_seq ?_
        refine wpc_region ?_
        refine wpl_q (q_field Try.underlying25 rfl Try.ti23 rfl rfl _ rfl) rfl ?_
        refine wpl_q (q_ld Try.underlying23 rfl rfl rfl) rfl ?_
        refine wpl_q (q_pure rfl) rfl ?_
        refine wpl_q (q_idxW Try.underlying23 Try.ti25 rfl rfl (by first | assumption | exact SV.nil | exact SV.slv (by assumption) (by omega) (by omega) | exact arv_sv (by first | decide | (simp only [maxLen]; omega))) (by first | omega | (simp only [maxLen]; omega) | (simp only [List.length_append, List.length_cons, List.length_nil, List.length_take, maxLen]; omega) | (simp only [List.length_append, List.length_cons, List.length_nil, List.length_take]; omega))) rfl ?_
        refine wpl_q (q_ldWN Try.underlying25 rfl Try.ti25 rfl (fun w h => h.seen_old hk) (l.getD i HT.z).c (cat_part HT.c_length HT.z hil) (HT.c_length _)) rfl ?_
        refine wpl_t (t_pur Try.hb50 rfl fun w h => ih (l.getD i HT.z) (getD_memH hil) w ((ht.kid hil).old h) trivial) rfl (fun b41 => ?_)
        refine wpl_q (q_pure rfl) rfl ?_
        refine wpl_nil ?_
        refine ex_then ?_
        refine wpc_cond rfl (fun hc42 => ?_) (fun hc42 => ?_)
        ·
         have hno : (l.getD i HT.z).tr.shp = false := by simpa using hc42
         refine wpc_seq ?_
         refine wpc_region ?_
         refine wpl_q (q_pure rfl) rfl ?_
         refine wpl_nil ?_
         refine ex_then ?_
         refine wpc_ret ?_
         refine ex_block_ret ?_
         refine ex_then_ret ?_
         refine ex_then_ret ?_
         refine ex_block_ret ?_
         refine ex_then_ret ?_
         refine ret1 (.inl rfl) rfl rfl ?_
         exact fun w h => ⟨by
           show Ending.returned (.bool false) = .returned (.bool (Tr.shp (.nd tg bs (trs l))))
           rw [shp_good (by rw [trs_length]; simp only [decide_eq_true_eq, decide_eq_false_iff_not, gt_iff_lt, ge_iff_le] at *; omega), shpL_bad hil hno], h.below⟩
        ·
         have hok : (l.getD i HT.z).tr.shp = true := by simpa using hc42
         refine wpc_skip ?_
         refine ex_block ?_
         refine ex_then ?_
         refine wpc_region ?_
         refine wpl_q (q_pure rfl) rfl ?_
         refine wpl_q (q_addN (b := 1) rfl rfl (by first | omega | (simp only [maxLen]; omega) | (simp only [List.length_append, List.length_cons, List.length_nil, List.length_take, maxLen]; omega) | (simp only [List.length_append, List.length_cons, List.length_nil, List.length_take]; omega))) rfl ?_
         refine wpl_q (q_pure rfl) rfl ?_
         refine wpl_nil ?_
         refine ex_again ⟨i + 1, ⟨by omega, by rw [shpL_take hil, hi1, hok]; rfl⟩⟩ ?_ ?_ ?_
         ·
          exact (by repeat (first | exact trivial | refine ⟨rfl, ?_⟩))
         ·
          exact fun w h => h
         ·
          (show l.length - (i + 1) < l.length - i); omega
       ·
        simp only [decide_eq_false_iff_not] at hc33
        obtain rfl : i = l.length := by omega
        rw [List.take_length] at hi1
        refine wpc_exit ?_
        refine ex_then_exit ?_
        refine ex_then_exit ?_
        refine ex_block_hit ?_
        refine ex_then ?_
        refine wpc_seq ?_
        refine wpc_region ?_
        refine wpl_q (q_pure rfl) rfl ?_
        refine wpl_nil ?_
        refine ex_then ?_
        refine wpc_ret ?_
        refine ret1 (.inl rfl) rfl rfl ?_
        exact fun w h => ⟨by
          show Ending.returned (.bool true) = .returned (.bool (Tr.shp (.nd tg bs (trs l))))
          rw [shp_good (by rw [trs_length]; simp only [decide_eq_true_eq, decide_eq_false_iff_not, gt_iff_lt, ge_iff_le] at *; omega), hi1], h.below⟩
   ·
    refine wpl_off rfl rfl rfl rfl ?_
    refine wpl_off rfl rfl rfl rfl ?_
    refine wpl_off rfl rfl rfl rfl ?_
    refine wpl_off rfl rfl rfl rfl ?_
    refine wpl_on rfl rfl ?_
    refine wpl_q (q_pure rfl) rfl ?_
    refine wpl_q (q_pure rfl) rfl ?_
    refine wpl_q (q_pure rfl) rfl ?_
    refine wpl_on rfl rfl ?_
    refine wpl_q (q_field Try.underlying25 rfl Try.ti5 rfl rfl _ rfl) rfl ?_
    refine wpl_on rfl rfl ?_
    refine wpl_q (q_ld Try.underlying5 rfl rfl (by first | exact v8s_get (by first | decide | omega | exact Nat.zero_lt_one | (simp; omega) | (simp; done) | (simp only [v8s_length, v32s_length, vis_length, vns_length, v64s_length]; omega)) | rfl)) rfl ?_
    refine wpl_on rfl rfl ?_
    refine wpl_q (q_pure rfl) rfl ?_
    refine wpl_on rfl rfl ?_
    refine wpl_q (q_pure rfl) rfl ?_
    refine wpl_bool2 22 21 rfl rfl (fun hb22 => ?_) (fun hb22 => ?_)
    ·
     refine wpl_on rfl rfl ?_
     refine wpl_q (q_field Try.underlying25 rfl Try.ti22 rfl rfl _ rfl) rfl ?_
     refine wpl_on rfl rfl ?_
     refine wpl_q (q_ld Try.underlying22 rfl rfl rfl) rfl ?_
     refine wpl_on rfl rfl ?_
     refine wpl_q (q_lenW Try.underlying22 rfl (by first | assumption | exact SV.nil | exact SV.slv (by assumption) (by omega) (by omega) | exact arv_sv (by first | decide | (simp only [maxLen]; omega)))) rfl ?_
     refine wpl_on rfl rfl ?_
     refine wpl_q (q_pure rfl) rfl ?_
     refine wpl_on rfl rfl ?_
     refine wpl_q (q_pure rfl) rfl ?_
     refine wpl_q (q_pure rfl) rfl ?_
     refine wpl_nil ?_
     refine ex_then ?_
     refine wpc_cond rfl (fun hc28 => ?_) (fun hc28 => ?_)
     ·
      refine wpc_seq ?_
      refine wpc_region ?_
      refine wpl_q (q_pure rfl) rfl ?_
      refine wpl_nil ?_
      refine ex_then ?_
      refine wpc_ret ?_
      refine ex_then_ret ?_
      refine ret1 (.inl rfl) rfl rfl ?_
      exact fun w h => ⟨by
        have hb := shp_bad (t := tg) (bs := bs) (l := trs l) (by rw [trs_length]; simp only [decide_eq_true_eq, decide_eq_false_iff_not, gt_iff_lt, ge_iff_le] at *; omega)
        show Ending.returned (.bool false) = .returned (.bool (Tr.shp (.nd tg bs (trs l))))
        rw [hb], h.below⟩
     ·
      refine wpc_skip ?_
      refine ex_then ?_
      refine wpc_seq ?_
      refine wpc_seq ?_
      refine wpc_region ?_
      refine wpl_q (q_pure rfl) rfl ?_
      refine wpl_nil ?_
      refine ex_then ?_
      refine wpc_block ?_
      refine wpc_loopc (ι := { x : Nat // (x ≤ l.length) ∧ (shpL (trs (l.take x)) = true) }) [(1, _)] (fun x Lc => (3, .int .i64 ((x.1 : Nat) : Int)) :: Lc) (fun x => Mem w [] [.blk b1 25 [.int .u8 (tg.toNat : Int), bv, lv]] []) (fun x => l.length - x.1) ⟨0, ⟨Nat.zero_le _, rfl⟩⟩ (by repeat (first | exact trivial | refine ⟨rfl, ?_⟩)) ?_ ?_
      ·
       exact fun w h => h
      ·
       rintro ⟨i, ⟨hi0, hi1⟩⟩; try dsimp only
       have hi0 : i ≤ l.length := hi0; have hi1 : shpL (trs (l.take i)) = true := hi1
       refine wpc_seq ?_
       refine wpc_seq ?_
       refine wpc_region ?_
       refine wpl_q (q_pure rfl) rfl ?_
       refine wpl_q (q_field Try.underlying25 rfl Try.ti23 rfl rfl _ rfl) rfl ?_
       refine wpl_q (q_ld Try.underlying23 rfl rfl rfl) rfl ?_
       refine wpl_q (q_lenW Try.underlying23 rfl (by first | assumption | exact SV.nil | exact SV.slv (by assumption) (by omega) (by omega) | exact arv_sv (by first | decide | (simp only [maxLen]; omega)))) rfl ?_
       refine wpl_q (q_pure rfl) rfl ?_
       refine wpl_nil ?_
       refine ex_then ?_
       refine wpc_cond rfl (fun hc33 => ?_) (fun hc33 => ?_)
       ·
        simp only [decide_eq_true_eq] at hc33
        have hil : i < l.length := by omega
        haveI := (ht.kid hil).sv.one
        refine wpc_skip ?_
        refine ex_then ?_
        refine wpc_seq ?_
        refine wpc_block ?_
        refine wpc_seq ?_
        refine wpc_region ?_
        refine wpl_q (q_field Try.underlying25 rfl Try.ti23 rfl rfl _ rfl) rfl ?_
        refine wpl_q (q_ld Try.underlying23 rfl rfl rfl) rfl ?_
        refine wpl_q (q_pure rfl) rfl ?_
        refine wpl_q (q_idxW Try.underlying23 Try.ti25 rfl rfl (by first | assumption | exact SV.nil | exact SV.slv (by assumption) (by omega) (by omega) | exact arv_sv (by first | decide | (simp only [maxLen]; omega))) (by first | omega | (simp only [maxLen]; omega) | (simp only [List.length_append, List.length_cons, List.length_nil, List.length_take, maxLen]; omega) | (simp only [List.length_append, List.length_cons, List.length_nil, List.length_take]; omega))) rfl ?_
        refine wpl_q (q_ldWN Try.underlying25 rfl Try.ti25 rfl (fun w h => h.seen_old hk) (l.getD i HT.z).c (cat_part HT.c_length HT.z hil) (HT.c_length _)) rfl ?_
        refine wpl_t (t_pur Try.hb50 rfl fun w h => ih (l.getD i HT.z) (getD_memH hil) w ((ht.kid hil).old h) trivial) rfl (fun b41 => ?_)
        refine wpl_q (q_pure rfl) rfl ?_
        refine wpl_nil ?_
        refine ex_then ?_
        refine wpc_cond rfl (fun hc42 => ?_) (fun hc42 => ?_)
        ·
         have hno : (l.getD i HT.z).tr.shp = false := by simpa using hc42
         refine wpc_seq ?_
         refine wpc_region ?_
         refine wpl_q (q_pure rfl) rfl ?_
         refine wpl_nil ?_
         refine ex_then ?_
         refine wpc_ret ?_
         refine ex_block_ret ?_
         refine ex_then_ret ?_
         refine ex_then_ret ?_
         refine ex_block_ret ?_
         refine ex_then_ret ?_
         refine ret1 (.inl rfl) rfl rfl ?_
         exact fun w h => ⟨by
           show Ending.returned (.bool false) = .returned (.bool (Tr.shp (.nd tg bs (trs l))))
           rw [shp_good (by rw [trs_length]; simp only [decide_eq_true_eq, decide_eq_false_iff_not, gt_iff_lt, ge_iff_le] at *; omega), shpL_bad hil hno], h.below⟩
        ·
         have hok : (l.getD i HT.z).tr.shp = true := by simpa using hc42
         refine wpc_skip ?_
         refine ex_block ?_
         refine ex_then ?_
         refine wpc_region ?_
         refine wpl_q (q_pure rfl) rfl ?_
         refine wpl_q (q_addN (b := 1) rfl rfl (by first | omega | (simp only [maxLen]; omega) | (simp only [List.length_append, List.length_cons, List.length_nil, List.length_take, maxLen]; omega) | (simp only [List.length_append, List.length_cons, List.length_nil, List.length_take]; omega))) rfl ?_
         refine wpl_q (q_pure rfl) rfl ?_
         refine wpl_nil ?_
         refine ex_again ⟨i + 1, ⟨by omega, by rw [shpL_take hil, hi1, hok]; rfl⟩⟩ ?_ ?_ ?_
         ·
          exact (by repeat (first | exact trivial | refine ⟨rfl, ?_⟩))
         ·
          exact fun w h => h
         ·
          (show l.length - (i + 1) < l.length - i); omega
       ·
        simp only [decide_eq_false_iff_not] at hc33
        obtain rfl : i = l.length := by omega
        rw [List.take_length] at hi1
        refine wpc_exit ?_
        refine ex_then_exit ?_
        refine ex_then_exit ?_
        refine ex_block_hit ?_
        refine ex_then ?_
        refine wpc_seq ?_
        refine wpc_region ?_
        refine wpl_q (q_pure rfl) rfl ?_
        refine wpl_nil ?_
        refine ex_then ?_
        refine wpc_ret ?_
        refine ret1 (.inl rfl) rfl rfl ?_
        exact fun w h => ⟨by
          show Ending.returned (.bool true) = .returned (.bool (Tr.shp (.nd tg bs (trs l))))
          rw [shp_good (by rw [trs_length]; simp only [decide_eq_true_eq, decide_eq_false_iff_not, gt_iff_lt, ge_iff_le] at *; omega), hi1], h.below⟩
    ·
     refine wpl_off rfl rfl rfl rfl ?_
     refine wpl_off rfl rfl rfl rfl ?_
     refine wpl_off rfl rfl rfl rfl ?_
     refine wpl_off rfl rfl rfl rfl ?_
     refine wpl_on rfl rfl ?_
     refine wpl_q (q_pure rfl) rfl ?_
     refine wpl_q (q_pure rfl) rfl ?_
     refine wpl_nil ?_
     refine ex_then ?_
     refine wpc_cond_f rfl ?_
     refine wpc_skip ?_
     refine ex_then ?_
     refine wpc_seq ?_
     refine wpc_seq ?_
     refine wpc_region ?_
     refine wpl_q (q_pure rfl) rfl ?_
     refine wpl_nil ?_
     refine ex_then ?_
     refine wpc_block ?_
     refine wpc_loopc (ι := { x : Nat // (x ≤ l.length) ∧ (shpL (trs (l.take x)) = true) }) [(1, _)] (fun x Lc => (3, .int .i64 ((x.1 : Nat) : Int)) :: Lc) (fun x => Mem w [] [.blk b1 25 [.int .u8 (tg.toNat : Int), bv, lv]] []) (fun x => l.length - x.1) ⟨0, ⟨Nat.zero_le _, rfl⟩⟩ (by repeat (first | exact trivial | refine ⟨rfl, ?_⟩)) ?_ ?_
     ·
      exact fun w h => h
     ·
      rintro ⟨i, ⟨hi0, hi1⟩⟩; try dsimp only
      have hi0 : i ≤ l.length := hi0; have hi1 : shpL (trs (l.take i)) = true := hi1
      refine wpc_seq ?_
      refine wpc_seq ?_
      refine wpc_region ?_
      refine wpl_q (q_pure rfl) rfl ?_
      refine wpl_q (q_field Try.underlying25 rfl Try.ti23 rfl rfl _ rfl) rfl ?_
      refine wpl_q (q_ld Try.underlying23 rfl rfl rfl) rfl ?_
      refine wpl_q (q_lenW Try.underlying23 rfl (by first | assumption | exact SV.nil | exact SV.slv (by assumption) (by omega) (by omega) | exact arv_sv (by first | decide | (simp only [maxLen]; omega)))) rfl ?_
      refine wpl_q (q_pure rfl) rfl ?_
      refine wpl_nil ?_
      refine ex_then ?_
      refine wpc_cond rfl (fun hc33 => ?_) (fun hc33 => ?_)
      ·
       simp only [decide_eq_true_eq] at hc33
       have hil : i < l.length := by omega
       haveI := (ht.kid hil).sv.one
       refine wpc_skip ?_
       refine ex_then ?_
       refine wpc_seq ?_
       refine wpc_block ?_
       refine wpc_seq ?_
       refine wpc_region ?_
       refine wpl_q (q_field Try.underlying25 rfl Try.ti23 rfl rfl _ rfl) rfl ?_
       refine wpl_q (q_ld Try.underlying23 rfl rfl rfl) rfl ?_
       refine wpl_q (q_pure rfl) rfl ?_
       refine wpl_q (q_idxW Try.underlying23 Try.ti25 rfl rfl (by first | assumption | exact SV.nil | exact SV.slv (by assumption) (by omega) (by omega) | exact arv_sv (by first | decide | (simp only [maxLen]; omega))) (by first | omega | (simp only [maxLen]; omega) | (simp only [List.length_append, List.length_cons, List.length_nil, List.length_take, maxLen]; omega) | (simp only [List.length_append, List.length_cons, List.length_nil, List.length_take]; omega))) rfl ?_
       refine wpl_q (q_ldWN Try.underlying25 rfl Try.ti25 rfl (fun w h => h.seen_old hk) (l.getD i HT.z).c (cat_part HT.c_length HT.z hil) (HT.c_length _)) rfl ?_
       refine wpl_t (t_pur Try.hb50 rfl fun w h => ih (l.getD i HT.z) (getD_memH hil) w ((ht.kid hil).old h) trivial) rfl (fun b41 => ?_)
       refine wpl_q (q_pure rfl) rfl ?_
       refine wpl_nil ?_
       refine ex_then ?_
       refine wpc_cond rfl (fun hc42 => ?_) (fun hc42 => ?_)
       ·
        have hno : (l.getD i HT.z).tr.shp = false := by simpa using hc42
        refine wpc_seq ?_
        refine wpc_region ?_
        refine wpl_q (q_pure rfl) rfl ?_
        refine wpl_nil ?_
        refine ex_then ?_
        refine wpc_ret ?_
        refine ex_block_ret ?_
        refine ex_then_ret ?_
        refine ex_then_ret ?_
        refine ex_block_ret ?_
        refine ex_then_ret ?_
        refine ret1 (.inl rfl) rfl rfl ?_
        exact fun w h => ⟨by
          show Ending.returned (.bool false) = .returned (.bool (Tr.shp (.nd tg bs (trs l))))
          rw [shp_good (by rw [trs_length]; simp only [decide_eq_true_eq, decide_eq_false_iff_not, gt_iff_lt, ge_iff_le] at *; omega), shpL_bad hil hno], h.below⟩
       ·
        have hok : (l.getD i HT.z).tr.shp = true := by simpa using hc42
        refine wpc_skip ?_
        refine ex_block ?_
        refine ex_then ?_
        refine wpc_region ?_
        refine wpl_q (q_pure rfl) rfl ?_
        refine wpl_q (q_addN (b := 1) rfl rfl (by first | omega | (simp only [maxLen]; omega) | (simp only [List.length_append, List.length_cons, List.length_nil, List.length_take, maxLen]; omega) | (simp only [List.length_append, List.length_cons, List.length_nil, List.length_take]; omega))) rfl ?_
        refine wpl_q (q_pure rfl) rfl ?_
        refine wpl_nil ?_
        refine ex_again ⟨i + 1, ⟨by omega, by rw [shpL_take hil, hi1, hok]; rfl⟩⟩ ?_ ?_ ?_
        ·
         exact (by repeat (first | exact trivial | refine ⟨rfl, ?_⟩))
        ·
         exact fun w h => h
        ·
         (show l.length - (i + 1) < l.length - i); omega
      ·
       simp only [decide_eq_false_iff_not] at hc33
       obtain rfl : i = l.length := by omega
       rw [List.take_length] at hi1
       refine wpc_exit ?_
       refine ex_then_exit ?_
       refine ex_then_exit ?_
       refine ex_block_hit ?_
       refine ex_then ?_
       refine wpc_seq ?_
       refine wpc_region ?_
       refine wpl_q (q_pure rfl) rfl ?_
       refine wpl_nil ?_
       refine ex_then ?_
       refine wpc_ret ?_
       refine ret1 (.inl rfl) rfl rfl ?_
       exact fun w h => ⟨by
         show Ending.returned (.bool true) = .returned (.bool (Tr.shp (.nd tg bs (trs l))))
         rw [shp_good (by rw [trs_length]; simp only [decide_eq_true_eq, decide_eq_false_iff_not, gt_iff_lt, ge_iff_le] at *; omega), hi1], h.below⟩
theorem refShaped : ∀ (t : HT) (w : World), HSeen w.cell? t → True → Calls Try.prog 50 [.agg t.c.toArray].toArray w (Pur w (.bool t.tr.shp)) := by
  intro t
  induction t using HT.ind with
  | _ tg bv bs lv l ih => intro w h hs; exact refShaped_step _ w h hs (fun x hx w hx' hs' => ih x hx w hx' hs')

end Go.Proofs.Ytommkigkkeailaa
