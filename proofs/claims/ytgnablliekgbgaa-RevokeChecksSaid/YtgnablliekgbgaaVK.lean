/- Revocation lists compared; limits. -/
import Derived.Test.YtgnablliekgbgaaVJ
namespace Go.Proofs.Ytgnablliekgbgaa
set_option linter.unusedSimpArgs false
set_option linter.unusedVariables false
open Go Go.PL Go.RowKit

theorem eqWin : EqC Try.prog 2 24 true 2 (fun cs => cs.length = 2 ∧ (IntCell .i64 ((cs.drop 0).take 1) ∧ (IntCell .i64 ((cs.drop 1).take 1) ∧ True))) := by
  refine eqc_struct Try.underlying24 Try.ti24 (by kernel_rfl) ?_
  refine EqFs.cons (sz := 1) (W := IntCell .i64) (by kernel_rfl) rfl (eqc_int Try.underlying2 Try.ti2) ?_
  refine EqFs.cons (sz := 1) (W := IntCell .i64) (by kernel_rfl) rfl (eqc_int Try.underlying2 Try.ti2) ?_
  exact EqFs.nil _
def wnL (a b : Int) : List Value := [.int .i64 a, .int .i64 b]
theorem wnL_inj {a b c d : Int} (h : wnL a b = wnL c d) : a = c ∧ b = d := by
  unfold wnL at h
  obtain ⟨h1, h2⟩ := List.cons.inj h
  obtain ⟨h3, _⟩ := List.cons.inj h2
  exact ⟨(Value.int.inj h1).2, (Value.int.inj h3).2⟩
theorem q_eqWin {n : Cx} {R : World → Prop} {L : Slots} {t' : TypeId} {x y : Operand} {a b c d : Int} (hx : ev L x = some (.agg (wnL a b).toArray)) (hy : ev L y = some (.agg (wnL c d).toArray)) : QOp Try.prog n R L (.binOp .eql 24 x y t') (.bool (decide (a = c ∧ b = d))) :=
  q_eqA eqWin (by decide) (by kernel_rfl) hx hy ⟨rfl, ⟨_, rfl⟩, ⟨_, rfl⟩, trivial⟩ ⟨rfl, ⟨_, rfl⟩, ⟨_, rfl⟩, trivial⟩ _ (by
    rw [decide_eq_true_eq]; exact ⟨fun e => by rw [e.1, e.2], wnL_inj⟩)

set_option maxRecDepth 100000 in
theorem sameSig (ix1 : Int) (cv1 pv1 : Value) (chs1 ps1 : List (List UInt8)) (ix2 : Int) (cv2 pv2 : Value) (chs2 ps2 : List (List UInt8)) (w : World) (hcv1 : Seen w.cell? cv1 chs1.length 16 (v8s chs1.flatten)) (hlc1 : ∀ x ∈ chs1, x.length = 16) (hpv1 : Seen w.cell? pv1 ps1.length 16 (v8s ps1.flatten)) (hlp1 : ∀ x ∈ ps1, x.length = 16) (hcv2 : Seen w.cell? cv2 chs2.length 16 (v8s chs2.flatten)) (hlc2 : ∀ x ∈ chs2, x.length = 16) (hpv2 : Seen w.cell? pv2 ps2.length 16 (v8s ps2.flatten)) (hlp2 : ∀ x ∈ ps2, x.length = 16)  :
    Calls Try.prog 39 [.agg #[.int .i64 ix1, cv1, pv1], .agg #[.int .i64 ix2, cv2, pv2]].toArray w (Pur w (.bool (decide (ix1 = ix2 ∧ chs1 = chs2 ∧ ps1 = ps2)))) := by
  haveI : OneC [.int .i64 ix1, cv1, pv1] := OneC.cons rfl (OneC.cons (SV.one hcv1.sv) (OneC.cons (SV.one hpv1.sv) oneC_nil))
  haveI : OneC [.int .i64 ix2, cv2, pv2] := OneC.cons rfl (OneC.cons (SV.one hcv2.sv) (OneC.cons (SV.one hpv2.sv) oneC_nil))
  refine enter (m := 24) (R := Mem w [] [] []) Try.func39 rfl rfl (Nat.le_of_ble_eq_true rfl) (Mem.start w) ?_
  refine wpc_seq ?_
  refine wpc_region ?_
  refine wpl_t (t_box rfl [.int .i64 ix1, cv1, pv1] rfl) rfl (fun b2 => ?_)
  refine wpl_t (t_box rfl [.int .i64 ix2, cv2, pv2] rfl) rfl (fun b3 => ?_)
  refine wpl_q (q_pure rfl) rfl ?_
  refine wpl_nil ?_
  refine ex_then ?_
  refine wpc_seq ?_
  refine wpc_region ?_
  refine wpl_q (q_field Try.underlying28 rfl Try.ti3 rfl rfl _ rfl) rfl ?_
  refine wpl_q (q_ld Try.underlying3 rfl rfl (by first | exact vns_get (by first | decide | omega | exact Nat.zero_lt_one | (simp; omega) | (simp; done) | (simp only [v8s_length, v32s_length, vis_length, vns_length, v64s_length]; omega)) | rfl)) rfl ?_
  refine wpl_q (q_field Try.underlying28 rfl Try.ti3 rfl rfl _ rfl) rfl ?_
  refine wpl_q (q_ld Try.underlying3 rfl rfl (by first | exact vns_get (by first | decide | omega | exact Nat.zero_lt_one | (simp; omega) | (simp; done) | (simp only [v8s_length, v32s_length, vis_length, vns_length, v64s_length]; omega)) | rfl)) rfl ?_
  refine wpl_q (q_pure rfl) rfl ?_
  refine wpl_q (q_pure rfl) rfl ?_
  refine wpl_bool2 10 9 rfl rfl (fun hb10 => ?_) (fun hb10 => ?_)
  ·
   have e1 : ix1 = ix2 := by simpa using hb10
   refine wpl_on rfl rfl ?_
   refine wpl_q (q_field Try.underlying28 rfl Try.ti26 rfl rfl _ rfl) rfl ?_
   refine wpl_on rfl rfl ?_
   refine wpl_q (q_ld Try.underlying26 rfl rfl rfl) rfl ?_
   refine wpl_on rfl rfl ?_
   refine wpl_q (q_field Try.underlying28 rfl Try.ti26 rfl rfl _ rfl) rfl ?_
   refine wpl_on rfl rfl ?_
   refine wpl_q (q_ld Try.underlying26 rfl rfl rfl) rfl ?_
   refine wpl_on rfl rfl ?_
   refine wpl_t (t_pur Try.hb69 rfl fun w h => sameShorts cv1 chs1 cv2 chs2 w (h.seen_old hcv1) hlc1 (h.seen_old hcv2) hlc2) rfl (fun b15 => ?_)
   refine wpl_q (q_pure rfl) rfl ?_
   refine wpl_q (q_pure rfl) rfl ?_
   refine wpl_bool2 17 15 rfl rfl (fun hb17 => ?_) (fun hb17 => ?_)
   ·
    have e2 : chs1 = chs2 := by simpa using hb17
    refine wpl_on rfl rfl ?_
    refine wpl_q (q_field Try.underlying28 rfl Try.ti26 rfl rfl _ rfl) rfl ?_
    refine wpl_on rfl rfl ?_
    refine wpl_q (q_ld Try.underlying26 rfl rfl rfl) rfl ?_
    refine wpl_on rfl rfl ?_
    refine wpl_q (q_field Try.underlying28 rfl Try.ti26 rfl rfl _ rfl) rfl ?_
    refine wpl_on rfl rfl ?_
    refine wpl_q (q_ld Try.underlying26 rfl rfl rfl) rfl ?_
    refine wpl_on rfl rfl ?_
    refine wpl_t (t_pur Try.hb69 rfl fun w h => sameShorts pv1 ps1 pv2 ps2 w (h.seen_old hpv1) hlp1 (h.seen_old hpv2) hlp2) rfl (fun b22 => ?_)
    refine wpl_q (q_pure rfl) rfl ?_
    refine wpl_q (q_pure rfl) rfl ?_
    refine wpl_nil ?_
    refine ex_then ?_
    refine wpc_ret ?_
    refine ret1 (.inl rfl) rfl rfl ?_
    exact fun w h => ⟨congrArg (fun b => Ending.returned (Value.bool b)) (by first | exact (decide_eq_false fun q : ix1 = ix2 ∧ chs1 = chs2 ∧ ps1 = ps2 => e1 q.1).symm | exact (decide_eq_false fun q : ix1 = ix2 ∧ chs1 = chs2 ∧ ps1 = ps2 => e2 q.2.1).symm | exact decide_eq_decide.2 ⟨fun q => ⟨e1, e2, q⟩, fun q => q.2.2⟩), h.below⟩
   ·
    have e2 : ¬ chs1 = chs2 := by simpa using hb17
    refine wpl_off rfl rfl rfl rfl ?_
    refine wpl_off rfl rfl rfl rfl ?_
    refine wpl_off rfl rfl rfl rfl ?_
    refine wpl_off rfl rfl rfl rfl ?_
    refine wpl_off rfl rfl rfl rfl ?_
    refine wpl_q (q_pure rfl) rfl ?_
    refine wpl_q (q_pure rfl) rfl ?_
    refine wpl_nil ?_
    refine ex_then ?_
    refine wpc_ret ?_
    refine ret1 (.inl rfl) rfl rfl ?_
    exact fun w h => ⟨congrArg (fun b => Ending.returned (Value.bool b)) (by first | exact (decide_eq_false fun q : ix1 = ix2 ∧ chs1 = chs2 ∧ ps1 = ps2 => e1 q.1).symm | exact (decide_eq_false fun q : ix1 = ix2 ∧ chs1 = chs2 ∧ ps1 = ps2 => e2 q.2.1).symm | exact decide_eq_decide.2 ⟨fun q => ⟨e1, e2, q⟩, fun q => q.2.2⟩), h.below⟩
  ·
   have e1 : ¬ ix1 = ix2 := by simpa using hb10
   refine wpl_off rfl rfl rfl rfl ?_
   refine wpl_off rfl rfl rfl rfl ?_
   refine wpl_off rfl rfl rfl rfl ?_
   refine wpl_off rfl rfl rfl rfl ?_
   refine wpl_off rfl rfl rfl rfl ?_
   refine wpl_q (q_pure rfl) rfl ?_
   refine wpl_q (q_pure rfl) rfl ?_
   refine wpl_off rfl rfl rfl rfl ?_
   refine wpl_off rfl rfl rfl rfl ?_
   refine wpl_off rfl rfl rfl rfl ?_
   refine wpl_off rfl rfl rfl rfl ?_
   refine wpl_off rfl rfl rfl rfl ?_
   refine wpl_q (q_pure rfl) rfl ?_
   refine wpl_q (q_pure rfl) rfl ?_
   refine wpl_nil ?_
   refine ex_then ?_
   refine wpc_ret ?_
   refine ret1 (.inl rfl) rfl rfl ?_
   exact fun w h => ⟨congrArg (fun b => Ending.returned (Value.bool b)) (by first | exact (decide_eq_false fun q : ix1 = ix2 ∧ chs1 = chs2 ∧ ps1 = ps2 => e1 q.1).symm | exact (decide_eq_false fun q : ix1 = ix2 ∧ chs1 = chs2 ∧ ps1 = ps2 => e2 q.2.1).symm | exact decide_eq_decide.2 ⟨fun q => ⟨e1, e2, q⟩, fun q => q.2.2⟩), h.below⟩

set_option maxRecDepth 100000 in
theorem rvSame (a : Rv) (b : Rv) (w : World) (hla : a.seen w.cell?) (hlb : b.seen w.cell?)  :
    Calls Try.prog 14 [.agg a.c.toArray, .agg b.c.toArray].toArray w (Pur w (.bool (decide (a.eqv b)))) := by
  haveI := hla.svs.one
  haveI := hlb.svs.one
  refine enter (m := 58) (R := Mem w [] [] []) Try.func14 rfl rfl (Nat.le_of_ble_eq_true rfl) (Mem.start w) ?_
  refine wpc_seq ?_
  refine wpc_region ?_
  refine wpl_t (t_box rfl a.c rfl) rfl (fun b2 => ?_)
  refine wpl_t (t_box rfl b.c rfl) rfl (fun b3 => ?_)
  refine wpl_q (q_pure rfl) rfl ?_
  refine wpl_nil ?_
  refine ex_then ?_
  refine wpc_seq ?_
  refine wpc_region ?_
  refine wpl_q (q_field Try.underlying30 rfl Try.ti9 rfl rfl _ rfl) rfl ?_
  refine wpl_q (q_ld Try.underlying9 rfl rfl (show a.c[0]? = some (str a.nm) from rfl)) rfl ?_
  refine wpl_q (q_field Try.underlying30 rfl Try.ti9 rfl rfl _ rfl) rfl ?_
  refine wpl_q (q_ld Try.underlying9 rfl rfl (show b.c[0]? = some (str b.nm) from rfl)) rfl ?_
  refine wpl_q (q_strEq Try.underlying9 rfl rfl (by kernel_rfl)) rfl ?_
  refine wpl_q (q_pure rfl) rfl ?_
  refine wpl_bool2 10 9 rfl rfl (fun hb10 => ?_) (fun hb10 => ?_)
  ·
   have e1 : a.nm = b.nm := by simpa using hb10
   refine wpl_on rfl rfl ?_
   refine wpl_q (q_field Try.underlying30 rfl Try.ti22 rfl rfl _ rfl) rfl ?_
   refine wpl_on rfl rfl ?_
   refine wpl_q (q_ld Try.underlying22 rfl rfl (show a.c[1]? = some (.int .u64 (a.no.toNat : Int)) from rfl)) rfl ?_
   refine wpl_on rfl rfl ?_
   refine wpl_q (q_field Try.underlying30 rfl Try.ti22 rfl rfl _ rfl) rfl ?_
   refine wpl_on rfl rfl ?_
   refine wpl_q (q_ld Try.underlying22 rfl rfl (show b.c[1]? = some (.int .u64 (b.no.toNat : Int)) from rfl)) rfl ?_
   refine wpl_on rfl rfl ?_
   refine wpl_q (q64_eql rfl rfl) rfl ?_
   refine wpl_q (q_pure rfl) rfl ?_
   refine wpl_q (q_pure rfl) rfl ?_
   refine wpl_bool2 17 15 rfl rfl (fun hb17 => ?_) (fun hb17 => ?_)
   ·
    have e2 : a.no = b.no := by simpa using hb17
    refine wpl_on rfl rfl ?_
    refine wpl_q (q_field Try.underlying30 rfl Try.ti24 rfl rfl _ rfl) rfl ?_
    refine wpl_on rfl rfl ?_
    refine wpl_q (q_ldP Try.underlying24 rfl Try.ti24 rfl (wnL a.fr a.tt) rfl rfl) rfl ?_
    refine wpl_on rfl rfl ?_
    refine wpl_q (q_field Try.underlying30 rfl Try.ti24 rfl rfl _ rfl) rfl ?_
    refine wpl_on rfl rfl ?_
    refine wpl_q (q_ldP Try.underlying24 rfl Try.ti24 rfl (wnL b.fr b.tt) rfl rfl) rfl ?_
    refine wpl_on rfl rfl ?_
    refine wpl_q (q_eqWin rfl rfl) rfl ?_
    refine wpl_q (q_pure rfl) rfl ?_
    refine wpl_q (q_pure rfl) rfl ?_
    refine wpl_bool2 24 22 rfl rfl (fun hb24 => ?_) (fun hb24 => ?_)
    ·
     have e3 : (a.fr = b.fr ∧ a.tt = b.tt) := by simpa using hb24
     refine wpl_on rfl rfl ?_
     refine wpl_q (q_field Try.underlying30 rfl Try.ti25 rfl rfl _ rfl) rfl ?_
     refine wpl_on rfl rfl ?_
     refine wpl_q (q_ld Try.underlying25 rfl rfl (show a.c[4]? = some (a.sv) from rfl)) rfl ?_
     refine wpl_on rfl rfl ?_
     refine wpl_q (q_field Try.underlying30 rfl Try.ti25 rfl rfl _ rfl) rfl ?_
     refine wpl_on rfl rfl ?_
     refine wpl_q (q_ld Try.underlying25 rfl rfl (show b.c[4]? = some (b.sv) from rfl)) rfl ?_
     refine wpl_on rfl rfl ?_
     refine wpl_t (t_pur Try.hb36 rfl fun w h => equal64 a.sv a.ss b.sv b.ss w (h.seen_old hla.s) (h.seen_old hlb.s)) rfl (fun b29 => ?_)
     refine wpl_q (q_pure rfl) rfl ?_
     refine wpl_q (q_pure rfl) rfl ?_
     refine wpl_bool2 31 29 rfl rfl (fun hb31 => ?_) (fun hb31 => ?_)
     ·
      have e4 : a.ss = b.ss := by simpa using hb31
      refine wpl_on rfl rfl ?_
      refine wpl_q (q_field Try.underlying30 rfl Try.ti28 rfl rfl _ rfl) rfl ?_
      refine wpl_on rfl rfl ?_
      refine wpl_q (q_field Try.underlying28 rfl Try.ti3 rfl rfl _ rfl) rfl ?_
      refine wpl_on rfl rfl ?_
      refine wpl_q (q_ld Try.underlying3 rfl rfl (show a.c[5]? = some (.int .i64 a.ix) from rfl)) rfl ?_
      refine wpl_on rfl rfl ?_
      refine wpl_q (q_field Try.underlying30 rfl Try.ti28 rfl rfl _ rfl) rfl ?_
      refine wpl_on rfl rfl ?_
      refine wpl_q (q_field Try.underlying28 rfl Try.ti3 rfl rfl _ rfl) rfl ?_
      refine wpl_on rfl rfl ?_
      refine wpl_q (q_ld Try.underlying3 rfl rfl (show b.c[5]? = some (.int .i64 b.ix) from rfl)) rfl ?_
      refine wpl_on rfl rfl ?_
      refine wpl_q (q_pure rfl) rfl ?_
      refine wpl_q (q_pure rfl) rfl ?_
      refine wpl_q (q_pure rfl) rfl ?_
      refine wpl_bool2 40 38 rfl rfl (fun hb40 => ?_) (fun hb40 => ?_)
      ·
       have e5 : a.ix = b.ix := by simpa using hb40
       refine wpl_on rfl rfl ?_
       refine wpl_q (q_field Try.underlying30 rfl Try.ti28 rfl rfl _ rfl) rfl ?_
       refine wpl_on rfl rfl ?_
       refine wpl_q (q_field Try.underlying28 rfl Try.ti26 rfl rfl _ rfl) rfl ?_
       refine wpl_on rfl rfl ?_
       refine wpl_q (q_ld Try.underlying26 rfl rfl (show a.c[6]? = some (a.cv) from rfl)) rfl ?_
       refine wpl_on rfl rfl ?_
       refine wpl_q (q_field Try.underlying30 rfl Try.ti28 rfl rfl _ rfl) rfl ?_
       refine wpl_on rfl rfl ?_
       refine wpl_q (q_field Try.underlying28 rfl Try.ti26 rfl rfl _ rfl) rfl ?_
       refine wpl_on rfl rfl ?_
       refine wpl_q (q_ld Try.underlying26 rfl rfl (show b.c[6]? = some (b.cv) from rfl)) rfl ?_
       refine wpl_on rfl rfl ?_
       refine wpl_t (t_pur Try.hb37 rfl fun w h => equalS a.cv a.chs b.cv b.chs w (h.seen_old hla.c) hla.lc (h.seen_old hlb.c) hlb.lc) rfl (fun b47 => ?_)
       refine wpl_q (q_pure rfl) rfl ?_
       refine wpl_q (q_pure rfl) rfl ?_
       refine wpl_bool2 49 47 rfl rfl (fun hb49 => ?_) (fun hb49 => ?_)
       ·
        have e6 : a.chs = b.chs := by simpa using hb49
        refine wpl_on rfl rfl ?_
        refine wpl_q (q_field Try.underlying30 rfl Try.ti28 rfl rfl _ rfl) rfl ?_
        refine wpl_on rfl rfl ?_
        refine wpl_q (q_field Try.underlying28 rfl Try.ti26 rfl rfl _ rfl) rfl ?_
        refine wpl_on rfl rfl ?_
        refine wpl_q (q_ld Try.underlying26 rfl rfl (show a.c[7]? = some (a.pv) from rfl)) rfl ?_
        refine wpl_on rfl rfl ?_
        refine wpl_q (q_field Try.underlying30 rfl Try.ti28 rfl rfl _ rfl) rfl ?_
        refine wpl_on rfl rfl ?_
        refine wpl_q (q_field Try.underlying28 rfl Try.ti26 rfl rfl _ rfl) rfl ?_
        refine wpl_on rfl rfl ?_
        refine wpl_q (q_ld Try.underlying26 rfl rfl (show b.c[7]? = some (b.pv) from rfl)) rfl ?_
        refine wpl_on rfl rfl ?_
        refine wpl_t (t_pur Try.hb37 rfl fun w h => equalS a.pv a.ps b.pv b.ps w (h.seen_old hla.p) hla.lp (h.seen_old hlb.p) hlb.lp) rfl (fun b56 => ?_)
        refine wpl_q (q_pure rfl) rfl ?_
        refine wpl_q (q_pure rfl) rfl ?_
        refine wpl_nil ?_
        refine ex_then ?_
        refine wpc_ret ?_
        refine ret1 (.inl rfl) rfl rfl ?_
        exact fun w h => ⟨congrArg (fun b => Ending.returned (Value.bool b)) (by first | exact (decide_eq_false fun q : a.eqv b => e1 q.1).symm | exact (decide_eq_false fun q : a.eqv b => e2 q.2.1).symm | exact (decide_eq_false fun q : a.eqv b => e3 q.2.2.1).symm | exact (decide_eq_false fun q : a.eqv b => e4 q.2.2.2.1).symm | exact (decide_eq_false fun q : a.eqv b => e5 q.2.2.2.2.1).symm | exact (decide_eq_false fun q : a.eqv b => e6 q.2.2.2.2.2.1).symm | exact decide_eq_decide.2 ⟨fun q => ⟨e1, e2, e3, e4, e5, e6, q⟩, fun q => q.2.2.2.2.2.2⟩), h.below⟩
       ·
        have e6 : ¬ a.chs = b.chs := by simpa using hb49
        refine wpl_off rfl rfl rfl rfl ?_
        refine wpl_off rfl rfl rfl rfl ?_
        refine wpl_off rfl rfl rfl rfl ?_
        refine wpl_off rfl rfl rfl rfl ?_
        refine wpl_off rfl rfl rfl rfl ?_
        refine wpl_off rfl rfl rfl rfl ?_
        refine wpl_off rfl rfl rfl rfl ?_
        refine wpl_q (q_pure rfl) rfl ?_
        refine wpl_q (q_pure rfl) rfl ?_
        refine wpl_nil ?_
        refine ex_then ?_
        refine wpc_ret ?_
        refine ret1 (.inl rfl) rfl rfl ?_
        exact fun w h => ⟨congrArg (fun b => Ending.returned (Value.bool b)) (by first | exact (decide_eq_false fun q : a.eqv b => e1 q.1).symm | exact (decide_eq_false fun q : a.eqv b => e2 q.2.1).symm | exact (decide_eq_false fun q : a.eqv b => e3 q.2.2.1).symm | exact (decide_eq_false fun q : a.eqv b => e4 q.2.2.2.1).symm | exact (decide_eq_false fun q : a.eqv b => e5 q.2.2.2.2.1).symm | exact (decide_eq_false fun q : a.eqv b => e6 q.2.2.2.2.2.1).symm | exact decide_eq_decide.2 ⟨fun q => ⟨e1, e2, e3, e4, e5, e6, q⟩, fun q => q.2.2.2.2.2.2⟩), h.below⟩
      ·
       have e5 : ¬ a.ix = b.ix := by simpa using hb40
       refine wpl_off rfl rfl rfl rfl ?_
       refine wpl_off rfl rfl rfl rfl ?_
       refine wpl_off rfl rfl rfl rfl ?_
       refine wpl_off rfl rfl rfl rfl ?_
       refine wpl_off rfl rfl rfl rfl ?_
       refine wpl_off rfl rfl rfl rfl ?_
       refine wpl_off rfl rfl rfl rfl ?_
       refine wpl_q (q_pure rfl) rfl ?_
       refine wpl_q (q_pure rfl) rfl ?_
       refine wpl_off rfl rfl rfl rfl ?_
       refine wpl_off rfl rfl rfl rfl ?_
       refine wpl_off rfl rfl rfl rfl ?_
       refine wpl_off rfl rfl rfl rfl ?_
       refine wpl_off rfl rfl rfl rfl ?_
       refine wpl_off rfl rfl rfl rfl ?_
       refine wpl_off rfl rfl rfl rfl ?_
       refine wpl_q (q_pure rfl) rfl ?_
       refine wpl_q (q_pure rfl) rfl ?_
       refine wpl_nil ?_
       refine ex_then ?_
       refine wpc_ret ?_
       refine ret1 (.inl rfl) rfl rfl ?_
       exact fun w h => ⟨congrArg (fun b => Ending.returned (Value.bool b)) (by first | exact (decide_eq_false fun q : a.eqv b => e1 q.1).symm | exact (decide_eq_false fun q : a.eqv b => e2 q.2.1).symm | exact (decide_eq_false fun q : a.eqv b => e3 q.2.2.1).symm | exact (decide_eq_false fun q : a.eqv b => e4 q.2.2.2.1).symm | exact (decide_eq_false fun q : a.eqv b => e5 q.2.2.2.2.1).symm | exact (decide_eq_false fun q : a.eqv b => e6 q.2.2.2.2.2.1).symm | exact decide_eq_decide.2 ⟨fun q => ⟨e1, e2, e3, e4, e5, e6, q⟩, fun q => q.2.2.2.2.2.2⟩), h.below⟩
     ·
      have e4 : ¬ a.ss = b.ss := by simpa using hb31
      refine wpl_off rfl rfl rfl rfl ?_
      refine wpl_off rfl rfl rfl rfl ?_
      refine wpl_off rfl rfl rfl rfl ?_
      refine wpl_off rfl rfl rfl rfl ?_
      refine wpl_off rfl rfl rfl rfl ?_
      refine wpl_off rfl rfl rfl rfl ?_
      refine wpl_off rfl rfl rfl rfl ?_
      refine wpl_q (q_pure rfl) rfl ?_
      refine wpl_q (q_pure rfl) rfl ?_
      refine wpl_off rfl rfl rfl rfl ?_
      refine wpl_off rfl rfl rfl rfl ?_
      refine wpl_off rfl rfl rfl rfl ?_
      refine wpl_off rfl rfl rfl rfl ?_
      refine wpl_off rfl rfl rfl rfl ?_
      refine wpl_off rfl rfl rfl rfl ?_
      refine wpl_off rfl rfl rfl rfl ?_
      refine wpl_q (q_pure rfl) rfl ?_
      refine wpl_q (q_pure rfl) rfl ?_
      refine wpl_off rfl rfl rfl rfl ?_
      refine wpl_off rfl rfl rfl rfl ?_
      refine wpl_off rfl rfl rfl rfl ?_
      refine wpl_off rfl rfl rfl rfl ?_
      refine wpl_off rfl rfl rfl rfl ?_
      refine wpl_off rfl rfl rfl rfl ?_
      refine wpl_off rfl rfl rfl rfl ?_
      refine wpl_q (q_pure rfl) rfl ?_
      refine wpl_q (q_pure rfl) rfl ?_
      refine wpl_nil ?_
      refine ex_then ?_
      refine wpc_ret ?_
      refine ret1 (.inl rfl) rfl rfl ?_
      exact fun w h => ⟨congrArg (fun b => Ending.returned (Value.bool b)) (by first | exact (decide_eq_false fun q : a.eqv b => e1 q.1).symm | exact (decide_eq_false fun q : a.eqv b => e2 q.2.1).symm | exact (decide_eq_false fun q : a.eqv b => e3 q.2.2.1).symm | exact (decide_eq_false fun q : a.eqv b => e4 q.2.2.2.1).symm | exact (decide_eq_false fun q : a.eqv b => e5 q.2.2.2.2.1).symm | exact (decide_eq_false fun q : a.eqv b => e6 q.2.2.2.2.2.1).symm | exact decide_eq_decide.2 ⟨fun q => ⟨e1, e2, e3, e4, e5, e6, q⟩, fun q => q.2.2.2.2.2.2⟩), h.below⟩
    ·
     have e3 : ¬ (a.fr = b.fr ∧ a.tt = b.tt) := by simpa using hb24
     refine wpl_off rfl rfl rfl rfl ?_
     refine wpl_off rfl rfl rfl rfl ?_
     refine wpl_off rfl rfl rfl rfl ?_
     refine wpl_off rfl rfl rfl rfl ?_
     refine wpl_off rfl rfl rfl rfl ?_
     refine wpl_q (q_pure rfl) rfl ?_
     refine wpl_q (q_pure rfl) rfl ?_
     refine wpl_off rfl rfl rfl rfl ?_
     refine wpl_off rfl rfl rfl rfl ?_
     refine wpl_off rfl rfl rfl rfl ?_
     refine wpl_off rfl rfl rfl rfl ?_
     refine wpl_off rfl rfl rfl rfl ?_
     refine wpl_off rfl rfl rfl rfl ?_
     refine wpl_off rfl rfl rfl rfl ?_
     refine wpl_q (q_pure rfl) rfl ?_
     refine wpl_q (q_pure rfl) rfl ?_
     refine wpl_off rfl rfl rfl rfl ?_
     refine wpl_off rfl rfl rfl rfl ?_
     refine wpl_off rfl rfl rfl rfl ?_
     refine wpl_off rfl rfl rfl rfl ?_
     refine wpl_off rfl rfl rfl rfl ?_
     refine wpl_off rfl rfl rfl rfl ?_
     refine wpl_off rfl rfl rfl rfl ?_
     refine wpl_q (q_pure rfl) rfl ?_
     refine wpl_q (q_pure rfl) rfl ?_
     refine wpl_off rfl rfl rfl rfl ?_
     refine wpl_off rfl rfl rfl rfl ?_
     refine wpl_off rfl rfl rfl rfl ?_
     refine wpl_off rfl rfl rfl rfl ?_
     refine wpl_off rfl rfl rfl rfl ?_
     refine wpl_off rfl rfl rfl rfl ?_
     refine wpl_off rfl rfl rfl rfl ?_
     refine wpl_q (q_pure rfl) rfl ?_
     refine wpl_q (q_pure rfl) rfl ?_
     refine wpl_nil ?_
     refine ex_then ?_
     refine wpc_ret ?_
     refine ret1 (.inl rfl) rfl rfl ?_
     exact fun w h => ⟨congrArg (fun b => Ending.returned (Value.bool b)) (by first | exact (decide_eq_false fun q : a.eqv b => e1 q.1).symm | exact (decide_eq_false fun q : a.eqv b => e2 q.2.1).symm | exact (decide_eq_false fun q : a.eqv b => e3 q.2.2.1).symm | exact (decide_eq_false fun q : a.eqv b => e4 q.2.2.2.1).symm | exact (decide_eq_false fun q : a.eqv b => e5 q.2.2.2.2.1).symm | exact (decide_eq_false fun q : a.eqv b => e6 q.2.2.2.2.2.1).symm | exact decide_eq_decide.2 ⟨fun q => ⟨e1, e2, e3, e4, e5, e6, q⟩, fun q => q.2.2.2.2.2.2⟩), h.below⟩
   ·
    have e2 : ¬ a.no = b.no := by simpa using hb17
    refine wpl_off rfl rfl rfl rfl ?_
    refine wpl_off rfl rfl rfl rfl ?_
    refine wpl_off rfl rfl rfl rfl ?_
    refine wpl_off rfl rfl rfl rfl ?_
    refine wpl_off rfl rfl rfl rfl ?_
    refine wpl_q (q_pure rfl) rfl ?_
    refine wpl_q (q_pure rfl) rfl ?_
    refine wpl_off rfl rfl rfl rfl ?_
    refine wpl_off rfl rfl rfl rfl ?_
    refine wpl_off rfl rfl rfl rfl ?_
    refine wpl_off rfl rfl rfl rfl ?_
    refine wpl_off rfl rfl rfl rfl ?_
    refine wpl_q (q_pure rfl) rfl ?_
    refine wpl_q (q_pure rfl) rfl ?_
    refine wpl_off rfl rfl rfl rfl ?_
    refine wpl_off rfl rfl rfl rfl ?_
    refine wpl_off rfl rfl rfl rfl ?_
    refine wpl_off rfl rfl rfl rfl ?_
    refine wpl_off rfl rfl rfl rfl ?_
    refine wpl_off rfl rfl rfl rfl ?_
    refine wpl_off rfl rfl rfl rfl ?_
    refine wpl_q (q_pure rfl) rfl ?_
    refine wpl_q (q_pure rfl) rfl ?_
    refine wpl_off rfl rfl rfl rfl ?_
    refine wpl_off rfl rfl rfl rfl ?_
    refine wpl_off rfl rfl rfl rfl ?_
    refine wpl_off rfl rfl rfl rfl ?_
    refine wpl_off rfl rfl rfl rfl ?_
    refine wpl_off rfl rfl rfl rfl ?_
    refine wpl_off rfl rfl rfl rfl ?_
    refine wpl_q (q_pure rfl) rfl ?_
    refine wpl_q (q_pure rfl) rfl ?_
    refine wpl_off rfl rfl rfl rfl ?_
    refine wpl_off rfl rfl rfl rfl ?_
    refine wpl_off rfl rfl rfl rfl ?_
    refine wpl_off rfl rfl rfl rfl ?_
    refine wpl_off rfl rfl rfl rfl ?_
    refine wpl_off rfl rfl rfl rfl ?_
    refine wpl_off rfl rfl rfl rfl ?_
    refine wpl_q (q_pure rfl) rfl ?_
    refine wpl_q (q_pure rfl) rfl ?_
    refine wpl_nil ?_
    refine ex_then ?_
    refine wpc_ret ?_
    refine ret1 (.inl rfl) rfl rfl ?_
    exact fun w h => ⟨congrArg (fun b => Ending.returned (Value.bool b)) (by first | exact (decide_eq_false fun q : a.eqv b => e1 q.1).symm | exact (decide_eq_false fun q : a.eqv b => e2 q.2.1).symm | exact (decide_eq_false fun q : a.eqv b => e3 q.2.2.1).symm | exact (decide_eq_false fun q : a.eqv b => e4 q.2.2.2.1).symm | exact (decide_eq_false fun q : a.eqv b => e5 q.2.2.2.2.1).symm | exact (decide_eq_false fun q : a.eqv b => e6 q.2.2.2.2.2.1).symm | exact decide_eq_decide.2 ⟨fun q => ⟨e1, e2, e3, e4, e5, e6, q⟩, fun q => q.2.2.2.2.2.2⟩), h.below⟩
  ·
   have e1 : ¬ a.nm = b.nm := by simpa using hb10
   refine wpl_off rfl rfl rfl rfl ?_
   refine wpl_off rfl rfl rfl rfl ?_
   refine wpl_off rfl rfl rfl rfl ?_
   refine wpl_off rfl rfl rfl rfl ?_
   refine wpl_off rfl rfl rfl rfl ?_
   refine wpl_q (q_pure rfl) rfl ?_
   refine wpl_q (q_pure rfl) rfl ?_
   refine wpl_off rfl rfl rfl rfl ?_
   refine wpl_off rfl rfl rfl rfl ?_
   refine wpl_off rfl rfl rfl rfl ?_
   refine wpl_off rfl rfl rfl rfl ?_
   refine wpl_off rfl rfl rfl rfl ?_
   refine wpl_q (q_pure rfl) rfl ?_
   refine wpl_q (q_pure rfl) rfl ?_
   refine wpl_off rfl rfl rfl rfl ?_
   refine wpl_off rfl rfl rfl rfl ?_
   refine wpl_off rfl rfl rfl rfl ?_
   refine wpl_off rfl rfl rfl rfl ?_
   refine wpl_off rfl rfl rfl rfl ?_
   refine wpl_q (q_pure rfl) rfl ?_
   refine wpl_q (q_pure rfl) rfl ?_
   refine wpl_off rfl rfl rfl rfl ?_
   refine wpl_off rfl rfl rfl rfl ?_
   refine wpl_off rfl rfl rfl rfl ?_
   refine wpl_off rfl rfl rfl rfl ?_
   refine wpl_off rfl rfl rfl rfl ?_
   refine wpl_off rfl rfl rfl rfl ?_
   refine wpl_off rfl rfl rfl rfl ?_
   refine wpl_q (q_pure rfl) rfl ?_
   refine wpl_q (q_pure rfl) rfl ?_
   refine wpl_off rfl rfl rfl rfl ?_
   refine wpl_off rfl rfl rfl rfl ?_
   refine wpl_off rfl rfl rfl rfl ?_
   refine wpl_off rfl rfl rfl rfl ?_
   refine wpl_off rfl rfl rfl rfl ?_
   refine wpl_off rfl rfl rfl rfl ?_
   refine wpl_off rfl rfl rfl rfl ?_
   refine wpl_q (q_pure rfl) rfl ?_
   refine wpl_q (q_pure rfl) rfl ?_
   refine wpl_off rfl rfl rfl rfl ?_
   refine wpl_off rfl rfl rfl rfl ?_
   refine wpl_off rfl rfl rfl rfl ?_
   refine wpl_off rfl rfl rfl rfl ?_
   refine wpl_off rfl rfl rfl rfl ?_
   refine wpl_off rfl rfl rfl rfl ?_
   refine wpl_off rfl rfl rfl rfl ?_
   refine wpl_q (q_pure rfl) rfl ?_
   refine wpl_q (q_pure rfl) rfl ?_
   refine wpl_nil ?_
   refine ex_then ?_
   refine wpc_ret ?_
   refine ret1 (.inl rfl) rfl rfl ?_
   exact fun w h => ⟨congrArg (fun b => Ending.returned (Value.bool b)) (by first | exact (decide_eq_false fun q : a.eqv b => e1 q.1).symm | exact (decide_eq_false fun q : a.eqv b => e2 q.2.1).symm | exact (decide_eq_false fun q : a.eqv b => e3 q.2.2.1).symm | exact (decide_eq_false fun q : a.eqv b => e4 q.2.2.2.1).symm | exact (decide_eq_false fun q : a.eqv b => e5 q.2.2.2.2.1).symm | exact (decide_eq_false fun q : a.eqv b => e6 q.2.2.2.2.2.1).symm | exact decide_eq_decide.2 ⟨fun q => ⟨e1, e2, e3, e4, e5, e6, q⟩, fun q => q.2.2.2.2.2.2⟩), h.below⟩

set_option maxRecDepth 100000 in
theorem refRvSame (a : Rv) (b : Rv) (w : World) (hla : a.seen w.cell?) (hlb : b.seen w.cell?)  :
    Calls Try.prog 15 [.agg a.c.toArray, .agg b.c.toArray].toArray w (Pur w (.bool (decide (a.eqv b)))) := by
  haveI := hla.svs.one
  haveI := hlb.svs.one
  refine enter (m := 38) (R := Mem w [] [] []) Try.func15 rfl rfl (Nat.le_of_ble_eq_true rfl) (Mem.start w) ?_
  refine wpc_seq ?_
  refine wpc_region ?_
  refine wpl_t (t_box rfl a.c rfl) rfl (fun b2 => ?_)
  refine wpl_t (t_box rfl b.c rfl) rfl (fun b3 => ?_)
  refine wpl_q (q_pure rfl) rfl ?_
  refine wpl_nil ?_
  refine ex_then ?_
  refine wpc_seq ?_
  refine wpc_region ?_
  refine wpl_q (q_field Try.underlying30 rfl Try.ti9 rfl rfl _ rfl) rfl ?_
  refine wpl_q (q_ld Try.underlying9 rfl rfl (show a.c[0]? = some (str a.nm) from rfl)) rfl ?_
  refine wpl_q (q_field Try.underlying30 rfl Try.ti9 rfl rfl _ rfl) rfl ?_
  refine wpl_q (q_ld Try.underlying9 rfl rfl (show b.c[0]? = some (str b.nm) from rfl)) rfl ?_
  refine wpl_q (q_strEq Try.underlying9 rfl rfl (by kernel_rfl)) rfl ?_
  refine wpl_q (q_pure rfl) rfl ?_
  refine wpl_bool2 10 9 rfl rfl (fun hb10 => ?_) (fun hb10 => ?_)
  ·
   have e1 : a.nm = b.nm := by simpa using hb10
   refine wpl_on rfl rfl ?_
   refine wpl_q (q_field Try.underlying30 rfl Try.ti22 rfl rfl _ rfl) rfl ?_
   refine wpl_on rfl rfl ?_
   refine wpl_q (q_ld Try.underlying22 rfl rfl (show a.c[1]? = some (.int .u64 (a.no.toNat : Int)) from rfl)) rfl ?_
   refine wpl_on rfl rfl ?_
   refine wpl_q (q_field Try.underlying30 rfl Try.ti22 rfl rfl _ rfl) rfl ?_
   refine wpl_on rfl rfl ?_
   refine wpl_q (q_ld Try.underlying22 rfl rfl (show b.c[1]? = some (.int .u64 (b.no.toNat : Int)) from rfl)) rfl ?_
   refine wpl_on rfl rfl ?_
   refine wpl_q (q64_eql rfl rfl) rfl ?_
   refine wpl_q (q_pure rfl) rfl ?_
   refine wpl_q (q_pure rfl) rfl ?_
   refine wpl_bool2 17 15 rfl rfl (fun hb17 => ?_) (fun hb17 => ?_)
   ·
    have e2 : a.no = b.no := by simpa using hb17
    refine wpl_on rfl rfl ?_
    refine wpl_q (q_field Try.underlying30 rfl Try.ti24 rfl rfl _ rfl) rfl ?_
    refine wpl_on rfl rfl ?_
    refine wpl_q (q_ldP Try.underlying24 rfl Try.ti24 rfl (wnL a.fr a.tt) rfl rfl) rfl ?_
    refine wpl_on rfl rfl ?_
    refine wpl_q (q_field Try.underlying30 rfl Try.ti24 rfl rfl _ rfl) rfl ?_
    refine wpl_on rfl rfl ?_
    refine wpl_q (q_ldP Try.underlying24 rfl Try.ti24 rfl (wnL b.fr b.tt) rfl rfl) rfl ?_
    refine wpl_on rfl rfl ?_
    refine wpl_q (q_eqWin rfl rfl) rfl ?_
    refine wpl_q (q_pure rfl) rfl ?_
    refine wpl_q (q_pure rfl) rfl ?_
    refine wpl_bool2 24 22 rfl rfl (fun hb24 => ?_) (fun hb24 => ?_)
    ·
     have e3 : (a.fr = b.fr ∧ a.tt = b.tt) := by simpa using hb24
     refine wpl_on rfl rfl ?_
     refine wpl_q (q_field Try.underlying30 rfl Try.ti25 rfl rfl _ rfl) rfl ?_
     refine wpl_on rfl rfl ?_
     refine wpl_q (q_ld Try.underlying25 rfl rfl (show a.c[4]? = some (a.sv) from rfl)) rfl ?_
     refine wpl_on rfl rfl ?_
     refine wpl_q (q_field Try.underlying30 rfl Try.ti25 rfl rfl _ rfl) rfl ?_
     refine wpl_on rfl rfl ?_
     refine wpl_q (q_ld Try.underlying25 rfl rfl (show b.c[4]? = some (b.sv) from rfl)) rfl ?_
     refine wpl_on rfl rfl ?_
     refine wpl_t (t_pur Try.hb38 rfl fun w h => sameNumbers a.sv a.ss b.sv b.ss w (h.seen_old hla.s) (h.seen_old hlb.s)) rfl (fun b29 => ?_)
     refine wpl_q (q_pure rfl) rfl ?_
     refine wpl_q (q_pure rfl) rfl ?_
     refine wpl_bool2 31 29 rfl rfl (fun hb31 => ?_) (fun hb31 => ?_)
     ·
      have e4 : a.ss = b.ss := by simpa using hb31
      refine wpl_on rfl rfl ?_
      refine wpl_q (q_field Try.underlying30 rfl Try.ti28 rfl rfl _ rfl) rfl ?_
      refine wpl_on rfl rfl ?_
      refine wpl_q (q_ldP Try.underlying28 rfl Try.ti28 rfl a.sig rfl rfl) rfl ?_
      refine wpl_on rfl rfl ?_
      refine wpl_q (q_field Try.underlying30 rfl Try.ti28 rfl rfl _ rfl) rfl ?_
      refine wpl_on rfl rfl ?_
      refine wpl_q (q_ldP Try.underlying28 rfl Try.ti28 rfl b.sig rfl rfl) rfl ?_
      refine wpl_on rfl rfl ?_
      refine wpl_t (t_pur Try.hb39 rfl fun w h => sameSig a.ix a.cv a.pv a.chs a.ps b.ix b.cv b.pv b.chs b.ps w (h.seen_old hla.c) hla.lc (h.seen_old hla.p) hla.lp (h.seen_old hlb.c) hlb.lc (h.seen_old hlb.p) hlb.lp) rfl (fun b36 => ?_)
      refine wpl_q (q_pure rfl) rfl ?_
      refine wpl_q (q_pure rfl) rfl ?_
      refine wpl_nil ?_
      refine ex_then ?_
      refine wpc_ret ?_
      refine ret1 (.inl rfl) rfl rfl ?_
      exact fun w h => ⟨congrArg (fun b => Ending.returned (Value.bool b)) (by first | exact (decide_eq_false fun q : a.eqv b => e1 q.1).symm | exact (decide_eq_false fun q : a.eqv b => e2 q.2.1).symm | exact (decide_eq_false fun q : a.eqv b => e3 q.2.2.1).symm | exact (decide_eq_false fun q : a.eqv b => e4 q.2.2.2.1).symm | exact decide_eq_decide.2 ⟨fun q => ⟨e1, e2, e3, e4, q⟩, fun q => q.2.2.2.2⟩), h.below⟩
     ·
      have e4 : ¬ a.ss = b.ss := by simpa using hb31
      refine wpl_off rfl rfl rfl rfl ?_
      refine wpl_off rfl rfl rfl rfl ?_
      refine wpl_off rfl rfl rfl rfl ?_
      refine wpl_off rfl rfl rfl rfl ?_
      refine wpl_off rfl rfl rfl rfl ?_
      refine wpl_q (q_pure rfl) rfl ?_
      refine wpl_q (q_pure rfl) rfl ?_
      refine wpl_nil ?_
      refine ex_then ?_
      refine wpc_ret ?_
      refine ret1 (.inl rfl) rfl rfl ?_
      exact fun w h => ⟨congrArg (fun b => Ending.returned (Value.bool b)) (by first | exact (decide_eq_false fun q : a.eqv b => e1 q.1).symm | exact (decide_eq_false fun q : a.eqv b => e2 q.2.1).symm | exact (decide_eq_false fun q : a.eqv b => e3 q.2.2.1).symm | exact (decide_eq_false fun q : a.eqv b => e4 q.2.2.2.1).symm | exact decide_eq_decide.2 ⟨fun q => ⟨e1, e2, e3, e4, q⟩, fun q => q.2.2.2.2⟩), h.below⟩
    ·
     have e3 : ¬ (a.fr = b.fr ∧ a.tt = b.tt) := by simpa using hb24
     refine wpl_off rfl rfl rfl rfl ?_
     refine wpl_off rfl rfl rfl rfl ?_
     refine wpl_off rfl rfl rfl rfl ?_
     refine wpl_off rfl rfl rfl rfl ?_
     refine wpl_off rfl rfl rfl rfl ?_
     refine wpl_q (q_pure rfl) rfl ?_
     refine wpl_q (q_pure rfl) rfl ?_
     refine wpl_off rfl rfl rfl rfl ?_
     refine wpl_off rfl rfl rfl rfl ?_
     refine wpl_off rfl rfl rfl rfl ?_
     refine wpl_off rfl rfl rfl rfl ?_
     refine wpl_off rfl rfl rfl rfl ?_
     refine wpl_q (q_pure rfl) rfl ?_
     refine wpl_q (q_pure rfl) rfl ?_
     refine wpl_nil ?_
     refine ex_then ?_
     refine wpc_ret ?_
     refine ret1 (.inl rfl) rfl rfl ?_
     exact fun w h => ⟨congrArg (fun b => Ending.returned (Value.bool b)) (by first | exact (decide_eq_false fun q : a.eqv b => e1 q.1).symm | exact (decide_eq_false fun q : a.eqv b => e2 q.2.1).symm | exact (decide_eq_false fun q : a.eqv b => e3 q.2.2.1).symm | exact (decide_eq_false fun q : a.eqv b => e4 q.2.2.2.1).symm | exact decide_eq_decide.2 ⟨fun q => ⟨e1, e2, e3, e4, q⟩, fun q => q.2.2.2.2⟩), h.below⟩
   ·
    have e2 : ¬ a.no = b.no := by simpa using hb17
    refine wpl_off rfl rfl rfl rfl ?_
    refine wpl_off rfl rfl rfl rfl ?_
    refine wpl_off rfl rfl rfl rfl ?_
    refine wpl_off rfl rfl rfl rfl ?_
    refine wpl_off rfl rfl rfl rfl ?_
    refine wpl_q (q_pure rfl) rfl ?_
    refine wpl_q (q_pure rfl) rfl ?_
    refine wpl_off rfl rfl rfl rfl ?_
    refine wpl_off rfl rfl rfl rfl ?_
    refine wpl_off rfl rfl rfl rfl ?_
    refine wpl_off rfl rfl rfl rfl ?_
    refine wpl_off rfl rfl rfl rfl ?_
    refine wpl_q (q_pure rfl) rfl ?_
    refine wpl_q (q_pure rfl) rfl ?_
    refine wpl_off rfl rfl rfl rfl ?_
    refine wpl_off rfl rfl rfl rfl ?_
    refine wpl_off rfl rfl rfl rfl ?_
    refine wpl_off rfl rfl rfl rfl ?_
    refine wpl_off rfl rfl rfl rfl ?_
    refine wpl_q (q_pure rfl) rfl ?_
    refine wpl_q (q_pure rfl) rfl ?_
    refine wpl_nil ?_
    refine ex_then ?_
    refine wpc_ret ?_
    refine ret1 (.inl rfl) rfl rfl ?_
    exact fun w h => ⟨congrArg (fun b => Ending.returned (Value.bool b)) (by first | exact (decide_eq_false fun q : a.eqv b => e1 q.1).symm | exact (decide_eq_false fun q : a.eqv b => e2 q.2.1).symm | exact (decide_eq_false fun q : a.eqv b => e3 q.2.2.1).symm | exact (decide_eq_false fun q : a.eqv b => e4 q.2.2.2.1).symm | exact decide_eq_decide.2 ⟨fun q => ⟨e1, e2, e3, e4, q⟩, fun q => q.2.2.2.2⟩), h.below⟩
  ·
   have e1 : ¬ a.nm = b.nm := by simpa using hb10
   refine wpl_off rfl rfl rfl rfl ?_
   refine wpl_off rfl rfl rfl rfl ?_
   refine wpl_off rfl rfl rfl rfl ?_
   refine wpl_off rfl rfl rfl rfl ?_
   refine wpl_off rfl rfl rfl rfl ?_
   refine wpl_q (q_pure rfl) rfl ?_
   refine wpl_q (q_pure rfl) rfl ?_
   refine wpl_off rfl rfl rfl rfl ?_
   refine wpl_off rfl rfl rfl rfl ?_
   refine wpl_off rfl rfl rfl rfl ?_
   refine wpl_off rfl rfl rfl rfl ?_
   refine wpl_off rfl rfl rfl rfl ?_
   refine wpl_q (q_pure rfl) rfl ?_
   refine wpl_q (q_pure rfl) rfl ?_
   refine wpl_off rfl rfl rfl rfl ?_
   refine wpl_off rfl rfl rfl rfl ?_
   refine wpl_off rfl rfl rfl rfl ?_
   refine wpl_off rfl rfl rfl rfl ?_
   refine wpl_off rfl rfl rfl rfl ?_
   refine wpl_q (q_pure rfl) rfl ?_
   refine wpl_q (q_pure rfl) rfl ?_
   refine wpl_off rfl rfl rfl rfl ?_
   refine wpl_off rfl rfl rfl rfl ?_
   refine wpl_off rfl rfl rfl rfl ?_
   refine wpl_off rfl rfl rfl rfl ?_
   refine wpl_off rfl rfl rfl rfl ?_
   refine wpl_q (q_pure rfl) rfl ?_
   refine wpl_q (q_pure rfl) rfl ?_
   refine wpl_nil ?_
   refine ex_then ?_
   refine wpc_ret ?_
   refine ret1 (.inl rfl) rfl rfl ?_
   exact fun w h => ⟨congrArg (fun b => Ending.returned (Value.bool b)) (by first | exact (decide_eq_false fun q : a.eqv b => e1 q.1).symm | exact (decide_eq_false fun q : a.eqv b => e2 q.2.1).symm | exact (decide_eq_false fun q : a.eqv b => e3 q.2.2.1).symm | exact (decide_eq_false fun q : a.eqv b => e4 q.2.2.2.1).symm | exact decide_eq_decide.2 ⟨fun q => ⟨e1, e2, e3, e4, q⟩, fun q => q.2.2.2.2⟩), h.below⟩

set_option maxRecDepth 100000 in
theorem greatSig (ix : Int) (cv pv : Value) (chs ps : List (List UInt8)) (w : World) (hcv : SV cv chs.length) (hpv : SV pv ps.length)  :
    Calls Try.prog 26 [.agg #[.int .i64 ix, cv, pv]].toArray w (Pur w (.bool (decide (60 < chs.length) || decide (60 < ps.length)))) := by
  haveI : OneC [.int .i64 ix, cv, pv] := OneC.cons rfl (OneC.cons (SV.one hcv) (OneC.cons (SV.one hpv) oneC_nil))
  have lcv := hcv.le
  have lpv := hpv.le
  simp only [maxLen] at lcv lpv
  refine enter (m := 13) (R := Mem w [] [] []) Try.func26 rfl rfl (Nat.le_of_ble_eq_true rfl) (Mem.start w) ?_
  refine wpc_seq ?_
  refine wpc_region ?_
  refine wpl_t (t_box rfl [.int .i64 ix, cv, pv] rfl) rfl (fun b1 => ?_)
  refine wpl_q (q_pure rfl) rfl ?_
  refine wpl_nil ?_
  refine ex_then ?_
  refine wpc_seq ?_
  refine wpc_region ?_
  refine wpl_q (q_field Try.underlying28 rfl Try.ti26 rfl rfl _ rfl) rfl ?_
  refine wpl_q (q_ld Try.underlying26 rfl rfl rfl) rfl ?_
  refine wpl_q (q_lenW Try.underlying26 rfl (by first | assumption | exact SV.nil | exact SV.slv (by assumption) (by omega) (by omega) | exact arv_sv (by first | decide | (simp only [maxLen]; omega)))) rfl ?_
  refine wpl_q (q_pure rfl) rfl ?_
  refine wpl_q (q_pure rfl) rfl ?_
  refine wpl_bool2 7 6 rfl rfl (fun hb7 => ?_) (fun hb7 => ?_)
  ·
   try simp only [decide_eq_true_eq, decide_eq_false_iff_not, Bool.and_eq_true, Bool.or_eq_true, beq_iff_eq, bne_iff_ne, ne_eq, Bool.not_eq_true', Bool.not_eq_false', Decidable.not_not] at hb7
   refine wpl_off rfl rfl rfl rfl ?_
   refine wpl_off rfl rfl rfl rfl ?_
   refine wpl_off rfl rfl rfl rfl ?_
   refine wpl_off rfl rfl rfl rfl ?_
   refine wpl_q (q_pure rfl) rfl ?_
   refine wpl_q (q_pure rfl) rfl ?_
   refine wpl_nil ?_
   refine ex_then ?_
   refine wpc_ret ?_
   refine ret1 (.inl rfl) rfl rfl ?_
   exact fun w h => ⟨congrArg (fun b => Ending.returned (Value.bool b)) (by (try simp only [decide_eq_true_eq, decide_eq_false_iff_not, gt_iff_lt] at *); rw [Bool.eq_iff_iff]; simp only [Bool.or_eq_true, decide_eq_true_eq, true_iff]; omega), h.below⟩
  ·
   try simp only [decide_eq_true_eq, decide_eq_false_iff_not, Bool.and_eq_true, Bool.or_eq_true, beq_iff_eq, bne_iff_ne, ne_eq, Bool.not_eq_true', Bool.not_eq_false', Decidable.not_not] at hb7
   refine wpl_on rfl rfl ?_
   refine wpl_q (q_field Try.underlying28 rfl Try.ti26 rfl rfl _ rfl) rfl ?_
   refine wpl_on rfl rfl ?_
   refine wpl_q (q_ld Try.underlying26 rfl rfl rfl) rfl ?_
   refine wpl_on rfl rfl ?_
   refine wpl_q (q_lenW Try.underlying26 rfl (by first | assumption | exact SV.nil | exact SV.slv (by assumption) (by omega) (by omega) | exact arv_sv (by first | decide | (simp only [maxLen]; omega)))) rfl ?_
   refine wpl_on rfl rfl ?_
   refine wpl_q (q_pure rfl) rfl ?_
   refine wpl_q (q_pure rfl) rfl ?_
   refine wpl_q (q_pure rfl) rfl ?_
   refine wpl_nil ?_
   refine ex_then ?_
   refine wpc_ret ?_
   refine ret1 (.inl rfl) rfl rfl ?_
   exact fun w h => ⟨congrArg (fun b => Ending.returned (Value.bool b)) (by (try simp only [decide_eq_true_eq, decide_eq_false_iff_not, gt_iff_lt] at *); rw [Bool.eq_iff_iff]; simp only [Bool.or_eq_true, decide_eq_true_eq, true_iff]; omega), h.below⟩

set_option maxRecDepth 100000 in
theorem refRvGreat (l : Rv) (w : World) (hl : l.seen w.cell?) (hnl : l.nm.length ≤ maxLen)  :
    Calls Try.prog 7 [.agg l.c.toArray].toArray w (Pur w (.bool (bigR l))) := by
  haveI := hl.svs.one
  have lss := hl.s.sv.le
  have lcs := hl.c.sv.le
  have lps := hl.p.sv.le
  have sss := hl.s.sv
  have scs := hl.c.sv
  have sps := hl.p.sv
  simp only [maxLen] at lss lcs lps
  refine enter (m := 18) (R := Mem w [] [] []) Try.func7 rfl rfl (Nat.le_of_ble_eq_true rfl) (Mem.start w) ?_
  refine wpc_seq ?_
  refine wpc_region ?_
  refine wpl_t (t_box rfl l.c rfl) rfl (fun b1 => ?_)
  refine wpl_q (q_pure rfl) rfl ?_
  refine wpl_nil ?_
  refine ex_then ?_
  refine wpc_seq ?_
  refine wpc_region ?_
  refine wpl_q (q_field Try.underlying30 rfl Try.ti9 rfl rfl _ rfl) rfl ?_
  refine wpl_q (q_ld Try.underlying9 rfl rfl (show l.c[0]? = some (str l.nm) from rfl)) rfl ?_
  refine wpl_q (q_lenS Try.underlying9 rfl) rfl ?_
  refine wpl_q (q_pure rfl) rfl ?_
  refine wpl_q (q_pure rfl) rfl ?_
  refine wpl_bool2 7 6 rfl rfl (fun hb7 => ?_) (fun hb7 => ?_)
  ·
   have g1 : 500 < l.nm.length := by have := of_decide_eq_true hb7; omega
   refine wpl_off rfl rfl rfl rfl ?_
   refine wpl_off rfl rfl rfl rfl ?_
   refine wpl_off rfl rfl rfl rfl ?_
   refine wpl_off rfl rfl rfl rfl ?_
   refine wpl_q (q_pure rfl) rfl ?_
   refine wpl_q (q_pure rfl) rfl ?_
   refine wpl_off rfl rfl rfl rfl ?_
   refine wpl_off rfl rfl rfl rfl ?_
   refine wpl_off rfl rfl rfl rfl ?_
   refine wpl_q (q_pure rfl) rfl ?_
   refine wpl_q (q_pure rfl) rfl ?_
   refine wpl_nil ?_
   refine ex_then ?_
   refine wpc_ret ?_
   refine ret1 (.inl rfl) rfl rfl ?_
   exact fun w h => ⟨congrArg (fun b => Ending.returned (Value.bool b)) (by unfold bigR; first | (rw [decide_eq_true g1]; rfl) | (rw [decide_eq_false g1, decide_eq_true g2]; rfl) | (rw [decide_eq_false g1, decide_eq_false g2]; rfl)), h.below⟩
  ·
   have g1 : ¬ 500 < l.nm.length := by have := of_decide_eq_false hb7; omega
   refine wpl_on rfl rfl ?_
   refine wpl_q (q_field Try.underlying30 rfl Try.ti25 rfl rfl _ rfl) rfl ?_
   refine wpl_on rfl rfl ?_
   refine wpl_q (q_ld Try.underlying25 rfl rfl (show l.c[4]? = some (l.sv) from rfl)) rfl ?_
   refine wpl_on rfl rfl ?_
   refine wpl_q (q_lenW Try.underlying25 rfl (by first | assumption | exact SV.nil | exact SV.slv (by assumption) (by omega) (by omega) | exact arv_sv (by first | decide | (simp only [maxLen]; omega)))) rfl ?_
   refine wpl_on rfl rfl ?_
   refine wpl_q (q_pure rfl) rfl ?_
   refine wpl_q (q_pure rfl) rfl ?_
   refine wpl_q (q_pure rfl) rfl ?_
   refine wpl_bool2 13 11 rfl rfl (fun hb13 => ?_) (fun hb13 => ?_)
   ·
    have g2 : 520 < l.ss.length := by have := of_decide_eq_true hb13; omega
    refine wpl_off rfl rfl rfl rfl ?_
    refine wpl_off rfl rfl rfl rfl ?_
    refine wpl_off rfl rfl rfl rfl ?_
    refine wpl_q (q_pure rfl) rfl ?_
    refine wpl_q (q_pure rfl) rfl ?_
    refine wpl_nil ?_
    refine ex_then ?_
    refine wpc_ret ?_
    refine ret1 (.inl rfl) rfl rfl ?_
    exact fun w h => ⟨congrArg (fun b => Ending.returned (Value.bool b)) (by unfold bigR; first | (rw [decide_eq_true g1]; rfl) | (rw [decide_eq_false g1, decide_eq_true g2]; rfl) | (rw [decide_eq_false g1, decide_eq_false g2]; rfl)), h.below⟩
   ·
    have g2 : ¬ 520 < l.ss.length := by have := of_decide_eq_false hb13; omega
    refine wpl_on rfl rfl ?_
    refine wpl_q (q_field Try.underlying30 rfl Try.ti28 rfl rfl _ rfl) rfl ?_
    refine wpl_on rfl rfl ?_
    refine wpl_q (q_ldP Try.underlying28 rfl Try.ti28 rfl l.sig rfl rfl) rfl ?_
    refine wpl_on rfl rfl ?_
    refine wpl_t (t_pur Try.hb26 rfl fun w h => greatSig l.ix l.cv l.pv l.chs l.ps w scs sps) rfl (fun b16 => ?_)
    refine wpl_q (q_pure rfl) rfl ?_
    refine wpl_q (q_pure rfl) rfl ?_
    refine wpl_nil ?_
    refine ex_then ?_
    refine wpc_ret ?_
    refine ret1 (.inl rfl) rfl rfl ?_
    exact fun w h => ⟨congrArg (fun b => Ending.returned (Value.bool b)) (by unfold bigR; first | (rw [decide_eq_true g1]; rfl) | (rw [decide_eq_false g1, decide_eq_true g2]; rfl) | (rw [decide_eq_false g1, decide_eq_false g2]; rfl)), h.below⟩

end Go.Proofs.Ytgnablliekgbgaa
