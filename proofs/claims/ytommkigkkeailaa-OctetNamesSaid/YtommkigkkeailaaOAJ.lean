/- Decoding: what is deferred. -/
import Derived.Test.YtommkigkkeailaaOAI
import Derived.Recover
namespace Go.Proofs.Ytommkigkkeailaa
set_option linter.unusedSimpArgs false
set_option linter.unusedVariables false
open Go Go.PL Go.RowKit

section
variable {P : Program} {n : Cx} {R : World → Prop} {L : Slots} {Q : Exit → Act → World → Prop} {w0 : World} {Ln : List Nat} {M : List Ent} {S : List Fact} {bad1 : Prop} {ops : Array Oper} {rest : List Oper}
/-- A call that may let a panic out; what then holds is shown. -/
theorem t_callXQ {k : FuncId} {args : Array Operand} {at_ : Array TypeId} {vs : List Value} {ι : Type} {p : ι → Prop} {V : ι → Value} {N : ι → List Ent} (M1 X A : List Ent) (Z : ι → List Ent) (hA : M1 ++ X = A) [hM : SelC A M] (hZ : ∀ x, p x → (N x ++ X).Perm (Z x)) (hb : HasBody P k) (hv : evs L args.toList = some vs)
    (hc : ∀ w, Mem w0 Ln M S w → Mem w (nums M1) M1 [] w → Calls P k vs.toArray w (GivesX w M1 p V N bad1)) (hQ : ∀ a w', Sl n a L → bad1 → Mem w0 Ln X S w' → Q (.panic chainX) a w') :
    TOpP P Q n (Mem w0 Ln M S) L (.call { callee := .value (.func k), args := args, argTypes := at_ }) ι p V (fun x => Mem w0 Ln (Z x) S) := by
  have h : TOp P Q n (Mem w0 Ln M S) L (.call { callee := .value (.func k), args := args, argTypes := at_ }) { x : ι // p x } (fun x => V x.1) (fun x => Mem w0 Ln (Z x.1) S) := by
    intro d ty pos af g a w K hs hm0 hk
    subst hA
    have hm := hm0.selP hM.h
    have hargs : args.map a.eval = vs.toArray := by
      have e : (args.map a.eval).toList = vs := by rw [Array.toList_map]; exact evs_eval hs hv
      rw [← e]
    have hrun : (execOp a.eval ⟨d, .call { callee := .value (.func k), args := args, argTypes := at_ }, ty, pos, af, g⟩).run P w = .ok (.enter k vs.toArray) w := by
      have hf : ev L (.func k) = some (.func (.func k) #[] #[]) := rfl
      simp only [execOp, resolve, hs.eval hf, hargs]
      simp [Deferred.ofValue, invoke, run_callFunc hb]
    unfold Oper.wp
    rw [hrun]
    refine (hc w hm0 (Mem.startL w (fun e he => hm.own e (List.mem_append_left _ he)) (List.pairwise_append.1 hm.apart).1)).mono ?_
    rintro e w' (⟨x, hp, rfl, h⟩ | ⟨hb1, rfl, h⟩)
    · exact hk ⟨x, hp⟩ w' ((((hm.perm List.perm_append_comm).framedS h).perm List.perm_append_comm).perm (hZ x hp))
    · exact hQ a w' hs hb1 (((hm.perm List.perm_append_comm).framedS h).perm (by rw [List.append_nil]))
  exact h.rep fun x w h => ⟨x.1, x.2, rfl, h⟩
theorem wpl_defer {x : Operand} {k : FuncId} {us cap : Array Value} {d : Deferred} {ty : TypeId} {pos : String} {af : Array Edge} (hx : ev L x = some (.func (.func k) us cap)) (hd : ({ target := .fn (.func k) cap, args := us } : Deferred) = d) (next : WPL P ops Q ⟨n.n, d :: n.ds⟩ R L rest) :
    WPL P ops Q n R L (⟨none, .defer { callee := .value x, args := #[], argTypes := #[] }, ty, pos, af, none⟩ :: rest) := by
  intro a w hs hr
  refine wpList_plain rfl fun K hK => ?_
  have hrun : (execOp a.eval ⟨none, .defer { callee := .value x, args := #[], argTypes := #[] }, ty, pos, af, none⟩).run P w = .ok (.defer d) w := by
    simp only [execOp, resolve, hs.eval hx]
    simp [Deferred.ofValue, ← hd]
  unfold Oper.wp
  rw [hrun]
  exact hK _ _ (next { a with defers := d :: a.defers } w ⟨hs.size, by show d :: a.defers = d :: n.ds; rw [hs.defers], hs.tmp⟩ hr)
theorem sl_start {fn : Func} {m : Nat} (hn : fn.ntmps = m) (args : List Value) (hna : args.length ≤ m) : Sl ⟨m, []⟩ { tmps := args.toArray ++ Array.replicate (fn.ntmps - args.toArray.size) undef, defers := [] } (argSlots 0 args) := by
  refine ⟨?_, rfl, fun t v hv => ?_⟩
  · simp [hn]; omega
  · have := (get_argSlots t v args 0 hv).2
    simp only [Nat.sub_zero] at this
    have hlt : t < args.length := by
      rcases Nat.lt_or_ge t args.length with h | h
      · exact h
      · rw [List.getElem?_eq_none h] at this; cases this
    rw [List.getElem?_eq_getElem hlt] at this
    simpa [Array.getElem?_append, hlt] using this
theorem enterD {f : FuncId} {fn : Func} {c : Code} {args : List Value} {w0 : World} {post : Ending → World → Prop} (hf : P.funcs[f]? = some fn) (hb : fn.body = some c) {m : Nat} (hn : fn.ntmps = m) (hna : args.length ≤ m) (h0 : R w0)
    (h : WPC P (bodyPostD P fn post) ⟨m, []⟩ R (argSlots 0 args) c) : Calls P f args.toArray w0 post := calls_of_wp_defers hf hb (h _ w0 (sl_start hn args hna) h0)
theorem res2 {fn : Func} {r s : ResultVar} {v u : Value} {a : Act} {w : World} (hs : Sl n a L) (hw : R w) (hr : fn.results = #[r, s]) (h1 : RVal P R L r v) (h2 : RVal P R L s u) : (results fn a.tmps).run P w = .ok (.tuple #[v, u]) w := by
  simp only [results, hr]
  cases r <;> cases s
  · simp only [RVal] at h1; simp only [RVal] at h2; simp [hs.tmp _ _ h1, hs.tmp _ _ h2, asAddr]
  · simp only [RVal] at h1; simp only [RVal] at h2; obtain ⟨ad1, hx1, hl1⟩ := h2; simp [hs.tmp _ _ h1, hs.tmp _ _ hx1, hl1 w hw, asAddr]
  · simp only [RVal] at h1; simp only [RVal] at h2; obtain ⟨ad0, hx0, hl0⟩ := h1; simp [hs.tmp _ _ hx0, hl0 w hw, hs.tmp _ _ h2, asAddr]
  · simp only [RVal] at h1; simp only [RVal] at h2; obtain ⟨ad0, hx0, hl0⟩ := h1; obtain ⟨ad1, hx1, hl1⟩ := h2; simp [hs.tmp _ _ hx0, hl0 w hw, hs.tmp _ _ hx1, hl1 w hw, asAddr]
theorem retD0 {m : Nat} {fn : Func} {post : Ending → World → Prop} {r s : ResultVar} {v u : Value} {e : Exit} (he : e = .ret ∨ e = .normal) (hr : fn.results = #[r, s]) (h1 : RVal P R L r v) (h2 : RVal P R L s u)
    (h : ∀ w, R w → post (.returned (.tuple #[v, u])) w) : EX (bodyPostD P fn post) e ⟨m, []⟩ R L := by
  intro a w hs hw
  have hx := res2 hs hw hr h1 h2
  have key : Leaves P fn a.tmps post a.defers .returning w := by
    rw [hs.defers]; exact ⟨_, hx, h w hw⟩
  rcases he with rfl | rfl <;> exact key
theorem wpOpsS_recN {i : Nat} {is : List Nat} {QS : Exit → Act → List Frame → World → Prop} {a : Act} {cs : List Frame} {w : World} {d : Option Tmp} {ty : TypeId} {pos : String} {af : Array Edge} (ho : ops[i]? = some ⟨d, .call { callee := .builtin .recover, args := #[], argTypes := #[] }, ty, pos, af, none⟩) (hr : recoverD cs = none)
    (h : wpOpsS P ops QS is (a.put d .nilIface) cs w) : wpOpsS P ops QS (i :: is) a cs w := by
  have hrun : (execOp a.eval ⟨d, .call { callee := .builtin .recover, args := #[], argTypes := #[] }, ty, pos, af, none⟩).run P w = .ok .recover w := by
    simp [execOp, resolve, invoke, builtin]
  simp only [wpOpsS, ho, Region.wanted, if_true, hrun, hr]
  exact h
theorem wpOpsS_recS {i : Nat} {is : List Nat} {QS : Exit → Act → List Frame → World → Prop} {a : Act} {cs cs' : List Frame} {v : Value} {w : World} {d : Option Tmp} {ty : TypeId} {pos : String} {af : Array Edge} (ho : ops[i]? = some ⟨d, .call { callee := .builtin .recover, args := #[], argTypes := #[] }, ty, pos, af, none⟩) (hr : recoverD cs = some (v, cs'))
    (h : wpOpsS P ops QS is (a.put d v) cs' w) : wpOpsS P ops QS (i :: is) a cs w := by
  have hrun : (execOp a.eval ⟨d, .call { callee := .builtin .recover, args := #[], argTypes := #[] }, ty, pos, af, none⟩).run P w = .ok .recover w := by
    simp [execOp, resolve, invoke, builtin]
  simp only [wpOpsS, ho, Region.wanted, if_true, hrun, hr]
  exact h
theorem wpOpsS_q {i : Nat} {is : List Nat} {QS : Exit → Act → List Frame → World → Prop} {a : Act} {cs : List Frame} {v : Value} {w : World} {d : Option Tmp} {op : Op} {ty : TypeId} {pos : String} {af : Array Edge} (ho : ops[i]? = some ⟨d, op, ty, pos, af, none⟩) (hop : QOp P n (fun _ => True) L op v) (hs : Sl n a L)
    (h : wpOpsS P ops QS is (a.put d v) cs w) : wpOpsS P ops QS (i :: is) a cs w := by
  have hrun := hop d ty pos af none a w hs trivial
  simp only [wpOpsS, ho, Region.wanted, if_true, hrun, Oper.upon]
  exact h
theorem wpS_cod {QS : Exit → Act → List Frame → World → Prop} {c : Code} {a : Act} {cs : List Frame} {w : World} (hs : Sl n a L) (hr : R w) (h : WPC P (fun e a' w' => QS e a' cs w') n R L c) : c.wpS P QS a cs w := wpS_of_wp (h a w hs hr)
end
abbrev dcl (b2 b3 : Nat) : Deferred := { target := .fn (.func 56) #[.pointer (some ⟨b2, 0, none⟩), .pointer (some ⟨b3, 0, none⟩)], args := #[] }
theorem dcl_run (b2 b3 : Nat) (w : World) : (invoke (dcl b2 b3).target (dcl b2 b3).args).run Try.prog w = .ok (.enter 56 #[.pointer (some ⟨b2, 0, none⟩), .pointer (some ⟨b3, 0, none⟩)]) w := by
  simp [invoke, run_callFunc Try.hb56]
theorem q_neNilT {n : Cx} {R : World → Prop} {L : Slots} {x : Operand} (hx : ev L x = some (Value.iface 81 (.agg #[]))) : QOp Try.prog n R L (.binOp .neq 20 x (.const .nilIface) 20) (.bool true) := by
  intro d ty pos af g a w hs _
  simp only [execOp, hs.eval hx, hs.eval (show ev L (.const .nilIface) = some .nilIface from rfl)]
  kernel_rfl
theorem q_neNilF {n : Cx} {R : World → Prop} {L : Slots} (hx : ev L (.tmp 6) = some .nilIface) : QOp Try.prog n R L (.binOp .neq 20 (.tmp 6) (.const .nilIface) 20) (.bool false) := by
  intro d ty pos af g a w hs _
  simp only [execOp, hs.eval hx, hs.eval (show ev L (.const .nilIface) = some .nilIface from rfl)]
  kernel_rfl
theorem q_taErr {n : Cx} {R : World → Prop} {L : Slots} {x : Operand} (hx : ev L x = some (Value.iface 81 (.agg #[]))) : QOp Try.prog n R L (.typeAssert x 20 81 true) (.tuple #[.agg #[], .bool true]) := by
  intro d ty pos af g a w hs _
  simp only [execOp, hs.eval hx]
  kernel_rfl


theorem cl_ret (b2 b3 : Nat) (w : World) : CallsD Try.prog 56 #[.pointer (some ⟨b2, 0, none⟩), .pointer (some ⟨b3, 0, none⟩)] .returning w (fun e u' w' => e = .returned (.tuple #[]) ∧ u' = .returning ∧ w' = w) := by
  refine callsD_of_wpS Try.func56 rfl fun c0 cs hu => ?_
  have hs0 := sl_start (fn := Try.f56) (m := 17) rfl [.pointer (some ⟨b2, 0, none⟩), .pointer (some ⟨b3, 0, none⟩)] (Nat.le_of_ble_eq_true rfl)
  refine wpS_seq (wpS_region ?_)
  show wpOpsS _ _ _ [0, 1] _ _ _
  refine wpOpsS_recN rfl (by simp [recoverD, hu]) ?_
  have hs1 := hs0.put (d := 5) rfl .nilIface
  refine wpOpsS_q rfl (q_pure rfl) hs1 ?_
  have hs2 := hs1.put (d := 2) rfl .nilIface
  refine wpS_cod (R := fun w' => w' = w) hs2 rfl ?_
  refine wpc_seq ?_
  refine wpc_region ?_
  refine wpl_q (q_pure rfl) rfl ?_
  refine wpl_q (q_neNilF rfl) rfl ?_
  refine wpl_nil ?_
  refine ex_then ?_
  refine wpc_cond_f rfl ?_
  refine wpc_skip ?_
  exact fun a w1 hs h => ⟨hs.defers, .returning, congrArg (· :: cs) (by rw [← hu]), .tuple #[], results_none rfl _ _ _, rfl, rfl, h⟩
theorem cl_pan (b2 b3 : Nat) (t : HT) (w : World) (hB : Mem w (nums [.blk b2 25 t.c, .blk b3 29 [.int .i64 0]]) [.blk b2 25 t.c, .blk b3 29 [.int .i64 0]] [] w) : CallsD Try.prog 56 #[.pointer (some ⟨b2, 0, none⟩), .pointer (some ⟨b3, 0, none⟩)] (.panicking chainX) w (fun e u' w' => e = .returned (.tuple #[]) ∧ u' = .panicking [{ v := (Value.iface 81 (.agg #[])), recovered := true }] ∧ Mem w (nums [.blk b2 25 t.c, .blk b3 29 [.int .i64 0]]) [.blk b2 25 HT.z.c, .blk b3 29 [.int .i64 12]] [] w') := by
  refine callsD_of_wpS Try.func56 rfl fun c0 cs hu => ?_
  have hs0 := sl_start (fn := Try.f56) (m := 17) rfl [.pointer (some ⟨b2, 0, none⟩), .pointer (some ⟨b3, 0, none⟩)] (Nat.le_of_ble_eq_true rfl)
  refine wpS_seq (wpS_region ?_)
  show wpOpsS _ _ _ [0, 1] _ _ _
  refine wpOpsS_recS (v := (Value.iface 81 (.agg #[]))) (cs' := { c0 with mode := .panicking [{ v := (Value.iface 81 (.agg #[])), recovered := true }] } :: cs) rfl (by simp [recoverD, hu, chainX]) ?_
  have hs1 := hs0.put (d := 5) rfl (Value.iface 81 (.agg #[]))
  refine wpOpsS_q rfl (q_pure rfl) hs1 ?_
  have hs2 := hs1.put (d := 2) rfl (Value.iface 81 (.agg #[]))
  refine wpS_cod (R := Mem w (nums [.blk b2 25 t.c, .blk b3 29 [.int .i64 0]]) [.blk b2 25 t.c, .blk b3 29 [.int .i64 0]] []) hs2 hB ?_
  refine wpc_seq ?_
  refine wpc_region ?_
  refine wpl_q (q_pure rfl) rfl ?_
  refine wpl_q (q_neNilT rfl) rfl ?_
  refine wpl_nil ?_
  refine ex_then ?_
  refine wpc_cond_t rfl ?_
  refine wpc_seq ?_
  refine wpc_seq ?_
  refine wpc_region ?_
  refine wpl_q (q_pure rfl) rfl ?_
  refine wpl_q (q_taErr rfl) rfl ?_
  refine wpl_q (q_pure rfl) rfl ?_
  refine wpl_q (q_pure rfl) rfl ?_
  refine wpl_q (q_pure rfl) rfl ?_
  refine wpl_t (t_alloc Try.ti81 [] rfl) rfl (fun b3 => ?_)
  refine wpl_t0 (t_stA Try.ti81 rfl rfl rfl (fun u hu => by cases hu) rfl) (fun _ => ?_)
  refine wpl_q (q_pure rfl) rfl ?_
  refine wpl_nil ?_
  refine ex_then ?_
  refine wpc_seq ?_
  refine wpc_region ?_
  refine wpl_q (q_pure rfl) rfl ?_
  refine wpl_q (q_pure rfl) rfl ?_
  refine wpl_nil ?_
  refine ex_then ?_
  refine wpc_cond_f rfl ?_
  refine wpc_skip ?_
  refine ex_then ?_
  refine wpc_region ?_
  refine wpl_q (q_build (cs := HT.z.c) rfl built_oz) rfl ?_
  refine wpl_t0 (t_stA Try.ti25 rfl rfl LenC.h OneC.h LenC.h) (fun _ => ?_)
  refine wpl_t0 (t_st1 Try.ti29 rfl rfl rfl (by first | decide | omega | exact Nat.zero_lt_one | (simp; omega) | (simp; done) | (simp only [v8s_length, v32s_length, vis_length, vns_length, v64s_length]; omega)) [.int .i64 12] rfl) (fun _ => ?_)
  refine wpl_nil ?_
  exact fun a w1 hs h => ⟨hs.defers, .panicking [{ v := (Value.iface 81 (.agg #[])), recovered := true }], rfl, .tuple #[], results_none rfl _ _ _, rfl, rfl, h.sub SubC.h .nil⟩

section
variable {n : Cx} {R : World → Prop} {L : Slots}
/-- Decode returns: the deferred closure does nothing. -/
theorem retD1 {m b2 b3 : Nat} {fn : Func} {post : Ending → World → Prop} {r s : ResultVar} {v u : Value} {e : Exit} (he : e = .ret ∨ e = .normal) (hr : fn.results = #[r, s]) (h1 : RVal Try.prog R L r v) (h2 : RVal Try.prog R L s u)
    (h : ∀ w, R w → post (.returned (.tuple #[v, u])) w) : EX (bodyPostD Try.prog fn post) e ⟨m, [dcl b2 b3]⟩ R L := by
  intro a w hs hw
  have hx := res2 hs hw hr h1 h2
  have key : Leaves Try.prog fn a.tmps post a.defers .returning w := by
    rw [hs.defers]
    refine leaves_cons (by simp) (dcl_run b2 b3 w) ((cl_ret b2 b3 w).mono ?_)
    rintro e u' w' ⟨rfl, rfl, rfl⟩
    exact ⟨_, hx, h _ hw⟩
  rcases he with rfl | rfl <;> exact key
/-- Decode panics: the closure sets the results. -/
theorem panD {m b2 b3 : Nat} {fn : Func} {post : Ending → World → Prop} {w0 w : World} {t : HT} {X : List Ent} {S : List Fact} {a : Act} (hs : Sl ⟨m, [dcl b2 b3]⟩ a L) (hr : fn.results = #[.cell 2 25, .cell 3 29]) (h2 : get L 2 = some (.pointer (some ⟨b2, 0, none⟩))) (h3 : get L 3 = some (.pointer (some ⟨b3, 0, none⟩)))
    (hm : Mem w0 [] X S w) [hX : SelC [.blk b2 25 t.c, .blk b3 29 [.int .i64 0]] X] (h : ∀ w1, Mem w0 [] [.blk b2 25 HT.z.c, .blk b3 29 [.int .i64 12]] [] w1 → post (.returned (.tuple #[.agg HT.z.c.toArray, .int .i64 12])) w1) : Leaves Try.prog fn a.tmps post a.defers (.panicking chainX) w := by
  rw [hs.defers]
  have hm1 : Mem w0 [] [.blk b2 25 t.c, .blk b3 29 [.int .i64 0]] S w := hm.sel
  have hB := Mem.startL w hm1.own hm1.apart
  refine leaves_cons (by simp) (dcl_run b2 b3 w) ((cl_pan b2 b3 t w hB).mono ?_)
  rintro e u' w' ⟨rfl, rfl, h4⟩
  have h5 : Mem w0 [] [.blk b2 25 HT.z.c, .blk b3 29 [.int .i64 12]] [] w' := (Mem.framed (X := []) hm1 h4)
  refine ⟨_, res2 (R := Mem w0 [] [.blk b2 25 HT.z.c, .blk b3 29 [.int .i64 12]] []) hs h5 hr (rv_agg Try.underlying25 rfl Try.ti25 h2 (fun w h => h.atB) rfl) (rv_one Try.underlying29 rfl h3 (fun w h => h.cell_blk (by first | exact List.mem_cons_self .. | exact List.mem_cons_of_mem _ (List.mem_cons_self ..)) rfl)), h w' h5⟩
end

end Go.Proofs.Ytommkigkkeailaa
