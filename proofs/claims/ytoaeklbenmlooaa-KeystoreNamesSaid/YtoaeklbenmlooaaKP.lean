/- Stores made and written. -/
import Derived.Test.YtoaeklbenmlooaaKO
namespace Go.Proofs.Ytoaeklbenmlooaa
set_option linter.unusedSimpArgs false
set_option linter.unusedVariables false
open Go Go.PL Go.RowKit

section
variable {P : Program} {n : Cx} {L : Slots} {Q : Exit → Act → World → Prop} {w0 w : World} {Ln : List Nat} {M : List Ent} {S : List Fact}
/-- A call to which the first part of what is owned is lent. -/
theorem t_callF {k : FuncId} {args : Array Operand} {at_ : Array TypeId} {vs : List Value} {ι : Type} {p : ι → Prop} {V : ι → Value} {N : ι → List Ent} (M1 X : List Ent) (Z : ι → List Ent) (hM : Sub (M1 ++ X) M) (hZ : ∀ x, N x ++ X = Z x) (hb : HasBody P k) (hv : evs L args.toList = some vs)
    (hc : ∀ w, Mem w0 Ln M S w → Mem w (nums M1) M1 [] w → Calls P k vs.toArray w (GivesA w M1 p V N)) :
    TOpP P Q n (Mem w0 Ln M S) L (.call { callee := .value (.func k), args := args, argTypes := at_ }) ι p V (fun x => Mem w0 Ln (Z x) S) := by
  obtain rfl : (fun x => N x ++ X) = Z := funext hZ
  have h : TOp P Q n (Mem w0 Ln M S) L (.call { callee := .value (.func k), args := args, argTypes := at_ }) { x : ι // p x } (fun x => V x.1) (fun x => Mem w0 Ln (N x.1 ++ X) S) :=
    t_callG (cap := #[]) rfl hb hv fun w hm0 => by
      have hm := hm0.sub hM (Sub.refl _)
      simp only [Array.append_empty]
      refine (hc w hm0 (Mem.startL w (fun e he => hm.own e (List.mem_append_left _ he)) (List.pairwise_append.1 hm.apart).1)).mono ?_
      rintro en w' ⟨x, hp, rfl, h2⟩
      exact ⟨⟨x, hp⟩, rfl, ((hm.perm List.perm_append_comm).framedS h2).perm List.perm_append_comm⟩
  exact h.rep fun x w h => ⟨x.1, x.2, rfl, h⟩
/-- A call of a function value that holds its first arguments, which makes one thing. -/
theorem t_callFV {f : Operand} {k : FuncId} {args : Array Operand} {at_ : Array TypeId} {us vs : List Value} {ι : Type} {p : ι → Prop} {V : ι → Value} {E : ι → Ent}
    (hf : ev L f = some (.func (.func k) us.toArray #[])) (hb : HasBody P k) (hv : evs L args.toList = some vs) (hc : ∀ w, Mem w0 Ln M S w → Calls P k (us ++ vs).toArray w (GivesP w p V (fun x => [E x]) fun _ => [])) :
    TOpP P Q n (Mem w0 Ln M S) L (.call { callee := .value f, args := args, argTypes := at_ }) ι p V (fun x => Mem w0 Ln (E x :: M) S) := by
  intro d ty pos af g a w K hs hm hk
  have hargs : args.map a.eval = vs.toArray := by
    have e : (args.map a.eval).toList = vs := by rw [Array.toList_map]; exact evs_eval hs hv
    rw [← e]
  have hrun : (execOp a.eval ⟨d, .call { callee := .value f, args := args, argTypes := at_ }, ty, pos, af, g⟩).run P w = .ok (.enter k (us ++ vs).toArray) w := by
    simp only [execOp, resolve, hs.eval hf, hargs]
    simp [Deferred.ofValue, invoke, run_callFunc hb]
  unfold Oper.wp
  rw [hrun]
  refine (hc w hm).mono ?_
  rintro e w' ⟨x, hp, rfl, hbel, hnew⟩
  exact hk x w' hp (hm.call hbel hnew)
end
theorem St.c_lt {s : St} {dv pv kv : Value} (h : s.ms.length = 32) {k : Nat} (hk : k < 37) : k < (s.c dv pv kv).length := by rw [St.c_length h]; exact hk
def newF (m : List UInt8) (n : Int) : St × Int := if n < 1 ∨ 16 < n then (St.z, 2) else (⟨m, n, true, [], [], []⟩, 0)
def writeF (s : St) (bs : List UInt8) : St × Int := if 1000 < s.dk.length + s.pd.length + 10 then (St.z, 16) else ({ s with pd := s.pd ++ bs }, 0)
theorem dRow_app (v : Value) (xs ys : List UInt8) : dRow v (xs ++ ys) = .row v (xs.length + ys.length) 5 1 (v8s (xs ++ ys)) := by rw [dRow, List.length_append]
theorem zSV : St.z.sv (nl, nl, nl) := ⟨SV.nil, SV.nil, SV.nil⟩
theorem subNil {α : Type} : ∀ M : List α, Sub [] M
  | [] => .nil
  | _ :: t => .drop (subNil t)
theorem zRows {w0 w : World} {Ln : List Nat} {M : List Ent} {S : List Fact} (h : Mem w0 Ln M S w) : Mem w0 Ln [dRow nl St.z.dk, dRow nl St.z.pd, kRow nl St.z.ks] [] w := (((h.sub (subNil _) (subNil _)).nilRow 66 6).nilRow 5 1).nilRow 5 1

set_option maxRecDepth 100000 in
theorem refTwin (s : St) (dv pv kv : Value) (w : World) (hs : StS w.cell? s dv pv kv)  :
    Calls Try.prog 10 [.agg (s.c dv pv kv).toArray].toArray w (GivesP w (fun x : V3 => s.sv x) (fun x => stV s x) (fun x => [dRow x.1 s.dk, dRow x.2.1 s.pd, kRow x.2.2 s.ks]) (fun _ => [])) := by
  have sdv := hs.d.sv
  have spv := hs.p.sv
  have skv := hs.k.sv
  have l1hs := hs.ld
  have l2hs := hs.lp
  have l3hs := hs.lk
  refine enter (m := 30) (R := Mem w [] [] []) Try.func10 rfl rfl (Nat.le_of_ble_eq_true rfl) (Mem.start w) ?_
  refine wpc_seq ?_
  refine wpc_region ?_
  refine wpl_t (t_box rfl (s.c dv pv kv) rfl) rfl (fun b1 => ?_)
  refine wpl_t (t_alloc Try.ti27 _ rfl) rfl (fun b2 => ?_)
  refine wpl_nil ?_
  refine ex_then ?_
  refine wpc_seq ?_
  refine wpc_region ?_
  refine wpl_q (q_field Try.underlying27 rfl Try.ti23 rfl rfl _ rfl) rfl ?_
  refine wpl_q (q_ldP Try.underlying23 rfl Try.ti23 rfl (v8s s.ms) (St.c_m hs.len) (by rw [v8s_length]; exact hs.len)) rfl ?_
  refine wpl_q (q_field Try.underlying27 rfl Try.ti3 rfl rfl _ rfl) rfl ?_
  refine wpl_q (q_ld Try.underlying3 rfl rfl (by first | exact St.c_b hs.len | exact St.c_u hs.len | exact St.c_d hs.len | exact St.c_p hs.len | exact St.c_k hs.len)) rfl ?_
  refine wpl_q (q_field Try.underlying27 rfl Try.ti4 rfl rfl _ rfl) rfl ?_
  refine wpl_q (q_ld Try.underlying4 rfl rfl (by first | exact St.c_b hs.len | exact St.c_u hs.len | exact St.c_d hs.len | exact St.c_p hs.len | exact St.c_k hs.len)) rfl ?_
  refine wpl_q (q_build (cs := ({ s with dk := [], pd := [], ks := [] } : St).c nl nl nl) rfl (built_st3 s.ms s.bt s.up hs.len)) rfl ?_
  refine wpl_t (t_alloc Try.ti27 _ rfl) rfl (fun b3 => ?_)
  refine wpl_t0 (t_stA Try.ti27 rfl rfl (by first | exact St.c_length rfl | exact St.c_length hs.len) (by first | exact St.c_one SV.nil SV.nil SV.nil | exact St.c_one (by first | assumption | exact SV.nil | exact SV.slv (by assumption) (by omega) (by omega) | exact arv_sv (by first | decide | (simp only [maxLen]; omega))) (by first | assumption | exact SV.nil | exact SV.slv (by assumption) (by omega) (by omega) | exact arv_sv (by first | decide | (simp only [maxLen]; omega))) (by first | assumption | exact SV.nil | exact SV.slv (by assumption) (by omega) (by omega) | exact arv_sv (by first | decide | (simp only [maxLen]; omega)))) (by first | exact St.c_length hs.len | exact St.c_length rfl | rfl)) (fun _ => ?_)
  refine wpl_nil ?_
  refine ex_then ?_
  refine wpc_seq ?_
  refine wpc_region ?_
  refine wpl_q (q_field Try.underlying27 rfl Try.ti24 rfl rfl _ rfl) rfl ?_
  refine wpl_q (q_ld Try.underlying24 rfl rfl (by first | exact St.c_b hs.len | exact St.c_u hs.len | exact St.c_d hs.len | exact St.c_p hs.len | exact St.c_k hs.len)) rfl ?_
  refine wpl_q (q_field Try.underlying27 rfl Try.ti24 rfl rfl _ rfl) rfl ?_
  refine wpl_q (q_ld Try.underlying24 rfl rfl (by first | exact St.c_b hs.len | exact St.c_u hs.len | exact St.c_d hs.len | exact St.c_p hs.len | exact St.c_k hs.len)) rfl ?_
  refine wpl_tp (t_apN Try.underlying24 Try.ti5 rfl (by decide) rfl rfl (fun w h => h.seen_old hs.d) (v8s_one _) (by first | omega | (simp only [maxLen]; omega) | (simp only [List.length_append, List.length_cons, List.length_nil, List.length_take, maxLen]; omega) | (simp only [List.length_append, List.length_cons, List.length_nil, List.length_take]; omega)) (by first | omega | (simp only [maxLen]; omega) | (simp only [List.length_append, List.length_cons, List.length_nil, List.length_take, maxLen]; omega) | (simp only [List.length_append, List.length_cons, List.length_nil, List.length_take]; omega))) rfl (fun b15 p15 => ?_)
  refine wpl_q (q_field Try.underlying27 rfl Try.ti24 rfl rfl _ rfl) rfl ?_
  refine wpl_t0 (t_st1 Try.ti24 rfl rfl (SV.one (by first | assumption | exact SV.nil | exact SV.slv (by assumption) (by omega) (by omega) | exact arv_sv (by first | decide | (simp only [maxLen]; omega)))) (St.c_lt hs.len (by decide)) _ (by first | exact St.s_d hs.len _ | exact St.s_p hs.len _ | exact St.s_k hs.len _)) (fun _ => ?_)
  refine wpl_nil ?_
  refine ex_then ?_
  refine wpc_seq ?_
  refine wpc_region ?_
  refine wpl_q (q_field Try.underlying27 rfl Try.ti24 rfl rfl _ rfl) rfl ?_
  refine wpl_q (q_ld Try.underlying24 rfl rfl (by first | exact St.c_b hs.len | exact St.c_u hs.len | exact St.c_d hs.len | exact St.c_p hs.len | exact St.c_k hs.len)) rfl ?_
  refine wpl_q (q_field Try.underlying27 rfl Try.ti24 rfl rfl _ rfl) rfl ?_
  refine wpl_q (q_ld Try.underlying24 rfl rfl (by first | exact St.c_b hs.len | exact St.c_u hs.len | exact St.c_d hs.len | exact St.c_p hs.len | exact St.c_k hs.len)) rfl ?_
  refine wpl_tp (t_apN Try.underlying24 Try.ti5 rfl (by decide) rfl rfl (fun w h => h.seen_old hs.p) (v8s_one _) (by first | omega | (simp only [maxLen]; omega) | (simp only [List.length_append, List.length_cons, List.length_nil, List.length_take, maxLen]; omega) | (simp only [List.length_append, List.length_cons, List.length_nil, List.length_take]; omega)) (by first | omega | (simp only [maxLen]; omega) | (simp only [List.length_append, List.length_cons, List.length_nil, List.length_take, maxLen]; omega) | (simp only [List.length_append, List.length_cons, List.length_nil, List.length_take]; omega))) rfl (fun b21 p21 => ?_)
  refine wpl_q (q_field Try.underlying27 rfl Try.ti24 rfl rfl _ rfl) rfl ?_
  refine wpl_t0 (t_st1 Try.ti24 rfl rfl (SV.one (by first | assumption | exact SV.nil | exact SV.slv (by assumption) (by omega) (by omega) | exact arv_sv (by first | decide | (simp only [maxLen]; omega)))) (St.c_lt hs.len (by decide)) _ (by first | exact St.s_d hs.len _ | exact St.s_p hs.len _ | exact St.s_k hs.len _)) (fun _ => ?_)
  refine wpl_nil ?_
  refine ex_then ?_
  refine wpc_seq ?_
  refine wpc_region ?_
  refine wpl_q (q_field Try.underlying27 rfl Try.ti25 rfl rfl _ rfl) rfl ?_
  refine wpl_q (q_ld Try.underlying25 rfl rfl (by first | exact St.c_b hs.len | exact St.c_u hs.len | exact St.c_d hs.len | exact St.c_p hs.len | exact St.c_k hs.len)) rfl ?_
  refine wpl_q (q_field Try.underlying27 rfl Try.ti25 rfl rfl _ rfl) rfl ?_
  refine wpl_q (q_ld Try.underlying25 rfl rfl (by first | exact St.c_b hs.len | exact St.c_u hs.len | exact St.c_d hs.len | exact St.c_p hs.len | exact St.c_k hs.len)) rfl ?_
  refine wpl_tp (t_apN Try.underlying25 Try.ti66 rfl (by decide) rfl rfl (fun w h => h.seen_old hs.k) (kcs_one _) (by first | omega | (simp only [maxLen]; omega) | (simp only [List.length_append, List.length_cons, List.length_nil, List.length_take, maxLen]; omega) | (simp only [List.length_append, List.length_cons, List.length_nil, List.length_take]; omega)) (by first | omega | (simp only [maxLen]; omega) | (simp only [List.length_append, List.length_cons, List.length_nil, List.length_take, maxLen]; omega) | (simp only [List.length_append, List.length_cons, List.length_nil, List.length_take]; omega))) rfl (fun b27 p27 => ?_)
  refine wpl_q (q_field Try.underlying27 rfl Try.ti25 rfl rfl _ rfl) rfl ?_
  refine wpl_t0 (t_st1 Try.ti25 rfl rfl (SV.one (by first | assumption | exact SV.nil | exact SV.slv (by assumption) (by omega) (by omega) | exact arv_sv (by first | decide | (simp only [maxLen]; omega)))) (St.c_lt hs.len (by decide)) _ (by first | exact St.s_d hs.len _ | exact St.s_p hs.len _ | exact St.s_k hs.len _)) (fun _ => ?_)
  refine wpl_nil ?_
  refine ex_then ?_
  refine wpc_seq ?_
  refine wpc_region ?_
  refine wpl_q (q_ldN Try.underlying27 rfl Try.ti27 rfl (St.c_length hs.len)) rfl ?_
  refine wpl_t0 (t_stA Try.ti27 rfl rfl (by first | exact St.c_length rfl | exact St.c_length hs.len) (by first | exact St.c_one SV.nil SV.nil SV.nil | exact St.c_one (by first | assumption | exact SV.nil | exact SV.slv (by assumption) (by omega) (by omega) | exact arv_sv (by first | decide | (simp only [maxLen]; omega))) (by first | assumption | exact SV.nil | exact SV.slv (by assumption) (by omega) (by omega) | exact arv_sv (by first | decide | (simp only [maxLen]; omega))) (by first | assumption | exact SV.nil | exact SV.slv (by assumption) (by omega) (by omega) | exact arv_sv (by first | decide | (simp only [maxLen]; omega)))) (by first | exact St.c_length hs.len | exact St.c_length rfl | rfl)) (fun _ => ?_)
  refine wpl_nil ?_
  refine ex_then ?_
  refine wpc_ret ?_
  refine retv1 (.inl rfl) rfl (rv_agg Try.underlying27 rfl Try.ti27 rfl (fun w h => h.atB) (St.c_length hs.len)) ?_
  exact fun w h => ⟨(b15, b21, b27), ⟨p15, p21, p27⟩, rfl, h.below, (rev3 h).made SubC.h .nil⟩

set_option maxRecDepth 100000 in
theorem new_ (m : List UInt8) (n : Int) (w : World) (hm : m.length = 32)  :
    Calls Try.prog 27 [.agg (v8s m).toArray, .int .i64 n].toArray w (Pur w (.tuple #[.agg ((newF m n).1.c nl nl nl).toArray, .int .i64 (newF m n).2])) := by
  refine enter (m := 16) (R := Mem w [] [] []) Try.func27 rfl rfl (Nat.le_of_ble_eq_true rfl) (Mem.start w) ?_
  refine wpc_seq ?_
  refine wpc_region ?_
  refine wpl_t (t_box rfl (v8s m) rfl) rfl (fun b2 => ?_)
  refine wpl_t (t_alloc Try.ti27 _ rfl) rfl (fun b4 => ?_)
  refine wpl_q (q_pure rfl) rfl ?_
  refine wpl_nil ?_
  refine ex_then ?_
  refine wpc_seq ?_
  refine wpc_seq ?_
  refine wpc_region ?_
  refine wpl_q (q_pure rfl) rfl ?_
  refine wpl_q (q_pure rfl) rfl ?_
  refine wpl_q (q_pure rfl) rfl ?_
  refine wpl_bool2 8 7 rfl rfl (fun hb8 => ?_) (fun hb8 => ?_)
  ·
   try simp only [decide_eq_true_eq] at hb8
   refine wpl_off rfl rfl rfl rfl ?_
   refine wpl_off rfl rfl rfl rfl ?_
   refine wpl_q (q_pure rfl) rfl ?_
   refine wpl_nil ?_
   refine ex_then ?_
   refine wpc_cond_t rfl ?_
   refine wpc_seq ?_
   refine wpc_region ?_
   refine wpl_q (q_build (cs := St.z.c nl nl nl) rfl built_st0) rfl ?_
   refine wpl_t0 (t_stA Try.ti27 rfl rfl (by first | exact St.c_length rfl | exact St.c_length hs.len) (by first | exact St.c_one SV.nil SV.nil SV.nil | exact St.c_one (by first | assumption | exact SV.nil | exact SV.slv (by assumption) (by omega) (by omega) | exact arv_sv (by first | decide | (simp only [maxLen]; omega))) (by first | assumption | exact SV.nil | exact SV.slv (by assumption) (by omega) (by omega) | exact arv_sv (by first | decide | (simp only [maxLen]; omega))) (by first | assumption | exact SV.nil | exact SV.slv (by assumption) (by omega) (by omega) | exact arv_sv (by first | decide | (simp only [maxLen]; omega)))) (by first | exact St.c_length hs.len | exact St.c_length rfl | rfl)) (fun _ => ?_)
   refine wpl_q (q_pure rfl) rfl ?_
   refine wpl_nil ?_
   refine ex_then ?_
   refine wpc_ret ?_
   refine ex_then_ret ?_
   refine retv2 (.inl rfl) rfl (rv_agg Try.underlying27 rfl Try.ti27 rfl (fun w h => h.atB) (St.c_length (by first | rfl | exact hm))) (rv_tmp rfl) ?_
   exact fun w h => ⟨by rw [newF, if_pos (.inl hb8)], h.below⟩
  ·
   try simp only [decide_eq_false_iff_not] at hb8
   refine wpl_on rfl rfl ?_
   refine wpl_q (q_pure rfl) rfl ?_
   refine wpl_on rfl rfl ?_
   refine wpl_q (q_pure rfl) rfl ?_
   refine wpl_q (q_pure rfl) rfl ?_
   refine wpl_nil ?_
   refine ex_then ?_
   refine wpc_cond rfl (fun hc11 => ?_) (fun hc11 => ?_)
   ·
    simp only [decide_eq_true_eq] at hc11
    refine wpc_seq ?_
    refine wpc_region ?_
    refine wpl_q (q_build (cs := St.z.c nl nl nl) rfl built_st0) rfl ?_
    refine wpl_t0 (t_stA Try.ti27 rfl rfl (by first | exact St.c_length rfl | exact St.c_length hs.len) (by first | exact St.c_one SV.nil SV.nil SV.nil | exact St.c_one (by first | assumption | exact SV.nil | exact SV.slv (by assumption) (by omega) (by omega) | exact arv_sv (by first | decide | (simp only [maxLen]; omega))) (by first | assumption | exact SV.nil | exact SV.slv (by assumption) (by omega) (by omega) | exact arv_sv (by first | decide | (simp only [maxLen]; omega))) (by first | assumption | exact SV.nil | exact SV.slv (by assumption) (by omega) (by omega) | exact arv_sv (by first | decide | (simp only [maxLen]; omega)))) (by first | exact St.c_length hs.len | exact St.c_length rfl | rfl)) (fun _ => ?_)
    refine wpl_q (q_pure rfl) rfl ?_
    refine wpl_nil ?_
    refine ex_then ?_
    refine wpc_ret ?_
    refine ex_then_ret ?_
    refine retv2 (.inl rfl) rfl (rv_agg Try.underlying27 rfl Try.ti27 rfl (fun w h => h.atB) (St.c_length (by first | rfl | exact hm))) (rv_tmp rfl) ?_
    exact fun w h => ⟨by rw [newF, if_pos (.inr hc11)], h.below⟩
   ·
    simp only [decide_eq_false_iff_not] at hc11
    refine wpc_skip ?_
    refine ex_then ?_
    refine wpc_seq ?_
    refine wpc_region ?_
    refine wpl_q (q_ldN Try.underlying23 rfl Try.ti23 rfl (by first | with_reducible rfl | (simp only [v8s_length, v32s_length, vis_length, vns_length, v64s_length, List.length_replicate]; first | done | with_reducible assumption | omega) | (rw [v8s_length]; (first | with_reducible assumption | with_reducible exact shortF_length _ | with_reducible exact stepF_length _ _ _ | with_reducible exact sumF_length _ | with_reducible exact climbF_length _ (by first | with_reducible assumption | with_reducible exact shortF_length _ | with_reducible exact beginF_length _ _ | with_reducible exact getD_mem_len (by assumption) (by omega)) _ _ _ | with_reducible exact beginF_length _ _ | with_reducible exact chainF_length _ _ _ | with_reducible exact recF_length _ _ | with_reducible exact publicF_length _ | with_reducible exact getD_mem_len (by assumption) (by omega) | (with_reducible exact List.length_replicate))) | rfl)) rfl ?_
    refine wpl_q (q_pure rfl) rfl ?_
    refine wpl_q (q_build (cs := (⟨m, n, true, [], [], []⟩ : St).c nl nl nl) rfl (built_st3 m n true hm)) rfl ?_
    refine wpl_t0 (t_stA Try.ti27 rfl rfl (St.c_length hm) (by first | exact St.c_one SV.nil SV.nil SV.nil | exact St.c_one (by first | assumption | exact SV.nil | exact SV.slv (by assumption) (by omega) (by omega) | exact arv_sv (by first | decide | (simp only [maxLen]; omega))) (by first | assumption | exact SV.nil | exact SV.slv (by assumption) (by omega) (by omega) | exact arv_sv (by first | decide | (simp only [maxLen]; omega))) (by first | assumption | exact SV.nil | exact SV.slv (by assumption) (by omega) (by omega) | exact arv_sv (by first | decide | (simp only [maxLen]; omega)))) rfl) (fun _ => ?_)
    refine wpl_q (q_pure rfl) rfl ?_
    refine wpl_nil ?_
    refine ex_then ?_
    refine wpc_ret ?_
    refine retv2 (.inl rfl) rfl (rv_agg Try.underlying27 rfl Try.ti27 rfl (fun w h => h.atB) (St.c_length (by first | rfl | exact hm))) (rv_tmp rfl) ?_
    exact fun w h => ⟨by rw [newF, if_neg (by omega)], h.below⟩

set_option maxRecDepth 100000 in
theorem refNew (m : List UInt8) (n : Int) (w : World) (hm : m.length = 32)  :
    Calls Try.prog 28 [.agg (v8s m).toArray, .int .i64 n].toArray w (Pur w (.tuple #[.agg ((newF m n).1.c nl nl nl).toArray, .int .i64 (newF m n).2])) := by
  refine enter (m := 16) (R := Mem w [] [] []) Try.func28 rfl rfl (Nat.le_of_ble_eq_true rfl) (Mem.start w) ?_
  refine wpc_seq ?_
  refine wpc_region ?_
  refine wpl_t (t_box rfl (v8s m) rfl) rfl (fun b2 => ?_)
  refine wpl_t (t_alloc Try.ti27 _ rfl) rfl (fun b4 => ?_)
  refine wpl_q (q_pure rfl) rfl ?_
  refine wpl_nil ?_
  refine ex_then ?_
  refine wpc_seq ?_
  refine wpc_seq ?_
  refine wpc_region ?_
  refine wpl_q (q_pure rfl) rfl ?_
  refine wpl_q (q_pure rfl) rfl ?_
  refine wpl_q (q_pure rfl) rfl ?_
  refine wpl_bool2 8 7 rfl rfl (fun hb8 => ?_) (fun hb8 => ?_)
  ·
   try simp only [decide_eq_true_eq] at hb8
   refine wpl_off rfl rfl rfl rfl ?_
   refine wpl_off rfl rfl rfl rfl ?_
   refine wpl_q (q_pure rfl) rfl ?_
   refine wpl_nil ?_
   refine ex_then ?_
   refine wpc_cond_t rfl ?_
   refine wpc_seq ?_
   refine wpc_region ?_
   refine wpl_q (q_build (cs := St.z.c nl nl nl) rfl built_st0) rfl ?_
   refine wpl_t0 (t_stA Try.ti27 rfl rfl (by first | exact St.c_length rfl | exact St.c_length hs.len) (by first | exact St.c_one SV.nil SV.nil SV.nil | exact St.c_one (by first | assumption | exact SV.nil | exact SV.slv (by assumption) (by omega) (by omega) | exact arv_sv (by first | decide | (simp only [maxLen]; omega))) (by first | assumption | exact SV.nil | exact SV.slv (by assumption) (by omega) (by omega) | exact arv_sv (by first | decide | (simp only [maxLen]; omega))) (by first | assumption | exact SV.nil | exact SV.slv (by assumption) (by omega) (by omega) | exact arv_sv (by first | decide | (simp only [maxLen]; omega)))) (by first | exact St.c_length hs.len | exact St.c_length rfl | rfl)) (fun _ => ?_)
   refine wpl_q (q_pure rfl) rfl ?_
   refine wpl_nil ?_
   refine ex_then ?_
   refine wpc_ret ?_
   refine ex_then_ret ?_
   refine retv2 (.inl rfl) rfl (rv_agg Try.underlying27 rfl Try.ti27 rfl (fun w h => h.atB) (St.c_length (by first | rfl | exact hm))) (rv_tmp rfl) ?_
   exact fun w h => ⟨by rw [newF, if_pos (.inl hb8)], h.below⟩
  ·
   try simp only [decide_eq_false_iff_not] at hb8
   refine wpl_on rfl rfl ?_
   refine wpl_q (q_pure rfl) rfl ?_
   refine wpl_on rfl rfl ?_
   refine wpl_q (q_pure rfl) rfl ?_
   refine wpl_q (q_pure rfl) rfl ?_
   refine wpl_nil ?_
   refine ex_then ?_
   refine wpc_cond rfl (fun hc11 => ?_) (fun hc11 => ?_)
   ·
    simp only [decide_eq_true_eq] at hc11
    refine wpc_seq ?_
    refine wpc_region ?_
    refine wpl_q (q_build (cs := St.z.c nl nl nl) rfl built_st0) rfl ?_
    refine wpl_t0 (t_stA Try.ti27 rfl rfl (by first | exact St.c_length rfl | exact St.c_length hs.len) (by first | exact St.c_one SV.nil SV.nil SV.nil | exact St.c_one (by first | assumption | exact SV.nil | exact SV.slv (by assumption) (by omega) (by omega) | exact arv_sv (by first | decide | (simp only [maxLen]; omega))) (by first | assumption | exact SV.nil | exact SV.slv (by assumption) (by omega) (by omega) | exact arv_sv (by first | decide | (simp only [maxLen]; omega))) (by first | assumption | exact SV.nil | exact SV.slv (by assumption) (by omega) (by omega) | exact arv_sv (by first | decide | (simp only [maxLen]; omega)))) (by first | exact St.c_length hs.len | exact St.c_length rfl | rfl)) (fun _ => ?_)
    refine wpl_q (q_pure rfl) rfl ?_
    refine wpl_nil ?_
    refine ex_then ?_
    refine wpc_ret ?_
    refine ex_then_ret ?_
    refine retv2 (.inl rfl) rfl (rv_agg Try.underlying27 rfl Try.ti27 rfl (fun w h => h.atB) (St.c_length (by first | rfl | exact hm))) (rv_tmp rfl) ?_
    exact fun w h => ⟨by rw [newF, if_pos (.inr hc11)], h.below⟩
   ·
    simp only [decide_eq_false_iff_not] at hc11
    refine wpc_skip ?_
    refine ex_then ?_
    refine wpc_seq ?_
    refine wpc_region ?_
    refine wpl_q (q_ldN Try.underlying23 rfl Try.ti23 rfl (by first | with_reducible rfl | (simp only [v8s_length, v32s_length, vis_length, vns_length, v64s_length, List.length_replicate]; first | done | with_reducible assumption | omega) | (rw [v8s_length]; (first | with_reducible assumption | with_reducible exact shortF_length _ | with_reducible exact stepF_length _ _ _ | with_reducible exact sumF_length _ | with_reducible exact climbF_length _ (by first | with_reducible assumption | with_reducible exact shortF_length _ | with_reducible exact beginF_length _ _ | with_reducible exact getD_mem_len (by assumption) (by omega)) _ _ _ | with_reducible exact beginF_length _ _ | with_reducible exact chainF_length _ _ _ | with_reducible exact recF_length _ _ | with_reducible exact publicF_length _ | with_reducible exact getD_mem_len (by assumption) (by omega) | (with_reducible exact List.length_replicate))) | rfl)) rfl ?_
    refine wpl_q (q_pure rfl) rfl ?_
    refine wpl_q (q_build (cs := (⟨m, n, true, [], [], []⟩ : St).c nl nl nl) rfl (built_st3 m n true hm)) rfl ?_
    refine wpl_t0 (t_stA Try.ti27 rfl rfl (St.c_length hm) (by first | exact St.c_one SV.nil SV.nil SV.nil | exact St.c_one (by first | assumption | exact SV.nil | exact SV.slv (by assumption) (by omega) (by omega) | exact arv_sv (by first | decide | (simp only [maxLen]; omega))) (by first | assumption | exact SV.nil | exact SV.slv (by assumption) (by omega) (by omega) | exact arv_sv (by first | decide | (simp only [maxLen]; omega))) (by first | assumption | exact SV.nil | exact SV.slv (by assumption) (by omega) (by omega) | exact arv_sv (by first | decide | (simp only [maxLen]; omega)))) rfl) (fun _ => ?_)
    refine wpl_q (q_pure rfl) rfl ?_
    refine wpl_nil ?_
    refine ex_then ?_
    refine wpc_ret ?_
    refine retv2 (.inl rfl) rfl (rv_agg Try.underlying27 rfl Try.ti27 rfl (fun w h => h.atB) (St.c_length (by first | rfl | exact hm))) (rv_tmp rfl) ?_
    exact fun w h => ⟨by rw [newF, if_neg (by omega)], h.below⟩

set_option maxRecDepth 100000 in
theorem write_ (s : St) (dv pv kv : Value) (r : Rec) (w : World) (hb : Mem w (nums [dRow dv s.dk, dRow pv s.pd, kRow kv s.ks]) [dRow dv s.dk, dRow pv s.pd, kRow kv s.ks] [] w) (hlen : s.ms.length = 32) (hsv : s.sv (dv, pv, kv)) (hld : s.dk.length ≤ 1200) (hlp : s.pd.length ≤ 1200)  :
    Calls Try.prog 50 [.agg (s.c dv pv kv).toArray, .func (.func 51) #[.agg r.c.toArray] #[]].toArray w (GivesA w [dRow dv s.dk, dRow pv s.pd, kRow kv s.ks] (fun x : V3 => (writeF s (recB r)).1.sv x) (fun x => .tuple #[stV (writeF s (recB r)).1 x, .int .i64 (writeF s (recB r)).2]) (fun x => [dRow x.1 (writeF s (recB r)).1.dk, dRow x.2.1 (writeF s (recB r)).1.pd, kRow x.2.2 (writeF s (recB r)).1.ks])) := by
  have sdv : SV dv s.dk.length := hsv.1
  have spv : SV pv s.pd.length := hsv.2.1
  have skv : SV kv s.ks.length := hsv.2.2
  refine enter (m := 23) (R := Mem w (nums [dRow dv s.dk, dRow pv s.pd, kRow kv s.ks]) [dRow dv s.dk, dRow pv s.pd, kRow kv s.ks] []) Try.func50 rfl rfl (Nat.le_of_ble_eq_true rfl) hb ?_
  refine wpc_seq ?_
  refine wpc_region ?_
  refine wpl_t (t_box rfl (s.c dv pv kv) rfl) rfl (fun b2 => ?_)
  refine wpl_t (t_alloc Try.ti27 _ rfl) rfl (fun b4 => ?_)
  refine wpl_q (q_pure rfl) rfl ?_
  refine wpl_nil ?_
  refine ex_then ?_
  refine wpc_seq ?_
  refine wpc_seq ?_
  refine wpc_region ?_
  refine wpl_q (q_field Try.underlying27 rfl Try.ti24 rfl rfl _ rfl) rfl ?_
  refine wpl_q (q_ld Try.underlying24 rfl rfl (by first | exact St.c_b hlen | exact St.c_u hlen | exact St.c_d hlen | exact St.c_p hlen | exact St.c_k hlen)) rfl ?_
  refine wpl_q (q_lenW Try.underlying24 rfl (by first | assumption | exact SV.nil | exact SV.slv (by assumption) (by omega) (by omega) | exact arv_sv (by first | decide | (simp only [maxLen]; omega)))) rfl ?_
  refine wpl_q (q_field Try.underlying27 rfl Try.ti24 rfl rfl _ rfl) rfl ?_
  refine wpl_q (q_ld Try.underlying24 rfl rfl (by first | exact St.c_b hlen | exact St.c_u hlen | exact St.c_d hlen | exact St.c_p hlen | exact St.c_k hlen)) rfl ?_
  refine wpl_q (q_lenW Try.underlying24 rfl (by first | assumption | exact SV.nil | exact SV.slv (by assumption) (by omega) (by omega) | exact arv_sv (by first | decide | (simp only [maxLen]; omega)))) rfl ?_
  refine wpl_q (q_addN rfl rfl (by first | omega | (simp only [maxLen]; omega) | (simp only [List.length_append, List.length_cons, List.length_nil, List.length_take, maxLen]; omega) | (simp only [List.length_append, List.length_cons, List.length_nil, List.length_take]; omega))) rfl ?_
  refine wpl_q (q_addN (b := 10) rfl rfl (by first | omega | (simp only [maxLen]; omega) | (simp only [List.length_append, List.length_cons, List.length_nil, List.length_take, maxLen]; omega) | (simp only [List.length_append, List.length_cons, List.length_nil, List.length_take]; omega))) rfl ?_
  refine wpl_q (q_pure rfl) rfl ?_
  refine wpl_nil ?_
  refine ex_then ?_
  refine wpc_cond rfl (fun hc14 => ?_) (fun hc14 => ?_)
  ·
   simp only [decide_eq_true_eq] at hc14
   refine wpc_seq ?_
   refine wpc_region ?_
   refine wpl_q (q_build (cs := St.z.c nl nl nl) rfl built_st0) rfl ?_
   refine wpl_t0 (t_stA Try.ti27 rfl rfl (St.c_length (by first | exact hlen | rfl)) (by first | exact St.c_one SV.nil SV.nil SV.nil | exact St.c_one (by first | assumption | exact SV.nil | exact SV.slv (by assumption) (by omega) (by omega) | exact arv_sv (by first | decide | (simp only [maxLen]; omega))) (by first | assumption | exact SV.nil | exact SV.slv (by assumption) (by omega) (by omega) | exact arv_sv (by first | decide | (simp only [maxLen]; omega))) (by first | assumption | exact SV.nil | exact SV.slv (by assumption) (by omega) (by omega) | exact arv_sv (by first | decide | (simp only [maxLen]; omega)))) rfl) (fun _ => ?_)
   refine wpl_q (q_pure rfl) rfl ?_
   refine wpl_nil ?_
   refine ex_then ?_
   refine wpc_ret ?_
   refine ex_then_ret ?_
   refine retv2 (.inl rfl) rfl (rv_agg Try.underlying27 rfl Try.ti27 rfl (fun w h => h.atB) (St.c_length (by first | exact hlen | rfl))) (rv_tmp rfl) ?_
   exact fun w h => ⟨(nl, nl, nl), by rw [writeF, if_pos (by omega)]; exact zSV, by rw [writeF, if_pos (by omega)], by rw [writeF, if_pos (by omega)]; exact zRows h⟩
  ·
   simp only [decide_eq_false_iff_not] at hc14
   refine wpc_skip ?_
   refine ex_then ?_
   refine wpc_seq ?_
   refine wpc_draw 4 (by kernel_rfl) (fun _ h => h.drew) ?_
   refine wpd_p 0 rfl (by kernel_rfl) trivial (q_field Try.underlying27 rfl Try.ti24 rfl rfl _ rfl) rfl sk0 ?_
   refine wpd_q 1 rfl (by kernel_rfl) trivial (q_ld Try.underlying24 rfl rfl (by first | exact St.c_b hlen | exact St.c_u hlen | exact St.c_d hlen | exact St.c_p hlen | exact St.c_k hlen)) rfl (fun _ h => h) ?_
   refine wpd_p 2 rfl (by kernel_rfl) trivial (q_pure rfl) rfl sk0 ?_
   refine wpd_tp 3 rfl (by kernel_rfl) trivial (t_callFV rfl Try.hb51 rfl fun w h => recBytes r w) rfl (fun _ => (fun w h => .inr (h.sub SubC.h SubC.h))) (fun b19 p19 => ?_)
   refine wpd_tp 4 rfl (by kernel_rfl) trivial (t_apW Try.underlying24 Try.ti5 rfl (by decide) rfl rfl (fun w h => h.seenV) (v8s_one _) (by first | omega | (simp only [maxLen]; omega) | (simp only [List.length_append, List.length_cons, List.length_nil, List.length_take, maxLen]; omega) | (simp only [List.length_append, List.length_cons, List.length_nil, List.length_take]; omega)) (by first | omega | (simp only [maxLen]; omega) | (simp only [List.length_append, List.length_cons, List.length_nil, List.length_take, maxLen]; omega) | (simp only [List.length_append, List.length_cons, List.length_nil, List.length_take]; omega)) (v8s (s.pd ++ recB r)) (by rw [v8s_append])) rfl (fun _ => skk rfl) (fun b20 p20 => ?_)
   refine wpd_p 5 rfl (by kernel_rfl) trivial (q_field Try.underlying27 rfl Try.ti24 rfl rfl _ rfl) rfl (skk rfl) ?_
   refine wpd_t0 6 rfl (by kernel_rfl) trivial (t_st1 Try.ti24 rfl rfl (SV.one (by first | assumption | exact SV.nil | exact SV.slv (by assumption) (by omega) (by omega) | exact arv_sv (by first | decide | (simp only [maxLen]; omega)))) (St.c_lt hlen (by decide)) _ (by first | exact St.s_d hlen _ | exact St.s_p hlen _ | exact St.s_k hlen _)) (fun _ => skk rfl) (fun _ => ?_)
   refine wpd_done (by kernel_rfl) ?_
   refine ex_then ?_
   refine wpc_seq ?_
   refine wpc_region ?_
   refine wpl_q (q_ldN Try.underlying27 rfl Try.ti27 rfl (St.c_length hlen)) rfl ?_
   refine wpl_t0 (t_stA Try.ti27 rfl rfl (St.c_length (by first | exact hlen | rfl)) (by first | exact St.c_one SV.nil SV.nil SV.nil | exact St.c_one (by first | assumption | exact SV.nil | exact SV.slv (by assumption) (by omega) (by omega) | exact arv_sv (by first | decide | (simp only [maxLen]; omega))) (by first | assumption | exact SV.nil | exact SV.slv (by assumption) (by omega) (by omega) | exact arv_sv (by first | decide | (simp only [maxLen]; omega))) (by first | assumption | exact SV.nil | exact SV.slv (by assumption) (by omega) (by omega) | exact arv_sv (by first | decide | (simp only [maxLen]; omega)))) rfl) (fun _ => ?_)
   refine wpl_q (q_pure rfl) rfl ?_
   refine wpl_nil ?_
   refine ex_then ?_
   refine wpc_ret ?_
   refine retv2 (.inl rfl) rfl (rv_agg Try.underlying27 rfl Try.ti27 rfl (fun w h => h.atB) (St.c_length (by first | exact hlen | rfl))) (rv_tmp rfl) ?_
   exact fun w h => ⟨(dv, b20, kv), by rw [writeF, if_neg (by omega)]; exact ⟨sdv, by rw [List.length_append]; exact p20, skv⟩, by rw [writeF, if_neg (by omega)]; rfl, by rw [writeF, if_neg (by omega)]; dsimp only; rw [dRow_app, recB_length]; exact h.sub SubC.h .nil⟩

set_option maxRecDepth 100000 in
theorem refWrite (bv : Value) (bs : List UInt8) (s : St) (dv pv kv : Value) (w : World) (hb : Mem w (nums [dRow bv bs, dRow dv s.dk, dRow pv s.pd, kRow kv s.ks]) [dRow bv bs, dRow dv s.dk, dRow pv s.pd, kRow kv s.ks] [] w) (hlen : s.ms.length = 32) (hsv : s.sv (dv, pv, kv)) (hld : s.dk.length ≤ 1200) (hlp : s.pd.length ≤ 1200) (hsb : SV bv bs.length) (hlb : bs.length ≤ 20)  :
    Calls Try.prog 53 [.agg (s.c dv pv kv).toArray, bv].toArray w (GivesA w [dRow bv bs, dRow dv s.dk, dRow pv s.pd, kRow kv s.ks] (fun x : V3 => (writeF s bs).1.sv x) (fun x => .tuple #[stV (writeF s bs).1 x, .int .i64 (writeF s bs).2]) (fun x => [dRow x.1 (writeF s bs).1.dk, dRow x.2.1 (writeF s bs).1.pd, kRow x.2.2 (writeF s bs).1.ks])) := by
  have sdv : SV dv s.dk.length := hsv.1
  have spv : SV pv s.pd.length := hsv.2.1
  have skv : SV kv s.ks.length := hsv.2.2
  refine enter (m := 22) (R := Mem w (nums [dRow bv bs, dRow dv s.dk, dRow pv s.pd, kRow kv s.ks]) [dRow bv bs, dRow dv s.dk, dRow pv s.pd, kRow kv s.ks] []) Try.func53 rfl rfl (Nat.le_of_ble_eq_true rfl) hb ?_
  refine wpc_seq ?_
  refine wpc_region ?_
  refine wpl_t (t_box rfl (s.c dv pv kv) rfl) rfl (fun b2 => ?_)
  refine wpl_t (t_alloc Try.ti27 _ rfl) rfl (fun b4 => ?_)
  refine wpl_q (q_pure rfl) rfl ?_
  refine wpl_nil ?_
  refine ex_then ?_
  refine wpc_seq ?_
  refine wpc_seq ?_
  refine wpc_region ?_
  refine wpl_q (q_field Try.underlying27 rfl Try.ti24 rfl rfl _ rfl) rfl ?_
  refine wpl_q (q_ld Try.underlying24 rfl rfl (by first | exact St.c_b hlen | exact St.c_u hlen | exact St.c_d hlen | exact St.c_p hlen | exact St.c_k hlen)) rfl ?_
  refine wpl_q (q_lenW Try.underlying24 rfl (by first | assumption | exact SV.nil | exact SV.slv (by assumption) (by omega) (by omega) | exact arv_sv (by first | decide | (simp only [maxLen]; omega)))) rfl ?_
  refine wpl_q (q_field Try.underlying27 rfl Try.ti24 rfl rfl _ rfl) rfl ?_
  refine wpl_q (q_ld Try.underlying24 rfl rfl (by first | exact St.c_b hlen | exact St.c_u hlen | exact St.c_d hlen | exact St.c_p hlen | exact St.c_k hlen)) rfl ?_
  refine wpl_q (q_lenW Try.underlying24 rfl (by first | assumption | exact SV.nil | exact SV.slv (by assumption) (by omega) (by omega) | exact arv_sv (by first | decide | (simp only [maxLen]; omega)))) rfl ?_
  refine wpl_q (q_addN rfl rfl (by first | omega | (simp only [maxLen]; omega) | (simp only [List.length_append, List.length_cons, List.length_nil, List.length_take, maxLen]; omega) | (simp only [List.length_append, List.length_cons, List.length_nil, List.length_take]; omega))) rfl ?_
  refine wpl_q (q_addN (b := 10) rfl rfl (by first | omega | (simp only [maxLen]; omega) | (simp only [List.length_append, List.length_cons, List.length_nil, List.length_take, maxLen]; omega) | (simp only [List.length_append, List.length_cons, List.length_nil, List.length_take]; omega))) rfl ?_
  refine wpl_q (q_pure rfl) rfl ?_
  refine wpl_nil ?_
  refine ex_then ?_
  refine wpc_cond rfl (fun hc14 => ?_) (fun hc14 => ?_)
  ·
   simp only [decide_eq_true_eq] at hc14
   refine wpc_seq ?_
   refine wpc_region ?_
   refine wpl_q (q_build (cs := St.z.c nl nl nl) rfl built_st0) rfl ?_
   refine wpl_t0 (t_stA Try.ti27 rfl rfl (St.c_length (by first | exact hlen | rfl)) (by first | exact St.c_one SV.nil SV.nil SV.nil | exact St.c_one (by first | assumption | exact SV.nil | exact SV.slv (by assumption) (by omega) (by omega) | exact arv_sv (by first | decide | (simp only [maxLen]; omega))) (by first | assumption | exact SV.nil | exact SV.slv (by assumption) (by omega) (by omega) | exact arv_sv (by first | decide | (simp only [maxLen]; omega))) (by first | assumption | exact SV.nil | exact SV.slv (by assumption) (by omega) (by omega) | exact arv_sv (by first | decide | (simp only [maxLen]; omega)))) rfl) (fun _ => ?_)
   refine wpl_q (q_pure rfl) rfl ?_
   refine wpl_nil ?_
   refine ex_then ?_
   refine wpc_ret ?_
   refine ex_then_ret ?_
   refine retv2 (.inl rfl) rfl (rv_agg Try.underlying27 rfl Try.ti27 rfl (fun w h => h.atB) (St.c_length (by first | exact hlen | rfl))) (rv_tmp rfl) ?_
   exact fun w h => ⟨(nl, nl, nl), by rw [writeF, if_pos (by omega)]; exact zSV, by rw [writeF, if_pos (by omega)], by rw [writeF, if_pos (by omega)]; exact zRows h⟩
  ·
   simp only [decide_eq_false_iff_not] at hc14
   refine wpc_skip ?_
   refine ex_then ?_
   refine wpc_seq ?_
   refine wpc_region ?_
   refine wpl_q (q_field Try.underlying27 rfl Try.ti24 rfl rfl _ rfl) rfl ?_
   refine wpl_q (q_ld Try.underlying24 rfl rfl (by first | exact St.c_b hlen | exact St.c_u hlen | exact St.c_d hlen | exact St.c_p hlen | exact St.c_k hlen)) rfl ?_
   refine wpl_q (q_pure rfl) rfl ?_
   refine wpl_tp (t_apW Try.underlying24 Try.ti5 rfl (by decide) rfl rfl (fun w h => h.seenV) (v8s_one _) (by first | omega | (simp only [maxLen]; omega) | (simp only [List.length_append, List.length_cons, List.length_nil, List.length_take, maxLen]; omega) | (simp only [List.length_append, List.length_cons, List.length_nil, List.length_take]; omega)) (by first | omega | (simp only [maxLen]; omega) | (simp only [List.length_append, List.length_cons, List.length_nil, List.length_take, maxLen]; omega) | (simp only [List.length_append, List.length_cons, List.length_nil, List.length_take]; omega)) (v8s (s.pd ++ bs)) (by rw [v8s_append])) rfl (fun b19 p19 => ?_)
   refine wpl_q (q_field Try.underlying27 rfl Try.ti24 rfl rfl _ rfl) rfl ?_
   refine wpl_t0 (t_st1 Try.ti24 rfl rfl (SV.one (by first | assumption | exact SV.nil | exact SV.slv (by assumption) (by omega) (by omega) | exact arv_sv (by first | decide | (simp only [maxLen]; omega)))) (St.c_lt hlen (by decide)) _ (by first | exact St.s_d hlen _ | exact St.s_p hlen _ | exact St.s_k hlen _)) (fun _ => ?_)
   refine wpl_nil ?_
   refine ex_then ?_
   refine wpc_seq ?_
   refine wpc_region ?_
   refine wpl_q (q_ldN Try.underlying27 rfl Try.ti27 rfl (St.c_length hlen)) rfl ?_
   refine wpl_t0 (t_stA Try.ti27 rfl rfl (St.c_length (by first | exact hlen | rfl)) (by first | exact St.c_one SV.nil SV.nil SV.nil | exact St.c_one (by first | assumption | exact SV.nil | exact SV.slv (by assumption) (by omega) (by omega) | exact arv_sv (by first | decide | (simp only [maxLen]; omega))) (by first | assumption | exact SV.nil | exact SV.slv (by assumption) (by omega) (by omega) | exact arv_sv (by first | decide | (simp only [maxLen]; omega))) (by first | assumption | exact SV.nil | exact SV.slv (by assumption) (by omega) (by omega) | exact arv_sv (by first | decide | (simp only [maxLen]; omega)))) rfl) (fun _ => ?_)
   refine wpl_q (q_pure rfl) rfl ?_
   refine wpl_nil ?_
   refine ex_then ?_
   refine wpc_ret ?_
   refine retv2 (.inl rfl) rfl (rv_agg Try.underlying27 rfl Try.ti27 rfl (fun w h => h.atB) (St.c_length (by first | exact hlen | rfl))) (rv_tmp rfl) ?_
   exact fun w h => ⟨(dv, b19, kv), by rw [writeF, if_neg (by omega)]; exact ⟨sdv, by rw [List.length_append]; exact p19, skv⟩, by rw [writeF, if_neg (by omega)]; rfl, by rw [writeF, if_neg (by omega)]; dsimp only; rw [dRow_app]; exact h.sub SubC.h .nil⟩

end Go.Proofs.Ytoaeklbenmlooaa
