/- The reader: values. -/
import Derived.Test.YtommkigkkeailaaOAH
namespace Go.Proofs.Ytommkigkkeailaa
set_option linter.unusedSimpArgs false
set_option linter.unusedVariables false
open Go Go.PL Go.RowKit

section
variable {f : Nat} {ys : List UInt8} {r : Nat × Nat}
theorem tp_1 (h : ys.length < 1) : takeP f ys = none := by
  cases f with
  | zero => rfl
  | succ f => rw [takeP, if_pos h]
theorem tp_2 (h : lenP (ys.drop 1) = none) : takeP f ys = none := by
  cases f with
  | zero => rfl
  | succ f => rw [takeP, h]; split <;> rfl
theorem tp_3 (h : lenP (ys.drop 1) = some r) (h2 : ys.length < 1 + r.2 + r.1) : takeP f ys = none := by
  cases f with
  | zero => rfl
  | succ f =>
    rw [takeP, h]
    split
    · rfl
    · exact if_pos h2
theorem tp_4 (h0 : 1 ≤ ys.length) (h : lenP (ys.drop 1) = some r) (h2 : ¬ ys.length < 1 + r.2 + r.1) (h3 : (ys.getD 0 0).toNat < 128) : takeP (f + 1) ys = some (.nd (ys.getD 0 0) ((ys.drop (1 + r.2)).take r.1) [], 1 + r.2 + r.1) := by
  rw [takeP, if_neg (by omega), h]
  exact (if_neg h2).trans (if_pos h3)
theorem tp_5 (h0 : 1 ≤ ys.length) (h : lenP (ys.drop 1) = some r) (h2 : ¬ ys.length < 1 + r.2 + r.1) (h3 : ¬ (ys.getD 0 0).toNat < 128) : takeP (f + 1) ys = (kidsW (takeP f) r.1 ((ys.drop (1 + r.2)).take r.1)).map fun l => (.nd (ys.getD 0 0) [] l, 1 + r.2 + r.1) := by
  rw [takeP, if_neg (by omega), h]
  exact (if_neg h2).trans (if_neg h3)
end
instance (priority := 500) selC_refl {α : Type} {l : List α} : SelC l l := ⟨Sel.self l⟩
theorem Sel.skip {α : Type} {l m : List α} {y : α} (h : Sel l m) : Sel l (y :: m) := by
  induction h with
  | nil => exact .nil
  | cons hr _ ih => exact .cons (.there hr) ih
theorem Sel.sub {α : Type} {l m : List α} (h : Sub l m) : Sel l m := by
  induction h with
  | nil => exact .nil
  | keep _ ih => exact .cons .here ih
  | drop _ ih => exact Sel.skip ih
instance (priority := 300) selC_sub {α : Type} {l m : List α} [s : SubC l m] : SelC l m := ⟨Sel.sub s.h⟩
theorem built_rd {v : Value} {n : Nat} (hv : SV v n) : Try.prog.built 85 [(0, v)] = some [v].toArray := by
  obtain ⟨a, cap, rfl, _⟩ := hv
  kernel_rfl

set_option maxRecDepth 100000 in
theorem value_step (b : Nat) (v : Value) (ys : List UInt8) (d : Nat) (w : World) (hB : Mem w (nums [.blk b 85 [v]]) [.blk b 85 [v]] [] w) (hs : Seen (rdO (nums [.blk b 85 [v]]) w) v ys.length 1 (v8s ys)) (f : Nat) (hd : d + f = 13) (hyl : ys.length ≤ 70000) (ih : ∀ f2, f = f2 + 1 → ∀ (b : Nat) (v : Value) (ys : List UInt8) (w : World), Mem w (nums [.blk b 85 [v]]) [.blk b 85 [v]] [] w → Seen (rdO (nums [.blk b 85 [v]]) w) v ys.length 1 (v8s ys) → ys.length ≤ 70000 → Calls Try.prog 57 [.pointer (some ⟨b, 0, none⟩), .int .i64 ((d + 1 : Nat) : Int)].toArray w (GivesX w [.blk b 85 [v]] (fun x : HT × Value × Nat => takeP f2 ys = some (x.1.tr, x.2.2) ∧ x.1.sv ∧ ∀ r, Seen r v ys.length 1 (v8s ys) → Seen r x.2.1 (ys.drop x.2.2).length 1 (v8s (ys.drop x.2.2))) (fun x => .agg x.1.c.toArray) (fun x => .blk b 85 [x.2.1] :: x.1.ents) (takeP f2 ys = none))) :
    Calls Try.prog 57 [.pointer (some ⟨b, 0, none⟩), .int .i64 ((d : Nat) : Int)].toArray w (GivesX w [.blk b 85 [v]] (fun x : HT × Value × Nat => takeP f ys = some (x.1.tr, x.2.2) ∧ x.1.sv ∧ ∀ r, Seen r v ys.length 1 (v8s ys) → Seen r x.2.1 (ys.drop x.2.2).length 1 (v8s (ys.drop x.2.2))) (fun x => .agg x.1.c.toArray) (fun x => .blk b 85 [x.2.1] :: x.1.ents) (takeP f ys = none)) := by
  have sv := hs.sv
  have lm := sv.le
  simp only [maxLen] at lm
  refine enter (m := 46) (R := Mem w (nums [.blk b 85 [v]]) [.blk b 85 [v]] []) Try.func57 rfl rfl (Nat.le_of_ble_eq_true rfl) hB ?_
  refine wpc_seq ?_
  refine wpc_region ?_
  refine wpl_t (t_alloc Try.ti25 HT.z.c rfl) rfl (fun b4 => ?_)
  refine wpl_nil ?_
  refine ex_then ?_
  refine wpc_seq ?_
  refine wpc_region ?_
  refine wpl_q (q_pure rfl) rfl ?_
  refine wpl_q (q_pure rfl) rfl ?_
  refine wpl_tp (t_callX0 Try.hb58 rfl (fun w => must _ w) (fun hb => by simp only [decide_eq_false_iff_not] at hb; obtain rfl : f = 0 := (by omega); rfl)) rfl (fun b10 p10 => ?_)
  obtain ⟨f2, rfl⟩ : ∃ f2, f = f2 + 1 := ⟨f - 1, by simp only [decide_eq_true_eq] at p10; omega⟩
  refine wpl_nil ?_
  refine ex_then ?_
  refine wpc_seq ?_
  refine wpc_region ?_
  refine wpl_q (q_pure rfl) rfl ?_
  refine wpl_tp (t_callX [.blk b 85 [v]] [.blk b4 25 HT.z.c] [.blk b 85 [v], .blk b4 25 HT.z.c] (fun _ => [.blk b 85 [(slv v 1 ys.length 1)], .blk b4 25 HT.z.c]) rfl (fun _ _ => .refl _) Try.hb64 rfl (fun w h h2 => cut b v ys.length 1 w h2 sv) (fun hb => tp_1 hb)) rfl (fun b12 p12 => ?_)
  have hk1 := lenP_1 p12
  have sv1 : SV (slv v 1 ys.length 1) (ys.drop 1).length := (cutA hs p12).sv
  have sv0 : SV (slv v 0 1 1) 1 := sv.slv (by omega) p12
  refine wpl_q (q_idxW1 (j := 0) Try.underlying22 Try.ti5 rfl rfl (by first | assumption | exact SV.nil | exact SV.slv (by assumption) (by omega) (by omega) | exact arv_sv (by first | decide | (simp only [maxLen]; omega))) (by first | omega | (simp only [maxLen]; omega) | (simp only [List.length_append, List.length_cons, List.length_nil, List.length_take, maxLen]; omega) | (simp only [List.length_append, List.length_cons, List.length_nil, List.length_take]; omega))) rfl ?_
  refine wpl_q (q_ldW Try.underlying5 rfl rfl (fun w h => cutB (hs.mono (rdo_old h)) p12) (v8s_get (xs := ys.take 1) (i := 0) (by rw [List.length_take]; omega))) rfl ?_
  refine wpl_re 14 rfl (congrArg (fun n : Nat => Value.int .u8 (n : Int)) (show ((ys.take 1).getD 0 0).toNat = (ys.getD 0 0).toNat by rw [hk1])) ?_
  refine wpl_q (q_build (cs := [.int .u8 ((ys.getD 0 0).toNat : Int), nl, nl]) rfl (built_o0 (ys.getD 0 0))) rfl ?_
  refine wpl_t (t_alloc Try.ti25 HT.z.c rfl) rfl (fun b5 => ?_)
  refine wpl_t0 (t_stA Try.ti25 rfl rfl LenC.h OneC.h LenC.h) (fun _ => ?_)
  refine wpl_nil ?_
  refine ex_then ?_
  refine wpc_seq ?_
  refine wpc_region ?_
  refine wpl_q (q_pure rfl) rfl ?_
  refine wpl_q (q_pure rfl) rfl ?_
  refine wpl_tp (t_callX [.blk b 85 [(slv v 1 ys.length 1)]] [.blk b5 25 [.int .u8 ((ys.getD 0 0).toNat : Int), nl, nl], .blk b4 25 HT.z.c] [.blk b 85 [(slv v 1 ys.length 1)], .blk b5 25 [.int .u8 ((ys.getD 0 0).toNat : Int), nl, nl], .blk b4 25 HT.z.c] (fun x => [.blk b 85 [x.1], .blk b5 25 [.int .u8 ((ys.getD 0 0).toNat : Int), nl, nl], .blk b4 25 HT.z.c]) rfl (fun _ _ => .refl _) Try.hb65 rfl (fun w h h2 => length b (slv v 1 ys.length 1) (ys.drop 1) w h2 ((cutA hs p12).mono (rdo_nums h (by repeat (first | exact List.mem_cons_self .. | apply List.mem_cons_of_mem))))) (fun hb => tp_2 hb)) rfl (fun b18 p18 => ?_)
  obtain ⟨u, n, m⟩ := b18
  dsimp only at p18 ⊢
  have hp := p18.1
  have hle := lenP_le hp
  dsimp only at hle
  have hU := fun (r : Rd) (q : Seen r v ys.length 1 (v8s ys)) => p18.2 r (cutA q p12)
  have svu := (hU _ hs).sv
  have hdl : (ys.drop 1).length = ys.length - 1 := List.length_drop
  have hzl : ((ys.drop 1).drop m).length = ys.length - 1 - m := by rw [List.length_drop, hdl]
  refine wpl_tp (t_callX [.blk b 85 [u]] [.blk b5 25 [.int .u8 ((ys.getD 0 0).toNat : Int), nl, nl], .blk b4 25 HT.z.c] [.blk b 85 [u], .blk b5 25 [.int .u8 ((ys.getD 0 0).toNat : Int), nl, nl], .blk b4 25 HT.z.c] (fun _ => [.blk b 85 [(slv u n ((ys.drop 1).drop m).length 1)], .blk b5 25 [.int .u8 ((ys.getD 0 0).toNat : Int), nl, nl], .blk b4 25 HT.z.c]) rfl (fun _ _ => .refl _) Try.hb64 rfl (fun w h h2 => cut b u ((ys.drop 1).drop m).length n w h2 svu) (fun hb => tp_3 hp (by rw [hzl] at hb; dsimp only; omega))) rfl (fun b19 p19 => ?_)
  have hdd : ((ys.drop 1).drop m).drop n = ys.drop (1 + m + n) := by rw [List.drop_drop, List.drop_drop, Nat.add_assoc]
  have hzs : ((ys.drop 1).drop m).take n = ((ys.drop (1 + m)).take n) := by rw [List.drop_drop]
  have hsl : ((ys.drop (1 + m)).take n).length = n := by rw [← hzs, List.length_take]; omega
  have hn3 : ¬ ys.length < 1 + (n, m).2 + (n, m).1 := by rw [hzl] at p19; dsimp only; omega
  have hC := fun (r : Rd) (q : Seen r v ys.length 1 (v8s ys)) => cutB (hU r q) p19
  rw [hzs] at hC
  have svc := (hC _ hs).sv
  have hD : ∀ r, Seen r v ys.length 1 (v8s ys) → Seen r (slv u n ((ys.drop 1).drop m).length 1) (ys.drop (1 + m + n)).length 1 (v8s (ys.drop (1 + m + n))) := fun r q => by have z := cutA (hU r q) p19; rw [hdd] at z; exact z
  have h5 : ¬ (ys.getD 0 0).toNat < 128 → takeP (f2 + 1) ys = (kidsW (takeP f2) n ((ys.drop (1 + m)).take n)).map fun l => (.nd (ys.getD 0 0) [] l, 1 + m + n) := fun ht => tp_5 p12 hp hn3 ht
  refine wpl_q (q_pure rfl) rfl ?_
  refine wpl_nil ?_
  refine ex_then ?_
  refine wpc_seq ?_
  refine wpc_seq ?_
  refine wpc_region ?_
  refine wpl_q (q_field Try.underlying25 rfl Try.ti5 rfl rfl _ rfl) rfl ?_
  refine wpl_q (q_ld Try.underlying5 rfl rfl (by first | exact v8s_get (by first | decide | omega | exact Nat.zero_lt_one | (simp; omega) | (simp; done) | (simp only [v8s_length, v32s_length, vis_length, vns_length, v64s_length]; omega)) | rfl)) rfl ?_
  refine wpl_q (q_pure rfl) rfl ?_
  refine wpl_nil ?_
  refine ex_then ?_
  refine wpc_cond rfl (fun hc22 => ?_) (fun hc22 => ?_)
  ·
   simp only [decide_eq_true_eq] at hc22
   have ht : (ys.getD 0 0).toNat < 128 := by omega
   refine wpc_seq ?_
   refine wpc_region ?_
   refine wpl_q (q_pure rfl) rfl ?_
   refine wpl_tp (t_callP1 Try.hb44 rfl fun w h => cloneB (slv u 0 n 1) ((ys.drop (1 + m)).take n) w (hC _ (hs.mono (rdo_old h))) (by omega)) rfl (fun b24 p24 => ?_)
   haveI := oneH (t := (ys.getD 0 0)) p24 SV.nil
   refine wpl_q (q_field Try.underlying25 rfl Try.ti22 rfl rfl _ rfl) rfl ?_
   refine wpl_t0 (t_st1 Try.ti22 rfl rfl (SV.one (by first | assumption | exact SV.nil | exact SV.slv (by assumption) (by omega) (by omega) | exact arv_sv (by first | decide | (simp only [maxLen]; omega)))) (by first | decide | omega | exact Nat.zero_lt_one | (simp; omega) | (simp; done) | (simp only [v8s_length, v32s_length, vis_length, vns_length, v64s_length]; omega)) [.int .u8 ((ys.getD 0 0).toNat : Int), b24, nl] rfl) (fun _ => ?_)
   refine wpl_nil ?_
   refine ex_then ?_
   refine wpc_seq ?_
   refine wpc_region ?_
   refine wpl_q (q_ldN Try.underlying25 rfl Try.ti25 rfl LenC.h) rfl ?_
   refine wpl_t0 (t_stA Try.ti25 rfl rfl LenC.h OneC.h LenC.h) (fun _ => ?_)
   refine wpl_nil ?_
   refine ex_then ?_
   refine wpc_ret ?_
   refine ex_then_ret ?_
   refine retv1 (.inl rfl) rfl (rv_agg Try.underlying25 rfl Try.ti25 rfl (fun w h => h.atB) rfl) ?_
   exact fun w1 h => Or.inl ⟨(.nd (ys.getD 0 0) b24 ((ys.drop (1 + m)).take n) nl [], (slv u n ((ys.drop 1).drop m).length 1), 1 + m + n), ⟨tp_4 p12 hp hn3 ht, ⟨p24, SV.nil⟩, hD⟩, rfl, (show Mem w (nums [.blk b 85 [v]]) [.blk b 85 [(slv u n ((ys.drop 1).drop m).length 1)], .row b24 ((ys.drop (1 + m)).take n).length 5 1 (v8s ((ys.drop (1 + m)).take n)), .row nl 0 25 3 []] [] w1 from (h.nilRow 25 3).sel)⟩
  ·
   simp only [decide_eq_false_iff_not] at hc22
   have ht : ¬ (ys.getD 0 0).toNat < 128 := by omega
   refine wpc_skip ?_
   refine ex_then ?_
   refine wpc_seq ?_
   refine wpc_seq ?_
   refine wpc_region ?_
   refine wpl_q (q_pure rfl) rfl ?_
   refine wpl_q (q_build (cs := [(slv u 0 n 1)]) rfl (built_rd svc)) rfl ?_
   refine wpl_t (t_box rfl [(slv u 0 n 1)] rfl) rfl (fun b29 => ?_)
   refine wpl_q (q_pure rfl) rfl ?_
   refine wpl_nil ?_
   refine ex_then ?_
   refine wpc_block ?_
   refine wpc_loopc (ι := { x : Nat × List HT × Value × Value // (x.1 ≤ n) ∧ (x.2.1.length ≤ x.1) ∧ (KG (takeP f2) n ((ys.drop (1 + m)).take n) x.2.1 x.1) ∧ (SV x.2.2.1 x.2.1.length) ∧ (∀ r, Seen r v ys.length 1 (v8s ys) → Seen r x.2.2.2 (((ys.drop (1 + m)).take n).drop x.1).length 1 (v8s (((ys.drop (1 + m)).take n).drop x.1))) }) [(1, _), (4, _), (5, _), (7, _)] (fun x Lc => Lc) (fun x => Mem w (nums [.blk b 85 [v]]) (.blk b29 85 [x.1.2.2.2] :: .blk b5 25 [.int .u8 ((ys.getD 0 0).toNat : Int), nl, x.1.2.2.1] :: .blk b4 25 HT.z.c :: .blk b 85 [(slv u n ((ys.drop 1).drop m).length 1)] :: .row x.1.2.2.1 x.1.2.1.length 25 3 (hcs x.1.2.1) :: entsL x.1.2.1) []) (fun x => n - x.1.1) ⟨(0, [], nl, (slv u 0 n 1)), ⟨Nat.zero_le _, Nat.le_refl _, by have q := KG_start (tk := takeP f2) (seg := ((ys.drop (1 + m)).take n)); rw [hsl] at q; exact q, SV.nil, hC⟩⟩ (by repeat (first | exact trivial | refine ⟨rfl, ?_⟩)) ?_ ?_
   ·
    exact fun w1 h => by
      have h2 : Mem w (nums [.blk b 85 [v]]) [.blk b29 85 [(slv u 0 n 1)], .blk b5 25 [.int .u8 ((ys.getD 0 0).toNat : Int), nl, nl], .blk b4 25 HT.z.c, .blk b 85 [(slv u n ((ys.drop 1).drop m).length 1)], .row nl 0 25 3 []] [] w1 := (h.nilRow 25 3).sel
      exact h2
   ·
    rintro ⟨⟨c, ns, nv, cv⟩, ⟨hi0, hi1, hi2, hi3, hi4⟩⟩; try dsimp only
    have hi0 : c ≤ n := hi0; have hi1 : ns.length ≤ c := hi1; have hi2 : KG (takeP f2) n ((ys.drop (1 + m)).take n) ns c := hi2; have hi3 : SV nv ns.length := hi3; have hi4 : ∀ r, Seen r v ys.length 1 (v8s ys) → Seen r cv (((ys.drop (1 + m)).take n).drop c).length 1 (v8s (((ys.drop (1 + m)).take n).drop c)) := hi4
    haveI := oneH (t := (ys.getD 0 0)) SV.nil hi3
    have svk := (hi4 _ hs).sv
    have hdk : (((ys.drop (1 + m)).take n).drop c).length = ((ys.drop (1 + m)).take n).length - c := List.length_drop
    refine wpc_seq ?_
    refine wpc_seq ?_
    refine wpc_region ?_
    refine wpl_q (q_pure rfl) rfl ?_
    refine wpl_q (q_pure rfl) rfl ?_
    refine wpl_q (q_field Try.underlying85 rfl Try.ti22 rfl rfl _ rfl) rfl ?_
    refine wpl_q (q_ld Try.underlying22 rfl rfl rfl) rfl ?_
    refine wpl_q (q_lenW Try.underlying22 rfl (by first | assumption | exact SV.nil | exact SV.slv (by assumption) (by omega) (by omega) | exact arv_sv (by first | decide | (simp only [maxLen]; omega)))) rfl ?_
    refine wpl_q (q_pure rfl) rfl ?_
    refine wpl_nil ?_
    refine ex_then ?_
    refine wpc_cond rfl (fun hc35 => ?_) (fun hc35 => ?_)
    ·
     simp only [decide_eq_true_eq] at hc35
     have hcn : c < n := by omega
     refine wpc_skip ?_
     refine ex_then ?_
     refine wpc_block ?_
     refine wpc_drawM [.blk b5 25 [.int .u8 ((ys.getD 0 0).toNat : Int), nl, nv]] 7 (by kernel_rfl) (by repeat (first | exact Sub.nil | exact Sub.refl _ | with_reducible refine Sub.keep ?_ | refine Sub.drop ?_)) ?_
     refine wpd_p 0 rfl (by kernel_rfl) trivial (q_field Try.underlying25 rfl Try.ti23 rfl rfl _ rfl) rfl (fun w h => .inr (h.sub SubC.h SubC.h)) ?_
     refine wpd_q 1 rfl (by kernel_rfl) trivial (q_ld Try.underlying23 rfl rfl rfl) rfl (fun w h => h.sub SubC.h SubC.h) ?_
     refine wpd_p 2 rfl (by kernel_rfl) trivial (q_pure rfl) rfl (fun w h => .inr (h.sub SubC.h SubC.h)) ?_
     refine wpd_p 3 rfl (by kernel_rfl) trivial (q_pure rfl) rfl (fun w h => .inr (h.sub SubC.h SubC.h)) ?_
     refine wpd_p 4 rfl (by kernel_rfl) trivial (q_addN (b := 1) rfl rfl (by first | omega | (simp only [maxLen]; omega) | (simp only [List.length_append, List.length_cons, List.length_nil, List.length_take, maxLen]; omega) | (simp only [List.length_append, List.length_cons, List.length_nil, List.length_take]; omega))) rfl (fun w h => .inr (h.sub SubC.h SubC.h)) ?_
     refine wpd_tp 5 rfl (by kernel_rfl) trivial (t_callX [.blk b29 85 [cv]] (.blk b5 25 [.int .u8 ((ys.getD 0 0).toNat : Int), nl, nv] :: .blk b4 25 HT.z.c :: .blk b 85 [(slv u n ((ys.drop 1).drop m).length 1)] :: .row nv ns.length 25 3 (hcs ns) :: entsL ns) (.blk b29 85 [cv] :: .blk b5 25 [.int .u8 ((ys.getD 0 0).toNat : Int), nl, nv] :: .blk b4 25 HT.z.c :: .blk b 85 [(slv u n ((ys.drop 1).drop m).length 1)] :: .row nv ns.length 25 3 (hcs ns) :: entsL ns) (fun x => .blk b29 85 [x.2.1] :: .blk b5 25 [.int .u8 ((ys.getD 0 0).toNat : Int), nl, nv] :: .blk b4 25 HT.z.c :: .blk b 85 [(slv u n ((ys.drop 1).drop m).length 1)] :: .row nv ns.length 25 3 (hcs ns) :: (x.1.ents ++ entsL ns)) rfl (fun x _ => List.Perm.cons _ (List.perm_append_comm_assoc x.1.ents [.blk b5 25 [.int .u8 ((ys.getD 0 0).toNat : Int), nl, nv], .blk b4 25 HT.z.c, .blk b 85 [(slv u n ((ys.drop 1).drop m).length 1)], .row nv ns.length 25 3 (hcs ns)] (entsL ns))) Try.hb57 rfl (fun w h h2 => ih f2 rfl b29 cv (((ys.drop (1 + m)).take n).drop c) w h2 ((hi4 _ hs).mono (rdo_nums h (by repeat (first | exact List.mem_cons_self .. | apply List.mem_cons_of_mem)))) (by omega)) (fun hb => by rw [h5 ht, KG_none hi2 (by omega) hb]; rfl)) rfl (fun _ => (fun w h => .inr (h.sub SubC.h SubC.h))) (fun b41 p41 => ?_)
     haveI := p41.2.1.one
     have hmm := takeP_le p41.1
     have hKG := KG_some (y := b41.1) hi2 (by omega) p41.1 (by omega)
     refine wpd_tp 6 rfl (by kernel_rfl) trivial (t_bsG [.agg b41.1.c.toArray] b41.1.c Try.underlying23 Try.ti25 rfl (by decide) rfl (by decide) (by decide) rfl (by intro v hv; rw [List.mem_singleton] at hv; subst hv; exact HT.c_length _) (List.append_nil _)) rfl (fun _ => (fun w h => .inr (h.sub SubC.h SubC.h))) (fun b42 p42 => ?_)
     refine wpd_tp 7 rfl (by kernel_rfl) trivial (t_apW Try.underlying23 Try.ti25 rfl (by decide) rfl rfl (fun w h => by first | exact h.seenV | exact h.seenA (by first | decide | (simp only [maxLen]; omega)) (by first | with_reducible rfl | (simp only [v8s_length, v32s_length, vis_length, vns_length, v64s_length, List.length_replicate]; first | done | with_reducible assumption | omega) | (rw [v8s_length]; (first | with_reducible assumption | with_reducible exact shortF_length _ | with_reducible exact stepF_length _ _ _ | with_reducible exact sumF_length _ | with_reducible exact climbF_length _ (by first | with_reducible assumption | with_reducible exact shortF_length _ | with_reducible exact beginF_length _ _ | with_reducible exact getD_mem_len (by assumption) (by omega)) _ _ _ | with_reducible exact beginF_length _ _ | with_reducible exact chainF_length _ _ _ | with_reducible exact recF_length _ _ | with_reducible exact publicF_length _ | with_reducible exact getD_mem_len (by assumption) (by omega) | (with_reducible exact List.length_replicate))) | rfl) | exact h.seen_old (by assumption) | exact h.seen_oldL (by assumption) (by assumption) | exact h.seen_fact (by repeat (first | exact List.mem_cons_self .. | apply List.mem_cons_of_mem))) OneC.h (by first | omega | (simp only [maxLen]; omega) | (simp only [List.length_append, List.length_cons, List.length_nil, List.length_take, maxLen]; omega) | (simp only [List.length_append, List.length_cons, List.length_nil, List.length_take]; omega)) (by first | omega | (simp only [maxLen]; omega) | (simp only [List.length_append, List.length_cons, List.length_nil, List.length_take, maxLen]; omega) | (simp only [List.length_append, List.length_cons, List.length_nil, List.length_take]; omega)) (hcs (ns ++ [b41.1])) (cat_snoc HT.c ns b41.1)) rfl (fun _ => skk rfl) (fun b43 p43 => ?_)
     haveI := oneH (t := (ys.getD 0 0)) SV.nil p43
     refine wpd_p 8 rfl (by kernel_rfl) trivial (q_field Try.underlying25 rfl Try.ti23 rfl rfl _ rfl) rfl (skk rfl) ?_
     refine wpd_t0 9 rfl (by kernel_rfl) trivial (t_st1 Try.ti23 rfl rfl (SV.one (by first | assumption | exact SV.nil | exact SV.slv (by assumption) (by omega) (by omega) | exact arv_sv (by first | decide | (simp only [maxLen]; omega)))) (by first | decide | omega | exact Nat.zero_lt_one | (simp; omega) | (simp; done) | (simp only [v8s_length, v32s_length, vis_length, vns_length, v64s_length]; omega)) [.int .u8 ((ys.getD 0 0).toNat : Int), nl, b43] rfl) (fun _ => skk rfl) (fun _ => ?_)
     refine wpd_done (by kernel_rfl) ?_
     refine ex_block ?_
     refine ex_again ⟨(c + b41.2.2, ns ++ [b41.1], b43, b41.2.1), ⟨by dsimp only; omega, by rw [snoc_len]; dsimp only; omega, hKG, by rw [snoc_len]; exact p43, fun r q => by have z := p41.2.2 r (hi4 r q); rw [List.drop_drop] at z; exact z⟩⟩ ?_ ?_ ?_
     ·
      exact (by repeat (first | exact trivial | refine ⟨rfl, ?_⟩))
     ·
      exact fun w h => by
        dsimp only
        rw [snoc_len]
        exact (h.sub (M' := .blk b29 85 [b41.2.1] :: .blk b5 25 [.int .u8 ((ys.getD 0 0).toNat : Int), nl, b43] :: .blk b4 25 HT.z.c :: .blk b 85 [(slv u n ((ys.drop 1).drop m).length 1)] :: .row b43 (ns.length + 1) 25 3 (hcs (ns ++ [b41.1])) :: (b41.1.ents ++ entsL ns)) (S' := []) SubC.h .nil).perm ((((((entsL_snoc ns b41.1).cons _).cons _).cons _).cons _).cons _)
     ·
      (show n - (c + b41.2.2) < n - c); omega
    ·
     simp only [decide_eq_false_iff_not] at hc35
     have hR : takeP (f2 + 1) ys = some (.nd (ys.getD 0 0) [] (trs ns), 1 + m + n) := by rw [h5 ht, KG_end hi2 (by omega)]; rfl
     refine wpc_exit ?_
     refine ex_then_exit ?_
     refine ex_then_exit ?_
     refine ex_block_hit ?_
     refine ex_then ?_
     refine wpc_seq ?_
     refine wpc_region ?_
     refine wpl_q (q_ldN Try.underlying25 rfl Try.ti25 rfl LenC.h) rfl ?_
     refine wpl_t0 (t_stA Try.ti25 rfl rfl LenC.h OneC.h LenC.h) (fun _ => ?_)
     refine wpl_nil ?_
     refine ex_then ?_
     refine wpc_ret ?_
     refine retv1 (.inl rfl) rfl (rv_agg Try.underlying25 rfl Try.ti25 rfl (fun w h => h.atB) rfl) ?_
     exact fun w1 h => Or.inl ⟨(.nd (ys.getD 0 0) nl [] nv ns, (slv u n ((ys.drop 1).drop m).length 1), 1 + m + n), ⟨hR, ⟨SV.nil, hi3⟩, hD⟩, rfl, (show Mem w (nums [.blk b 85 [v]]) (.blk b 85 [(slv u n ((ys.drop 1).drop m).length 1)] :: .row nl 0 5 1 [] :: .row nv ns.length 25 3 (hcs ns) :: entsL ns) [] w1 from (h.nilRow 5 1).sel)⟩

theorem value : ∀ (f d b : Nat) (v : Value) (ys : List UInt8) (w : World), Mem w (nums [.blk b 85 [v]]) [.blk b 85 [v]] [] w → Seen (rdO (nums [.blk b 85 [v]]) w) v ys.length 1 (v8s ys) → d + f = 13 → ys.length ≤ 70000 → Calls Try.prog 57 [.pointer (some ⟨b, 0, none⟩), .int .i64 ((d : Nat) : Int)].toArray w (GivesX w [.blk b 85 [v]] (fun x : HT × Value × Nat => takeP f ys = some (x.1.tr, x.2.2) ∧ x.1.sv ∧ ∀ r, Seen r v ys.length 1 (v8s ys) → Seen r x.2.1 (ys.drop x.2.2).length 1 (v8s (ys.drop x.2.2))) (fun x => .agg x.1.c.toArray) (fun x => .blk b 85 [x.2.1] :: x.1.ents) (takeP f ys = none))
  | 0, d, b, v, ys, w, hB, hs, hd, hl => value_step b v ys d w hB hs 0 hd hl (fun f2 e => by omega)
  | f + 1, d, b, v, ys, w, hB, hs, hd, hl => value_step b v ys d w hB hs (f + 1) hd hl (fun f2 e b v ys w hB hs hl => by
    obtain rfl : f = f2 := by omega
    exact value f (d + 1) b v ys w hB hs (by omega) hl)

end Go.Proofs.Ytommkigkkeailaa
