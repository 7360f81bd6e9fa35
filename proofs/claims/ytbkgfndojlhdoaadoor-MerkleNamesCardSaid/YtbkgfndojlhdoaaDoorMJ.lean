/- The law MerkleKeys. -/
import Derived.Test.YtbkgfndojlhdoaaDoorM2
namespace Go.Proofs.YtbkgfndojlhdoaaDoor
set_option linter.unusedSimpArgs false
set_option linter.unusedVariables false
open Go Go.PL Go.RowKit

theorem eqc_up {P : Program} {dp dp' : Nat} {t : TypeId} {agg : Bool} {sz : Nat} {W : List Value → Prop} (h : EqC P dp t agg sz W) (hd : dp ≤ dp') : EqC P dp' t agg sz W := ⟨h.1, h.2.1, h.2.2.1, h.2.2.2.1, fun d hdd => h.2.2.2.2 d (by omega)⟩
set_option maxRecDepth 100000 in
theorem eqk : EqC Tryd.prog 3 25 true 17 (fun cs => cs.length = 17 ∧ ((((cs.drop 0).take 16).length = 16 ∧ ∀ i, i < 16 → IntCell .u8 ((((cs.drop 0).take 16).drop (i * 1)).take 1)) ∧ (IntCell .i64 ((cs.drop (0 + 16)).take 1) ∧ True))) :=
by
  refine eqc_struct Tryd.underlying25 Tryd.ti25 (by kernel_rfl) ?_
  refine EqFs.cons (sz := 16) (W := fun c => c.length = 16 ∧ ∀ i, i < 16 → IntCell .u8 ((c.drop (i * 1)).take 1)) (W' := fun cs => IntCell .i64 ((cs.drop (0 + 16)).take 1) ∧ True) (by kernel_rfl) rfl eq8_23 ?_
  refine EqFs.cons (sz := 1) (W := IntCell .i64) (W' := fun _ => True) (by kernel_rfl) rfl (eqc_up (dp' := 2) (eqc_int Tryd.underlying3 Tryd.ti3) (by decide)) ?_
  exact EqFs.nil _
theorem wkey {xs : List UInt8} (a : Int) (h : xs.length = 16) : (v8s xs ++ [Value.int .i64 a]).length = 17 ∧ (((((v8s xs ++ [Value.int .i64 a]).drop 0).take 16).length = 16 ∧ ∀ i, i < 16 → IntCell .u8 (((((v8s xs ++ [Value.int .i64 a]).drop 0).take 16).drop (i * 1)).take 1)) ∧ (IntCell .i64 (((v8s xs ++ [Value.int .i64 a]).drop (0 + 16)).take 1) ∧ True)) := by
  refine ⟨key_len xs a h, ?_, ⟨a, ?_⟩, trivial⟩
  · rw [key_root xs a h]; exact w8s h
  · rw [List.drop_left' (by rw [v8s_length, h])]; rfl
theorem q_eqK {n : Cx} {R : World → Prop} {L : Slots} {t' : TypeId} {x y : Operand} {xs ys : List UInt8} {a b : Int} (hx : ev L x = some (.agg (v8s xs ++ [Value.int .i64 a]).toArray)) (hy : ev L y = some (.agg (v8s ys ++ [Value.int .i64 b]).toArray)) (h1 : xs.length = 16) (h2 : ys.length = 16) :
    QOp Tryd.prog n R L (.binOp .eql 25 x y t') (.bool (decide (xs = ys ∧ a = b))) :=
  q_eqA eqk (by decide) (by kernel_rfl) hx hy (wkey a h1) (wkey b h2) _ (by
    rw [decide_eq_true_eq]
    constructor
    · rintro ⟨rfl, rfl⟩; rfl
    · intro h
      obtain ⟨e1, e2⟩ := List.append_inj h (by rw [v8s_length, v8s_length, h1, h2])
      exact ⟨v8s_inj e1, by simpa using e2⟩)

set_option maxRecDepth 100000 in
theorem lawKeys (xs : List UInt8) (ht : Int) (idx : Int) (bv : Value) (bs : List UInt8) (w : World) (hxs : xs.length = 16) (hbv : Seen w.cell? bv bs.length 1 (v8s bs)) (hG : Glb w) :
    Calls Tryd.prog 4 [.agg (v8s xs).toArray, .int .i64 ht, .int .i64 idx, bv].toArray w (Pur w (.bool true)) := by
  have sbv := hbv.sv
  have lbv := sbv.le
  simp only [maxLen] at lbv
  have hkl := keyR_length xs ht
  refine enter (m := 75) (R := Mem w [] [] []) Tryd.func4 rfl rfl (Nat.le_of_ble_eq_true rfl) (Mem.start w) ?_
  refine wpc_seq ?_
  refine wpc_region ?_
  refine wpl_t (t_box rfl (v8s xs) rfl) rfl (fun b4 => ?_)
  refine wpl_q (q_pure rfl) rfl ?_
  refine wpl_nil ?_
  refine ex_then ?_
  refine wpc_seq ?_
  refine wpc_seq ?_
  refine wpc_region ?_
  refine wpl_q (q_pure rfl) rfl ?_
  refine wpl_q (q_lenW Tryd.underlying26 rfl (by first | assumption | exact SV.nil | exact SV.slv (by assumption) (by omega) (by omega) | exact arv_sv (by first | decide | (simp only [maxLen]; omega)))) rfl ?_
  refine wpl_q (q_pure rfl) rfl ?_
  refine wpl_nil ?_
  refine ex_then ?_
  refine wpc_cond rfl (fun hc20 => ?_) (fun hc20 => ?_)
  ·
    try simp only [decide_eq_true_eq, decide_eq_false_iff_not, Bool.and_eq_true, Bool.or_eq_true, beq_iff_eq, bne_iff_ne, ne_eq, Bool.not_eq_true', Bool.not_eq_false', Decidable.not_not] at hc20
    refine wpc_seq ?_
    refine wpc_region ?_
    refine wpl_q (q_pure rfl) rfl ?_
    refine wpl_nil ?_
    refine ex_then ?_
    refine wpc_ret ?_
    refine ex_then_ret ?_
    refine ret1 (.inl rfl) rfl rfl ?_
    exact fun w h => ⟨rfl, h.below⟩
  ·
    try simp only [decide_eq_true_eq, decide_eq_false_iff_not, Bool.and_eq_true, Bool.or_eq_true, beq_iff_eq, bne_iff_ne, ne_eq, Bool.not_eq_true', Bool.not_eq_false', Decidable.not_not] at hc20
    refine wpc_skip ?_
    refine ex_then ?_
    refine wpc_seq ?_
    refine wpc_region ?_
    refine wpl_tp (t_bs0W Tryd.underlying26 Tryd.ti5) rfl (fun b21 p21 => ?_)
    refine wpl_q (q_pure rfl) rfl ?_
    refine wpl_tp (t_ap0 Tryd.underlying26 Tryd.ti5 rfl (by decide) rfl rfl (fun w h => by first | exact h.seenV | exact h.seenA (by first | decide | (simp only [maxLen]; omega)) (by first | (with_reducible exact key_len _ _ (by (first | with_reducible assumption | exact L16.h))) | with_reducible rfl | (simp only [v8s_length, v32s_length, vis_length, vns_length, v64s_length, List.length_replicate]; first | done | with_reducible assumption | omega) | (rw [v8s_length]; (first | with_reducible assumption | exact L16.h)) | rfl) | exact h.seen_old (by assumption) | exact h.seen_oldL (by assumption) (by assumption) | exact h.seen_fact (by repeat (first | exact List.mem_cons_self .. | apply List.mem_cons_of_mem))) (v8s_one _) (by first | omega | (simp only [maxLen]; omega) | (simp only [List.length_append, List.length_cons, List.length_nil, List.length_take, maxLen]; omega) | (simp only [List.length_append, List.length_cons, List.length_nil, List.length_take]; omega)) (by first | omega | (simp only [maxLen]; omega) | (simp only [List.length_append, List.length_cons, List.length_nil, List.length_take, maxLen]; omega) | (simp only [List.length_append, List.length_cons, List.length_nil, List.length_take]; omega))) rfl (fun b23 p23 => ?_)
    refine wpl_q (q_pure rfl) rfl ?_
    refine wpl_nil ?_
    refine ex_then ?_
    refine wpc_seq ?_
    refine wpc_region ?_
    refine wpl_q (q_ldN Tryd.underlying23 rfl Tryd.ti23 rfl (by first | (with_reducible exact key_len _ _ (by (first | with_reducible assumption | exact L16.h))) | with_reducible rfl | (simp only [v8s_length, v32s_length, vis_length, vns_length, v64s_length, List.length_replicate]; first | done | with_reducible assumption | omega) | (rw [v8s_length]; (first | with_reducible assumption | exact L16.h)) | rfl)) rfl ?_
    refine wpl_q (q_pure rfl) rfl ?_
    refine wpl_t (t_pur Tryd.hb19 rfl fun w h => key7 _ _ w (by (first | with_reducible assumption | exact L16.h)) (glob h hG)) rfl (fun b27 => ?_)
    refine wpl_q (q_pure rfl) rfl ?_
    refine wpl_q (q_pure rfl) rfl ?_
    refine wpl_q (q_pure rfl) rfl ?_
    refine wpl_t (t_alloc Tryd.ti25 _ rfl) rfl (fun b10 => ?_)
    refine wpl_t0 (t_stA Tryd.ti25 rfl rfl (by first | (with_reducible exact key_len _ _ (by (first | with_reducible assumption | exact L16.h))) | with_reducible rfl | (simp only [v8s_length, v32s_length, vis_length, vns_length, v64s_length, List.length_replicate]; first | done | with_reducible assumption | omega) | (rw [v8s_length]; (first | with_reducible assumption | exact L16.h)) | rfl) (by first | with_reducible exact key_one _ _ | (with_reducible exact sig_one (by first | assumption | exact SV.nil) (by first | assumption | exact SV.nil) _) | exact v8s_one _ | exact v32s_one _ | exact v64s_one _ | exact vis_one _ | exact vns_one _ | exact v16s_one _ | (intro u hu; simp at hu; rcases hu with h | h <;> subst h <;> rfl) | (intro u hu; simp only [List.mem_cons, List.not_mem_nil, or_false] at hu; subst hu; exact SV.one (by assumption)) | (simp [Value.oneCell']; done)) (by first | (with_reducible exact key_len _ _ (by (first | with_reducible assumption | exact L16.h))) | with_reducible rfl | (simp only [v8s_length, v32s_length, vis_length, vns_length, v64s_length, List.length_replicate]; first | done | with_reducible assumption | omega) | (rw [v8s_length]; (first | with_reducible assumption | exact L16.h)) | rfl)) (fun _ => ?_)
    refine wpl_q (q_pure rfl) rfl ?_
    refine wpl_nil ?_
    refine ex_then ?_
    refine wpc_seq ?_
    refine wpc_region ?_
    refine wpl_q (q_ldN Tryd.underlying23 rfl Tryd.ti23 rfl (by first | (with_reducible exact key_len _ _ (by (first | with_reducible assumption | exact L16.h))) | with_reducible rfl | (simp only [v8s_length, v32s_length, vis_length, vns_length, v64s_length, List.length_replicate]; first | done | with_reducible assumption | omega) | (rw [v8s_length]; (first | with_reducible assumption | exact L16.h)) | rfl)) rfl ?_
    refine wpl_q (q_pure rfl) rfl ?_
    refine wpl_t (t_pur Tryd.hb20 rfl fun w h => refKey7 _ _ w (by (first | with_reducible assumption | exact L16.h))) rfl (fun b33 => ?_)
    refine wpl_q (q_pure rfl) rfl ?_
    refine wpl_q (q_pure rfl) rfl ?_
    refine wpl_q (q_pure rfl) rfl ?_
    refine wpl_t (t_alloc Tryd.ti25 _ rfl) rfl (fun b12 => ?_)
    refine wpl_t0 (t_stA Tryd.ti25 rfl rfl (by first | (with_reducible exact key_len _ _ (by (first | with_reducible assumption | exact L16.h))) | with_reducible rfl | (simp only [v8s_length, v32s_length, vis_length, vns_length, v64s_length, List.length_replicate]; first | done | with_reducible assumption | omega) | (rw [v8s_length]; (first | with_reducible assumption | exact L16.h)) | rfl) (by first | with_reducible exact key_one _ _ | (with_reducible exact sig_one (by first | assumption | exact SV.nil) (by first | assumption | exact SV.nil) _) | exact v8s_one _ | exact v32s_one _ | exact v64s_one _ | exact vis_one _ | exact vns_one _ | exact v16s_one _ | (intro u hu; simp at hu; rcases hu with h | h <;> subst h <;> rfl) | (intro u hu; simp only [List.mem_cons, List.not_mem_nil, or_false] at hu; subst hu; exact SV.one (by assumption)) | (simp [Value.oneCell']; done)) (by first | (with_reducible exact key_len _ _ (by (first | with_reducible assumption | exact L16.h))) | with_reducible rfl | (simp only [v8s_length, v32s_length, vis_length, vns_length, v64s_length, List.length_replicate]; first | done | with_reducible assumption | omega) | (rw [v8s_length]; (first | with_reducible assumption | exact L16.h)) | rfl)) (fun _ => ?_)
    refine wpl_q (q_pure rfl) rfl ?_
    refine wpl_nil ?_
    refine ex_then ?_
    refine wpc_seq ?_
    refine wpc_region ?_
    refine wpl_q (q_ldN Tryd.underlying23 rfl Tryd.ti23 rfl (by first | (with_reducible exact key_len _ _ (by (first | with_reducible assumption | exact L16.h))) | with_reducible rfl | (simp only [v8s_length, v32s_length, vis_length, vns_length, v64s_length, List.length_replicate]; first | done | with_reducible assumption | omega) | (rw [v8s_length]; (first | with_reducible assumption | exact L16.h)) | rfl)) rfl ?_
    refine wpl_q (q_pure rfl) rfl ?_
    refine wpl_q (q_pure rfl) rfl ?_
    refine wpl_q (q_pure rfl) rfl ?_
    refine wpl_tp (t_callP2 Tryd.hb21 rfl fun w h => sign7 _ _ _ _ _ w (by (first | with_reducible assumption | exact L16.h)) (by first | exact Seen.re8 h.seenV | exact Seen.reS h.seenV (by first | assumption | exact signF_all _ _ | exact sg_all _ _ | exact sigC_all _ _ _ _ | exact sigP_all _ _ _ | exact pathF_all _ _ _) (by decide) | exact Seen.reN h.seenV | exact h.seenV | exact h.seenA (by first | decide | (simp only [maxLen]; omega)) (by first | (with_reducible exact key_len _ _ (by (first | with_reducible assumption | exact L16.h))) | with_reducible rfl | (simp only [v8s_length, v32s_length, vis_length, vns_length, v64s_length, List.length_replicate]; first | done | with_reducible assumption | omega) | (rw [v8s_length]; (first | with_reducible assumption | exact L16.h)) | rfl) | exact h.seen_old (by assumption) | exact h.seen_oldL (by assumption) (by assumption) | exact Seen.re8 (h.seen_fact (by repeat (first | exact List.mem_cons_self .. | apply List.mem_cons_of_mem))) | exact h.seen_fact (by repeat (first | exact List.mem_cons_self .. | apply List.mem_cons_of_mem))) (glob h hG)) rfl (fun b41 p41 => ?_)
    obtain ⟨hc1, hc2⟩ := p41
    refine wpl_q (q_pure rfl) rfl ?_
    refine wpl_q (q_pure rfl) rfl ?_
    refine wpl_q (q_pure rfl) rfl ?_
    refine wpl_t (t_alloc Tryd.ti29 _ rfl) rfl (fun b14 => ?_)
    refine wpl_t0 (t_stA Tryd.ti29 rfl rfl (by first | (with_reducible exact key_len _ _ (by (first | with_reducible assumption | exact L16.h))) | with_reducible rfl | (simp only [v8s_length, v32s_length, vis_length, vns_length, v64s_length, List.length_replicate]; first | done | with_reducible assumption | omega) | (rw [v8s_length]; (first | with_reducible assumption | exact L16.h)) | rfl) (by first | with_reducible exact key_one _ _ | (with_reducible exact sig_one (by first | assumption | exact SV.nil) (by first | assumption | exact SV.nil) _) | exact v8s_one _ | exact v32s_one _ | exact v64s_one _ | exact vis_one _ | exact vns_one _ | exact v16s_one _ | (intro u hu; simp at hu; rcases hu with h | h <;> subst h <;> rfl) | (intro u hu; simp only [List.mem_cons, List.not_mem_nil, or_false] at hu; subst hu; exact SV.one (by assumption)) | (simp [Value.oneCell']; done)) (by first | (with_reducible exact key_len _ _ (by (first | with_reducible assumption | exact L16.h))) | with_reducible rfl | (simp only [v8s_length, v32s_length, vis_length, vns_length, v64s_length, List.length_replicate]; first | done | with_reducible assumption | omega) | (rw [v8s_length]; (first | with_reducible assumption | exact L16.h)) | rfl)) (fun _ => ?_)
    refine wpl_q (q_pure rfl) rfl ?_
    refine wpl_nil ?_
    refine ex_then ?_
    refine wpc_seq ?_
    refine wpc_region ?_
    refine wpl_q (q_ldN Tryd.underlying23 rfl Tryd.ti23 rfl (by first | (with_reducible exact key_len _ _ (by (first | with_reducible assumption | exact L16.h))) | with_reducible rfl | (simp only [v8s_length, v32s_length, vis_length, vns_length, v64s_length, List.length_replicate]; first | done | with_reducible assumption | omega) | (rw [v8s_length]; (first | with_reducible assumption | exact L16.h)) | rfl)) rfl ?_
    refine wpl_q (q_pure rfl) rfl ?_
    refine wpl_q (q_pure rfl) rfl ?_
    refine wpl_q (q_pure rfl) rfl ?_
    refine wpl_tp (t_callP2 Tryd.hb22 rfl fun w h => refSign7 _ _ _ _ _ w (by (first | with_reducible assumption | exact L16.h)) (by first | exact Seen.re8 h.seenV | exact Seen.reS h.seenV (by first | assumption | exact signF_all _ _ | exact sg_all _ _ | exact sigC_all _ _ _ _ | exact sigP_all _ _ _ | exact pathF_all _ _ _) (by decide) | exact Seen.reN h.seenV | exact h.seenV | exact h.seenA (by first | decide | (simp only [maxLen]; omega)) (by first | (with_reducible exact key_len _ _ (by (first | with_reducible assumption | exact L16.h))) | with_reducible rfl | (simp only [v8s_length, v32s_length, vis_length, vns_length, v64s_length, List.length_replicate]; first | done | with_reducible assumption | omega) | (rw [v8s_length]; (first | with_reducible assumption | exact L16.h)) | rfl) | exact h.seen_old (by assumption) | exact h.seen_oldL (by assumption) (by assumption) | exact Seen.re8 (h.seen_fact (by repeat (first | exact List.mem_cons_self .. | apply List.mem_cons_of_mem))) | exact h.seen_fact (by repeat (first | exact List.mem_cons_self .. | apply List.mem_cons_of_mem))) (by first | omega | (simp only [maxLen]; omega) | (simp only [List.length_append, List.length_cons, List.length_nil, List.length_take, maxLen]; omega) | (simp only [List.length_append, List.length_cons, List.length_nil, List.length_take]; omega))) rfl (fun b49 p49 => ?_)
    obtain ⟨hd1, hd2⟩ := p49
    refine wpl_q (q_pure rfl) rfl ?_
    refine wpl_q (q_pure rfl) rfl ?_
    refine wpl_q (q_pure rfl) rfl ?_
    refine wpl_t (t_alloc Tryd.ti29 _ rfl) rfl (fun b16 => ?_)
    refine wpl_t0 (t_stA Tryd.ti29 rfl rfl (by first | (with_reducible exact key_len _ _ (by (first | with_reducible assumption | exact L16.h))) | with_reducible rfl | (simp only [v8s_length, v32s_length, vis_length, vns_length, v64s_length, List.length_replicate]; first | done | with_reducible assumption | omega) | (rw [v8s_length]; (first | with_reducible assumption | exact L16.h)) | rfl) (by first | with_reducible exact key_one _ _ | (with_reducible exact sig_one (by first | assumption | exact SV.nil) (by first | assumption | exact SV.nil) _) | exact v8s_one _ | exact v32s_one _ | exact v64s_one _ | exact vis_one _ | exact vns_one _ | exact v16s_one _ | (intro u hu; simp at hu; rcases hu with h | h <;> subst h <;> rfl) | (intro u hu; simp only [List.mem_cons, List.not_mem_nil, or_false] at hu; subst hu; exact SV.one (by assumption)) | (simp [Value.oneCell']; done)) (by first | (with_reducible exact key_len _ _ (by (first | with_reducible assumption | exact L16.h))) | with_reducible rfl | (simp only [v8s_length, v32s_length, vis_length, vns_length, v64s_length, List.length_replicate]; first | done | with_reducible assumption | omega) | (rw [v8s_length]; (first | with_reducible assumption | exact L16.h)) | rfl)) (fun _ => ?_)
    refine wpl_q (q_pure rfl) rfl ?_
    refine wpl_nil ?_
    refine ex_then ?_
    refine wpc_seq ?_
    refine wpc_region ?_
    refine wpl_q (q_ldN Tryd.underlying25 rfl Tryd.ti25 rfl (by first | (with_reducible exact key_len _ _ (by (first | with_reducible assumption | exact L16.h))) | with_reducible rfl | (simp only [v8s_length, v32s_length, vis_length, vns_length, v64s_length, List.length_replicate]; first | done | with_reducible assumption | omega) | (rw [v8s_length]; (first | with_reducible assumption | exact L16.h)) | rfl)) rfl ?_
    refine wpl_q (q_ldN Tryd.underlying25 rfl Tryd.ti25 rfl (by first | (with_reducible exact key_len _ _ (by (first | with_reducible assumption | exact L16.h))) | with_reducible rfl | (simp only [v8s_length, v32s_length, vis_length, vns_length, v64s_length, List.length_replicate]; first | done | with_reducible assumption | omega) | (rw [v8s_length]; (first | with_reducible assumption | exact L16.h)) | rfl)) rfl ?_
    refine wpl_q (q_tru (q_eqK rfl rfl hkl hkl) ⟨rfl, rfl⟩) rfl ?_
    refine wpl_q (q_pure rfl) rfl ?_
    refine wpl_on rfl rfl ?_
    refine wpl_q (q_pure rfl) rfl ?_
    refine wpl_on rfl rfl ?_
    refine wpl_q (q_pure rfl) rfl ?_
    refine wpl_on rfl rfl ?_
    refine wpl_q (q_tru (q_eqI rfl rfl) rfl) rfl ?_
    refine wpl_q (q_pure rfl) rfl ?_
    refine wpl_q (q_pure rfl) rfl ?_
    refine wpl_on rfl rfl ?_
    refine wpl_q (q_ldN Tryd.underlying29 rfl Tryd.ti29 rfl (by first | (with_reducible exact key_len _ _ (by (first | with_reducible assumption | exact L16.h))) | with_reducible rfl | (simp only [v8s_length, v32s_length, vis_length, vns_length, v64s_length, List.length_replicate]; first | done | with_reducible assumption | omega) | (rw [v8s_length]; (first | with_reducible assumption | exact L16.h)) | rfl)) rfl ?_
    refine wpl_on rfl rfl ?_
    refine wpl_q (q_ldN Tryd.underlying29 rfl Tryd.ti29 rfl (by first | (with_reducible exact key_len _ _ (by (first | with_reducible assumption | exact L16.h))) | with_reducible rfl | (simp only [v8s_length, v32s_length, vis_length, vns_length, v64s_length, List.length_replicate]; first | done | with_reducible assumption | omega) | (rw [v8s_length]; (first | with_reducible assumption | exact L16.h)) | rfl)) rfl ?_
    refine wpl_on rfl rfl ?_
    refine wpl_t (t_pur Tryd.hb18 rfl fun w h => refSame7 _ _ _ _ _ _ _ _ _ _ w (by first | exact Seen.re8 h.seenV | exact Seen.reS h.seenV (by first | assumption | exact signF_all _ _ | exact sg_all _ _ | exact sigC_all _ _ _ _ | exact sigP_all _ _ _ | exact pathF_all _ _ _) (by decide) | exact Seen.reN h.seenV | exact h.seenV | exact h.seenA (by first | decide | (simp only [maxLen]; omega)) (by first | (with_reducible exact key_len _ _ (by (first | with_reducible assumption | exact L16.h))) | with_reducible rfl | (simp only [v8s_length, v32s_length, vis_length, vns_length, v64s_length, List.length_replicate]; first | done | with_reducible assumption | omega) | (rw [v8s_length]; (first | with_reducible assumption | exact L16.h)) | rfl) | exact h.seen_old (by assumption) | exact h.seen_oldL (by assumption) (by assumption) | exact Seen.re8 (h.seen_fact (by repeat (first | exact List.mem_cons_self .. | apply List.mem_cons_of_mem))) | exact h.seen_fact (by repeat (first | exact List.mem_cons_self .. | apply List.mem_cons_of_mem))) (by first | assumption | exact signF_all _ _ | exact sg_all _ _ | exact sigC_all _ _ _ _ | exact sigP_all _ _ _ | exact pathF_all _ _ _) (by first | exact Seen.re8 h.seenV | exact Seen.reS h.seenV (by first | assumption | exact signF_all _ _ | exact sg_all _ _ | exact sigC_all _ _ _ _ | exact sigP_all _ _ _ | exact pathF_all _ _ _) (by decide) | exact Seen.reN h.seenV | exact h.seenV | exact h.seenA (by first | decide | (simp only [maxLen]; omega)) (by first | (with_reducible exact key_len _ _ (by (first | with_reducible assumption | exact L16.h))) | with_reducible rfl | (simp only [v8s_length, v32s_length, vis_length, vns_length, v64s_length, List.length_replicate]; first | done | with_reducible assumption | omega) | (rw [v8s_length]; (first | with_reducible assumption | exact L16.h)) | rfl) | exact h.seen_old (by assumption) | exact h.seen_oldL (by assumption) (by assumption) | exact Seen.re8 (h.seen_fact (by repeat (first | exact List.mem_cons_self .. | apply List.mem_cons_of_mem))) | exact h.seen_fact (by repeat (first | exact List.mem_cons_self .. | apply List.mem_cons_of_mem))) (by first | assumption | exact signF_all _ _ | exact sg_all _ _ | exact sigC_all _ _ _ _ | exact sigP_all _ _ _ | exact pathF_all _ _ _) (by first | exact Seen.re8 h.seenV | exact Seen.reS h.seenV (by first | assumption | exact signF_all _ _ | exact sg_all _ _ | exact sigC_all _ _ _ _ | exact sigP_all _ _ _ | exact pathF_all _ _ _) (by decide) | exact Seen.reN h.seenV | exact h.seenV | exact h.seenA (by first | decide | (simp only [maxLen]; omega)) (by first | (with_reducible exact key_len _ _ (by (first | with_reducible assumption | exact L16.h))) | with_reducible rfl | (simp only [v8s_length, v32s_length, vis_length, vns_length, v64s_length, List.length_replicate]; first | done | with_reducible assumption | omega) | (rw [v8s_length]; (first | with_reducible assumption | exact L16.h)) | rfl) | exact h.seen_old (by assumption) | exact h.seen_oldL (by assumption) (by assumption) | exact Seen.re8 (h.seen_fact (by repeat (first | exact List.mem_cons_self .. | apply List.mem_cons_of_mem))) | exact h.seen_fact (by repeat (first | exact List.mem_cons_self .. | apply List.mem_cons_of_mem))) (by first | assumption | exact signF_all _ _ | exact sg_all _ _ | exact sigC_all _ _ _ _ | exact sigP_all _ _ _ | exact pathF_all _ _ _) (by first | exact Seen.re8 h.seenV | exact Seen.reS h.seenV (by first | assumption | exact signF_all _ _ | exact sg_all _ _ | exact sigC_all _ _ _ _ | exact sigP_all _ _ _ | exact pathF_all _ _ _) (by decide) | exact Seen.reN h.seenV | exact h.seenV | exact h.seenA (by first | decide | (simp only [maxLen]; omega)) (by first | (with_reducible exact key_len _ _ (by (first | with_reducible assumption | exact L16.h))) | with_reducible rfl | (simp only [v8s_length, v32s_length, vis_length, vns_length, v64s_length, List.length_replicate]; first | done | with_reducible assumption | omega) | (rw [v8s_length]; (first | with_reducible assumption | exact L16.h)) | rfl) | exact h.seen_old (by assumption) | exact h.seen_oldL (by assumption) (by assumption) | exact Seen.re8 (h.seen_fact (by repeat (first | exact List.mem_cons_self .. | apply List.mem_cons_of_mem))) | exact h.seen_fact (by repeat (first | exact List.mem_cons_self .. | apply List.mem_cons_of_mem))) (by first | assumption | exact signF_all _ _ | exact sg_all _ _ | exact sigC_all _ _ _ _ | exact sigP_all _ _ _ | exact pathF_all _ _ _)) rfl (fun b63 => ?_)
    refine wpl_re 63 rfl (congrArg Value.bool (decide_eq_true ⟨rfl, rfl, rfl⟩)) ?_
    refine wpl_q (q_pure rfl) rfl ?_
    refine wpl_q (q_pure rfl) rfl ?_
    refine wpl_bool2 65 63 rfl rfl (fun hb65 => ?_) (fun hb65 => ?_)
    ·
      try simp only [decide_eq_true_eq, decide_eq_false_iff_not, Bool.and_eq_true, Bool.or_eq_true, beq_iff_eq, bne_iff_ne, ne_eq, Bool.not_eq_true', Bool.not_eq_false', Decidable.not_not] at hb65
      refine wpl_on rfl rfl ?_
      refine wpl_q (q_pure rfl) rfl ?_
      refine wpl_on rfl rfl ?_
      refine wpl_q (q_pure rfl) rfl ?_
      refine wpl_on rfl rfl ?_
      refine wpl_q (q_tru (q_eqI rfl rfl) rfl) rfl ?_
      refine wpl_q (q_pure rfl) rfl ?_
      refine wpl_q (q_pure rfl) rfl ?_
      refine wpl_on rfl rfl ?_
      refine wpl_q (q_pure rfl) rfl ?_
      refine wpl_on rfl rfl ?_
      refine wpl_q (q_pure rfl) rfl ?_
      refine wpl_on rfl rfl ?_
      refine wpl_t (t_pur Tryd.hb23 rfl fun w h => refSame _ _ _ _ w (by first | exact Seen.re8 h.seenV | exact Seen.reS h.seenV (by first | assumption | exact signF_all _ _ | exact sg_all _ _ | exact sigC_all _ _ _ _ | exact sigP_all _ _ _ | exact pathF_all _ _ _) (by decide) | exact Seen.reN h.seenV | exact h.seenV | exact h.seenA (by first | decide | (simp only [maxLen]; omega)) (by first | (with_reducible exact key_len _ _ (by (first | with_reducible assumption | exact L16.h))) | with_reducible rfl | (simp only [v8s_length, v32s_length, vis_length, vns_length, v64s_length, List.length_replicate]; first | done | with_reducible assumption | omega) | (rw [v8s_length]; (first | with_reducible assumption | exact L16.h)) | rfl) | exact h.seen_old (by assumption) | exact h.seen_oldL (by assumption) (by assumption) | exact Seen.re8 (h.seen_fact (by repeat (first | exact List.mem_cons_self .. | apply List.mem_cons_of_mem))) | exact h.seen_fact (by repeat (first | exact List.mem_cons_self .. | apply List.mem_cons_of_mem))) (by first | exact Seen.re8 h.seenV | exact Seen.reS h.seenV (by first | assumption | exact signF_all _ _ | exact sg_all _ _ | exact sigC_all _ _ _ _ | exact sigP_all _ _ _ | exact pathF_all _ _ _) (by decide) | exact Seen.reN h.seenV | exact h.seenV | exact h.seenA (by first | decide | (simp only [maxLen]; omega)) (by first | (with_reducible exact key_len _ _ (by (first | with_reducible assumption | exact L16.h))) | with_reducible rfl | (simp only [v8s_length, v32s_length, vis_length, vns_length, v64s_length, List.length_replicate]; first | done | with_reducible assumption | omega) | (rw [v8s_length]; (first | with_reducible assumption | exact L16.h)) | rfl) | exact h.seen_old (by assumption) | exact h.seen_oldL (by assumption) (by assumption) | exact Seen.re8 (h.seen_fact (by repeat (first | exact List.mem_cons_self .. | apply List.mem_cons_of_mem))) | exact h.seen_fact (by repeat (first | exact List.mem_cons_self .. | apply List.mem_cons_of_mem)))) rfl (fun b73 => ?_)
      refine wpl_re 73 rfl (congrArg Value.bool (decide_eq_true rfl)) ?_
      refine wpl_q (q_pure rfl) rfl ?_
      refine wpl_q (q_pure rfl) rfl ?_
      refine wpl_nil ?_
      refine ex_then ?_
      refine wpc_ret ?_
      refine ret1 (.inl rfl) rfl rfl ?_
      exact fun w h => ⟨rfl, h.below⟩
    ·
      simp at hb65

end Go.Proofs.YtbkgfndojlhdoaaDoor
