/- Encodings. -/
import Derived.Test.YtommkigkkeailaaOU
namespace Go.Proofs.Ytommkigkkeailaa
set_option linter.unusedSimpArgs false
set_option linter.unusedVariables false
open Go Go.PL Go.RowKit

mutual
/-- A value's encoding. -/
def enc : Tr → List UInt8
  | .nd g bs l => g :: (lenB (bs.length + sizL l) ++ (bs ++ encL l))
def encL : List Tr → List UInt8
  | [] => []
  | x :: l => enc x ++ encL l
end
theorem encL_app : ∀ (a b : List Tr), encL (a ++ b) = encL a ++ encL b
  | [], b => rfl
  | x :: a, b => by rw [List.cons_append, encL, encL, encL_app a b, List.append_assoc]
theorem encL_take {l : List HT} {i : Nat} (h : i < l.length) : encL (trs (l.take (i + 1))) = encL (trs (l.take i)) ++ enc (l.getD i HT.z).tr := by rw [trs_takeS h, encL_app, encL, encL, List.append_nil]
theorem Sm.kidT {g : UInt8} {bs : List UInt8} {l : List Tr} (h : Sm (.nd g bs l)) {x : Tr} (hx : x ∈ l) : Sm x := by
  have h : bs.length + bytL l + 5 * (1 + cntL l) ≤ 1000000 := h
  have key : ∀ m : List Tr, x ∈ m → x.byt ≤ bytL m ∧ x.cnt ≤ cntL m := by
    intro m
    induction m with
    | nil => intro h; cases h
    | cons y m ih =>
      intro hm
      rw [bytL, cntL]
      rcases List.mem_cons.1 hm with rfl | hm
      · omega
      · have := ih hm; omega
  have := key l hx
  unfold Sm; omega
theorem enc_len : ∀ t : Tr, Sm t → (enc t).length = t.siz := by
  intro t
  induction t using Tr.ind with
  | _ g bs l ih =>
    intro h
    have hc := content_le h
    have key : ∀ m : List Tr, (∀ x ∈ m, x ∈ l) → (encL m).length = sizL m := by
      intro m
      induction m with
      | nil => intro _; rfl
      | cons x m ihm =>
        intro hm
        rw [encL, List.length_append, ih x (hm x (List.mem_cons_self ..)) (h.kidT (hm x (List.mem_cons_self ..))), ihm fun y hy => hm y (List.mem_cons_of_mem _ hy), sizL]
    rw [enc, List.length_cons, List.length_append, List.length_append, key l (fun _ hx => hx), lenB_length (by omega), Tr.siz]; omega

set_option maxRecDepth 100000 in
theorem refPut_step (t : HT) (w : World) (ht : HSeen w.cell? t) (hsm : Sm t.tr) (ih : ∀ x ∈ t.kids, ∀ (w : World), HSeen w.cell? x → Sm x.tr → Calls Try.prog 55 [.agg x.c.toArray].toArray w (GivesP w (fun v : Value => SV v (enc x.tr).length) (fun v => v) (fun v => [.row v (enc x.tr).length 5 1 (v8s (enc x.tr))]) (fun _ => []))) :
    Calls Try.prog 55 [.agg t.c.toArray].toArray w (GivesP w (fun v : Value => SV v (enc t.tr).length) (fun v => v) (fun v => [.row v (enc t.tr).length 5 1 (v8s (enc t.tr))]) (fun _ => [])) := by
  obtain ⟨tg, bv, bs, lv, l⟩ := t
  have hb := ht.1
  have hk := ht.2.1
  have svb := hb.sv
  have svl := hk.sv
  have lb := svb.le
  have ll := svl.le
  simp only [maxLen] at lb ll
  have hs0 := content_le hsm
  have hbl : bs.length ≤ 1000000 := by omega
  refine enter (m := 35) (R := Mem w [] [] []) Try.func55 rfl rfl (Nat.le_of_ble_eq_true rfl) (Mem.start w) ?_
  refine wpc_seq ?_
  refine wpc_region ?_
  refine wpl_t (t_box rfl [.int .u8 (tg.toNat : Int), bv, lv] rfl) rfl (fun b1 => ?_)
  refine wpl_q (q_pure rfl) rfl ?_
  refine wpl_nil ?_
  refine ex_then ?_
  refine wpc_seq ?_
  refine wpc_region ?_
  refine wpl_tp (t_bs0W Try.underlying22 Try.ti5) rfl (fun b6 p6 => ?_)
  refine wpl_q (q_field Try.underlying25 rfl Try.ti22 rfl rfl _ rfl) rfl ?_
  refine wpl_q (q_ld Try.underlying22 rfl rfl rfl) rfl ?_
  refine wpl_tp (t_ap0 Try.underlying22 Try.ti5 rfl (by decide) rfl rfl (fun w h => h.seen_old hb) (v8s_one _) (by first | omega | (simp only [maxLen]; omega) | (simp only [List.length_append, List.length_cons, List.length_nil, List.length_take, maxLen]; omega) | (simp only [List.length_append, List.length_cons, List.length_nil, List.length_take]; omega)) (by first | omega | (simp only [maxLen]; omega) | (simp only [List.length_append, List.length_cons, List.length_nil, List.length_take, maxLen]; omega) | (simp only [List.length_append, List.length_cons, List.length_nil, List.length_take]; omega))) rfl (fun b9 p9 => ?_)
  refine wpl_q (q_pure rfl) rfl ?_
  refine wpl_nil ?_
  refine ex_then ?_
  refine wpc_seq ?_
  refine wpc_seq ?_
  refine wpc_region ?_
  refine wpl_q (q_pure rfl) rfl ?_
  refine wpl_nil ?_
  refine ex_then ?_
  refine wpc_block ?_
  refine wpc_loopc (ι := { x : Nat × Value × List UInt8 // (x.1 ≤ l.length) ∧ (x.2.2.length = bs.length + sizL (trs (l.take x.1))) ∧ (x.2.2 = bs ++ encL (trs (l.take x.1))) ∧ (SV x.2.1 x.2.2.length) }) [(1, _)] (fun x Lc => (4, .int .i64 ((x.1.1 : Nat) : Int)) :: (3, x.1.2.1) :: Lc) (fun x => Mem w [] [.blk b1 25 [.int .u8 (tg.toNat : Int), bv, lv], .row x.1.2.1 x.1.2.2.length 5 1 (v8s x.1.2.2)] []) (fun x => l.length - x.1.1) ⟨(0, b9, bs), ⟨Nat.zero_le _, rfl, (List.append_nil _).symm, by simpa using p9⟩⟩ (by repeat (first | exact trivial | refine ⟨rfl, ?_⟩)) ?_ ?_
  ·
   exact fun w h => h.sel
  ·
   rintro ⟨⟨i, v, xs⟩, ⟨hi0, hi1, hi2, hi3⟩⟩; try dsimp only
   have hi0 : i ≤ l.length := hi0; have hi1 : xs.length = bs.length + sizL (trs (l.take i)) := hi1; have hi2 : xs = bs ++ encL (trs (l.take i)) := hi2; have hi3 : SV v xs.length := hi3
   refine wpc_seq ?_
   refine wpc_seq ?_
   refine wpc_region ?_
   refine wpl_q (q_pure rfl) rfl ?_
   refine wpl_q (q_field Try.underlying25 rfl Try.ti23 rfl rfl _ rfl) rfl ?_
   refine wpl_q (q_ld Try.underlying23 rfl rfl rfl) rfl ?_
   refine wpl_q (q_lenW Try.underlying23 rfl (by first | assumption | exact SV.nil | exact SV.slv (by assumption) (by omega) (by omega) | exact arv_sv (by first | decide | (simp only [maxLen]; omega)))) rfl ?_
   refine wpl_q (q_pure rfl) rfl ?_
   refine wpl_nil ?_
   refine ex_then ?_
   refine wpc_cond rfl (fun hc14 => ?_) (fun hc14 => ?_)
   ·
    simp only [decide_eq_true_eq] at hc14
    have hil : i < l.length := by omega
    haveI := (ht.kid hil).sv.one
    have hs1 := sizL_take hil
    have hs2 := sizL_kid hil
    have hs3 := content_le hsm
    have hex := enc_len _ (hsm.kid hil)
    refine wpc_skip ?_
    refine ex_then ?_
    refine wpc_seq ?_
    refine wpc_block ?_
    refine wpc_region ?_
    refine wpl_q (q_pure rfl) rfl ?_
    refine wpl_q (q_field Try.underlying25 rfl Try.ti23 rfl rfl _ rfl) rfl ?_
    refine wpl_q (q_ld Try.underlying23 rfl rfl rfl) rfl ?_
    refine wpl_q (q_pure rfl) rfl ?_
    refine wpl_q (q_idxW Try.underlying23 Try.ti25 rfl rfl (by first | assumption | exact SV.nil | exact SV.slv (by assumption) (by omega) (by omega) | exact arv_sv (by first | decide | (simp only [maxLen]; omega))) (by first | omega | (simp only [maxLen]; omega) | (simp only [List.length_append, List.length_cons, List.length_nil, List.length_take, maxLen]; omega) | (simp only [List.length_append, List.length_cons, List.length_nil, List.length_take]; omega))) rfl ?_
    refine wpl_q (q_ldWN Try.underlying25 rfl Try.ti25 rfl (fun w h => h.seen_old hk) (l.getD i HT.z).c (cat_part HT.c_length HT.z hil) (HT.c_length _)) rfl ?_
    refine wpl_tp (t_callP1 Try.hb55 rfl fun w h => ih (l.getD i HT.z) (getD_memH hil) w ((ht.kid hil).old h) (hsm.kid hil)) rfl (fun b23 p23 => ?_)
    refine wpl_tp (t_apW Try.underlying22 Try.ti5 rfl (by decide) rfl rfl (fun w h => by first | exact h.seenV | exact h.seenA (by first | decide | (simp only [maxLen]; omega)) (by first | with_reducible rfl | (simp only [v8s_length, v32s_length, vis_length, vns_length, v64s_length, List.length_replicate]; first | done | with_reducible assumption | omega) | (rw [v8s_length]; (first | with_reducible assumption | with_reducible exact shortF_length _ | with_reducible exact stepF_length _ _ _ | with_reducible exact sumF_length _ | with_reducible exact climbF_length _ (by first | with_reducible assumption | with_reducible exact shortF_length _ | with_reducible exact beginF_length _ _ | with_reducible exact getD_mem_len (by assumption) (by omega)) _ _ _ | with_reducible exact beginF_length _ _ | with_reducible exact chainF_length _ _ _ | with_reducible exact recF_length _ _ | with_reducible exact publicF_length _ | with_reducible exact getD_mem_len (by assumption) (by omega) | (with_reducible exact List.length_replicate))) | rfl) | exact h.seen_old (by assumption) | exact h.seen_oldL (by assumption) (by assumption) | exact h.seen_fact (by repeat (first | exact List.mem_cons_self .. | apply List.mem_cons_of_mem))) OneC.h (by first | omega | (simp only [maxLen]; omega) | (simp only [List.length_append, List.length_cons, List.length_nil, List.length_take, maxLen]; omega) | (simp only [List.length_append, List.length_cons, List.length_nil, List.length_take]; omega)) (by first | omega | (simp only [maxLen]; omega) | (simp only [List.length_append, List.length_cons, List.length_nil, List.length_take, maxLen]; omega) | (simp only [List.length_append, List.length_cons, List.length_nil, List.length_take]; omega)) (v8s (xs ++ enc (l.getD i HT.z).tr)) (v8s_append _ _).symm) rfl (fun b24 p24 => ?_)
    refine wpl_q (q_pure rfl) rfl ?_
    refine wpl_nil ?_
    refine ex_block ?_
    refine ex_then ?_
    refine wpc_region ?_
    refine wpl_q (q_pure rfl) rfl ?_
    refine wpl_q (q_addN (b := 1) rfl rfl (by first | omega | (simp only [maxLen]; omega) | (simp only [List.length_append, List.length_cons, List.length_nil, List.length_take, maxLen]; omega) | (simp only [List.length_append, List.length_cons, List.length_nil, List.length_take]; omega))) rfl ?_
    refine wpl_q (q_pure rfl) rfl ?_
    refine wpl_nil ?_
    refine ex_again ⟨(i + 1, b24, xs ++ enc (l.getD i HT.z).tr), ⟨by omega, by rw [List.length_append, hex, hi1, sizL_take hil]; omega, by rw [hi2, encL_take hil, List.append_assoc], by rw [List.length_append]; exact p24⟩⟩ ?_ ?_ ?_
    ·
     exact (by repeat (first | exact trivial | refine ⟨rfl, ?_⟩))
    ·
     exact fun w h => by
       dsimp only
       rw [List.length_append]
       exact h.sel
    ·
     (show l.length - (i + 1) < l.length - i); omega
   ·
    simp only [decide_eq_false_iff_not] at hc14
    obtain rfl : i = l.length := by omega
    rw [List.take_length] at hi1 hi2
    have hs3 := content_le hsm
    have hlb := lenB_length (n := xs.length) (by omega)
    have hwl := wideF_le xs.length (by omega)
    have hn : (enc (HT.nd tg bv bs lv l).tr) = tg :: (lenB xs.length ++ xs) := by rw [hi1, hi2]; rfl
    refine wpc_exit ?_
    refine ex_then_exit ?_
    refine ex_then_exit ?_
    refine ex_block_hit ?_
    refine ex_then ?_
    refine wpc_seq ?_
    refine wpc_draw 6 (by kernel_rfl) (fun _ h => h.drew) ?_
    refine wpd_p 0 rfl (by kernel_rfl) trivial (q_field Try.underlying25 rfl Try.ti5 rfl rfl _ rfl) rfl sk0 ?_
    refine wpd_qB 1 [2, 6] rfl (by kernel_rfl) trivial (q_ld Try.underlying5 rfl rfl (by first | exact v8s_get (by first | decide | omega | exact Nat.zero_lt_one | (simp; omega) | (simp; done) | (simp only [v8s_length, v32s_length, vis_length, vns_length, v64s_length]; omega)) | rfl)) rfl (fun _ h => h) ?_
    refine wpd_p 3 rfl (by kernel_rfl) trivial (q_pure rfl) rfl sk0 ?_
    refine wpd_p 4 rfl (by kernel_rfl) trivial (q_lenW Try.underlying22 rfl (by first | assumption | exact SV.nil | exact SV.slv (by assumption) (by omega) (by omega) | exact arv_sv (by first | decide | (simp only [maxLen]; omega)))) rfl sk0 ?_
    refine wpd_two 2 5 (by kernel_rfl) ?_ ?_
    ·
     refine wpa_tp 2 rfl trivial (t_bsV (v8s [_]) Try.underlying22 Try.ti5 rfl rfl (by decide) (by decide) rfl (v8s_one _)) rfl (fun _ => (fun w h => .inr (h.sub SubC.h SubC.h))) (fun b27 p27 => ?_)
     refine wpd_tp 5 rfl (by kernel_rfl) trivial (t_callP1 Try.hb63 rfl fun w h => refLength xs.length w (by omega)) rfl (fun _ => (fun w h => .inr (h.sub SubC.h SubC.h))) (fun b30 p30 => ?_)
     refine wpd_tp 6 rfl (by kernel_rfl) trivial (t_apW Try.underlying22 Try.ti5 rfl (by decide) rfl rfl (fun w h => by first | exact h.seenV | exact h.seenA (by first | decide | (simp only [maxLen]; omega)) (by first | with_reducible rfl | (simp only [v8s_length, v32s_length, vis_length, vns_length, v64s_length, List.length_replicate]; first | done | with_reducible assumption | omega) | (rw [v8s_length]; (first | with_reducible assumption | with_reducible exact shortF_length _ | with_reducible exact stepF_length _ _ _ | with_reducible exact sumF_length _ | with_reducible exact climbF_length _ (by first | with_reducible assumption | with_reducible exact shortF_length _ | with_reducible exact beginF_length _ _ | with_reducible exact getD_mem_len (by assumption) (by omega)) _ _ _ | with_reducible exact beginF_length _ _ | with_reducible exact chainF_length _ _ _ | with_reducible exact recF_length _ _ | with_reducible exact publicF_length _ | with_reducible exact getD_mem_len (by assumption) (by omega) | (with_reducible exact List.length_replicate))) | rfl) | exact h.seen_old (by assumption) | exact h.seen_oldL (by assumption) (by assumption) | exact h.seen_fact (by repeat (first | exact List.mem_cons_self .. | apply List.mem_cons_of_mem))) OneC.h (by first | omega | (simp only [maxLen]; omega) | (simp only [List.length_append, List.length_cons, List.length_nil, List.length_take, maxLen]; omega) | (simp only [List.length_append, List.length_cons, List.length_nil, List.length_take]; omega)) (by first | omega | (simp only [maxLen]; omega) | (simp only [List.length_append, List.length_cons, List.length_nil, List.length_take, maxLen]; omega) | (simp only [List.length_append, List.length_cons, List.length_nil, List.length_take]; omega)) (v8s ([tg] ++ lenB xs.length)) (v8s_append _ _).symm) rfl (fun _ => skk rfl) (fun b31 p31 => ?_)
     refine wpd_p 7 rfl (by kernel_rfl) trivial (q_pure rfl) rfl (skk rfl) ?_
     refine wpd_done (by kernel_rfl) ?_
     refine ex_then ?_
     refine wpc_seq ?_
     refine wpc_region ?_
     refine wpl_q (q_pure rfl) rfl ?_
     refine wpl_q (q_pure rfl) rfl ?_
     refine wpl_tp (t_apW Try.underlying22 Try.ti5 rfl (by decide) rfl rfl (fun w h => by first | exact h.seenV | exact h.seenA (by first | decide | (simp only [maxLen]; omega)) (by first | with_reducible rfl | (simp only [v8s_length, v32s_length, vis_length, vns_length, v64s_length, List.length_replicate]; first | done | with_reducible assumption | omega) | (rw [v8s_length]; (first | with_reducible assumption | with_reducible exact shortF_length _ | with_reducible exact stepF_length _ _ _ | with_reducible exact sumF_length _ | with_reducible exact climbF_length _ (by first | with_reducible assumption | with_reducible exact shortF_length _ | with_reducible exact beginF_length _ _ | with_reducible exact getD_mem_len (by assumption) (by omega)) _ _ _ | with_reducible exact beginF_length _ _ | with_reducible exact chainF_length _ _ _ | with_reducible exact recF_length _ _ | with_reducible exact publicF_length _ | with_reducible exact getD_mem_len (by assumption) (by omega) | (with_reducible exact List.length_replicate))) | rfl) | exact h.seen_old (by assumption) | exact h.seen_oldL (by assumption) (by assumption) | exact h.seen_fact (by repeat (first | exact List.mem_cons_self .. | apply List.mem_cons_of_mem))) OneC.h (by first | omega | (simp only [maxLen]; omega) | (simp only [List.length_append, List.length_cons, List.length_nil, List.length_take, maxLen]; omega) | (simp only [List.length_append, List.length_cons, List.length_nil, List.length_take]; omega)) (by first | omega | (simp only [maxLen]; omega) | (simp only [List.length_append, List.length_cons, List.length_nil, List.length_take, maxLen]; omega) | (simp only [List.length_append, List.length_cons, List.length_nil, List.length_take]; omega)) (v8s (([tg] ++ lenB xs.length) ++ xs)) (v8s_append _ _).symm) rfl (fun b34 p34 => ?_)
     refine wpl_q (q_pure rfl) rfl ?_
     refine wpl_nil ?_
     refine ex_then ?_
     refine wpc_ret ?_
     refine ret1 (.inl rfl) rfl rfl ?_
     exact fun w1 h => by
       have hl : (enc (HT.nd tg bv bs lv l).tr).length = 1 + (lenB xs.length).length + xs.length := by rw [hn, List.length_cons, List.length_append]; omega
       have hn2 : ([tg] ++ lenB xs.length) ++ xs = enc (HT.nd tg bv bs lv l).tr := by rw [hn]; simp
       rw [hn2] at h
       exact ⟨b34, by rw [hl]; exact p34, rfl, h.below, by rw [hl]; exact h.made SubC.h .nil⟩
    ·
     refine wpa_tp 5 rfl trivial (t_callP1 Try.hb63 rfl fun w h => refLength xs.length w (by omega)) rfl (fun _ => (fun w h => .inr (h.sub SubC.h SubC.h))) (fun b30 p30 => ?_)
     refine wpd_tp 2 rfl (by kernel_rfl) trivial (t_bsV (v8s [_]) Try.underlying22 Try.ti5 rfl rfl (by decide) (by decide) rfl (v8s_one _)) rfl (fun _ => (fun w h => .inr (h.sub SubC.h SubC.h))) (fun b27 p27 => ?_)
     refine wpd_tp 6 rfl (by kernel_rfl) trivial (t_apW Try.underlying22 Try.ti5 rfl (by decide) rfl rfl (fun w h => by first | exact h.seenV | exact h.seenA (by first | decide | (simp only [maxLen]; omega)) (by first | with_reducible rfl | (simp only [v8s_length, v32s_length, vis_length, vns_length, v64s_length, List.length_replicate]; first | done | with_reducible assumption | omega) | (rw [v8s_length]; (first | with_reducible assumption | with_reducible exact shortF_length _ | with_reducible exact stepF_length _ _ _ | with_reducible exact sumF_length _ | with_reducible exact climbF_length _ (by first | with_reducible assumption | with_reducible exact shortF_length _ | with_reducible exact beginF_length _ _ | with_reducible exact getD_mem_len (by assumption) (by omega)) _ _ _ | with_reducible exact beginF_length _ _ | with_reducible exact chainF_length _ _ _ | with_reducible exact recF_length _ _ | with_reducible exact publicF_length _ | with_reducible exact getD_mem_len (by assumption) (by omega) | (with_reducible exact List.length_replicate))) | rfl) | exact h.seen_old (by assumption) | exact h.seen_oldL (by assumption) (by assumption) | exact h.seen_fact (by repeat (first | exact List.mem_cons_self .. | apply List.mem_cons_of_mem))) OneC.h (by first | omega | (simp only [maxLen]; omega) | (simp only [List.length_append, List.length_cons, List.length_nil, List.length_take, maxLen]; omega) | (simp only [List.length_append, List.length_cons, List.length_nil, List.length_take]; omega)) (by first | omega | (simp only [maxLen]; omega) | (simp only [List.length_append, List.length_cons, List.length_nil, List.length_take, maxLen]; omega) | (simp only [List.length_append, List.length_cons, List.length_nil, List.length_take]; omega)) (v8s ([tg] ++ lenB xs.length)) (v8s_append _ _).symm) rfl (fun _ => skk rfl) (fun b31 p31 => ?_)
     refine wpd_p 7 rfl (by kernel_rfl) trivial (q_pure rfl) rfl (skk rfl) ?_
     refine wpd_done (by kernel_rfl) ?_
     refine ex_then ?_
     refine wpc_seq ?_
     refine wpc_region ?_
     refine wpl_q (q_pure rfl) rfl ?_
     refine wpl_q (q_pure rfl) rfl ?_
     refine wpl_tp (t_apW Try.underlying22 Try.ti5 rfl (by decide) rfl rfl (fun w h => by first | exact h.seenV | exact h.seenA (by first | decide | (simp only [maxLen]; omega)) (by first | with_reducible rfl | (simp only [v8s_length, v32s_length, vis_length, vns_length, v64s_length, List.length_replicate]; first | done | with_reducible assumption | omega) | (rw [v8s_length]; (first | with_reducible assumption | with_reducible exact shortF_length _ | with_reducible exact stepF_length _ _ _ | with_reducible exact sumF_length _ | with_reducible exact climbF_length _ (by first | with_reducible assumption | with_reducible exact shortF_length _ | with_reducible exact beginF_length _ _ | with_reducible exact getD_mem_len (by assumption) (by omega)) _ _ _ | with_reducible exact beginF_length _ _ | with_reducible exact chainF_length _ _ _ | with_reducible exact recF_length _ _ | with_reducible exact publicF_length _ | with_reducible exact getD_mem_len (by assumption) (by omega) | (with_reducible exact List.length_replicate))) | rfl) | exact h.seen_old (by assumption) | exact h.seen_oldL (by assumption) (by assumption) | exact h.seen_fact (by repeat (first | exact List.mem_cons_self .. | apply List.mem_cons_of_mem))) OneC.h (by first | omega | (simp only [maxLen]; omega) | (simp only [List.length_append, List.length_cons, List.length_nil, List.length_take, maxLen]; omega) | (simp only [List.length_append, List.length_cons, List.length_nil, List.length_take]; omega)) (by first | omega | (simp only [maxLen]; omega) | (simp only [List.length_append, List.length_cons, List.length_nil, List.length_take, maxLen]; omega) | (simp only [List.length_append, List.length_cons, List.length_nil, List.length_take]; omega)) (v8s (([tg] ++ lenB xs.length) ++ xs)) (v8s_append _ _).symm) rfl (fun b34 p34 => ?_)
     refine wpl_q (q_pure rfl) rfl ?_
     refine wpl_nil ?_
     refine ex_then ?_
     refine wpc_ret ?_
     refine ret1 (.inl rfl) rfl rfl ?_
     exact fun w1 h => by
       have hl : (enc (HT.nd tg bv bs lv l).tr).length = 1 + (lenB xs.length).length + xs.length := by rw [hn, List.length_cons, List.length_append]; omega
       have hn2 : ([tg] ++ lenB xs.length) ++ xs = enc (HT.nd tg bv bs lv l).tr := by rw [hn]; simp
       rw [hn2] at h
       exact ⟨b34, by rw [hl]; exact p34, rfl, h.below, by rw [hl]; exact h.made SubC.h .nil⟩
theorem refPut : ∀ (t : HT) (w : World), HSeen w.cell? t → Sm t.tr → Calls Try.prog 55 [.agg t.c.toArray].toArray w (GivesP w (fun v : Value => SV v (enc t.tr).length) (fun v => v) (fun v => [.row v (enc t.tr).length 5 1 (v8s (enc t.tr))]) (fun _ => [])) := by
  intro t
  induction t using HT.ind with
  | _ tg bv bs lv l ih => intro w h hs; exact refPut_step _ w h hs (fun x hx w hx' hs' => ih x hx w hx' hs')


def encF (t : Tr) : List UInt8 × Int := if checkF t = 0 then (enc t, 0) else ([], checkF t)

set_option maxRecDepth 100000 in
theorem refEncode (t : HT) (w : World) (ht : HSeen w.cell? t) (hsm : Sm t.tr) (hdp : t.tr.dep ≤ 900000) :
    Calls Try.prog 34 [.agg t.c.toArray].toArray w (GivesP w (fun v : Value => SV v (encF t.tr).1.length) (fun v => .tuple #[v, .int .i64 (encF t.tr).2]) (fun v => [.row v (encF t.tr).1.length 5 1 (v8s (encF t.tr).1)]) (fun _ => [])) := by
  haveI := ht.sv.one
  refine enter (m := 12) (R := Mem w [] [] []) Try.func34 rfl rfl (Nat.le_of_ble_eq_true rfl) (Mem.start w) ?_
  refine wpc_seq ?_
  refine wpc_region ?_
  refine wpl_t (t_box rfl t.c rfl) rfl (fun b1 => ?_)
  refine wpl_q (q_pure rfl) rfl ?_
  refine wpl_q (q_pure rfl) rfl ?_
  refine wpl_nil ?_
  refine ex_then ?_
  refine wpc_seq ?_
  refine wpc_region ?_
  refine wpl_q (q_ldN Try.underlying25 rfl Try.ti25 rfl LenC.h) rfl ?_
  refine wpl_t (t_pur Try.hb31 rfl fun w h => refCheck t w (ht.old h) hsm (by omega)) rfl (fun b6 => ?_)
  refine wpl_q (q_pure rfl) rfl ?_
  refine wpl_nil ?_
  refine ex_then ?_
  refine wpc_seq ?_
  refine wpc_seq ?_
  refine wpc_region ?_
  refine wpl_q (q_pure rfl) rfl ?_
  refine wpl_q (q_pure rfl) rfl ?_
  refine wpl_nil ?_
  refine ex_then ?_
  refine wpc_cond rfl (fun hc8 => ?_) (fun hc8 => ?_)
  ·
   have hN : ¬ checkF t.tr = 0 := by simpa using hc8
   refine wpc_seq ?_
   refine wpc_region ?_
   refine wpl_q (q_pure rfl) rfl ?_
   refine wpl_q (q_pure rfl) rfl ?_
   refine wpl_q (q_pure rfl) rfl ?_
   refine wpl_nil ?_
   refine ex_then ?_
   refine wpc_ret ?_
   refine ex_then_ret ?_
   refine ret2 (.inl rfl) rfl rfl rfl ?_
   exact fun w1 h => ⟨nl, by rw [encF, if_neg hN]; exact SV.nil, by rw [encF, if_neg hN], h.below, by rw [encF, if_neg hN]; exact (show Mem w [] [.row nl 0 5 1 []] [] w1 from (h.nilRow 5 1).sel).made (Sub.refl _) .nil⟩
  ·
   have hZ : checkF t.tr = 0 := by simpa using hc8
   refine wpc_skip ?_
   refine ex_then ?_
   refine wpc_seq ?_
   refine wpc_region ?_
   refine wpl_q (q_ldN Try.underlying25 rfl Try.ti25 rfl LenC.h) rfl ?_
   refine wpl_tp (t_callP1 Try.hb55 rfl fun w h => refPut t w (ht.old h) hsm) rfl (fun b11 p11 => ?_)
   refine wpl_q (q_pure rfl) rfl ?_
   refine wpl_q (q_pure rfl) rfl ?_
   refine wpl_nil ?_
   refine ex_then ?_
   refine wpc_ret ?_
   refine ret2 (.inl rfl) rfl rfl rfl ?_
   exact fun w1 h => ⟨b11, by rw [encF, if_pos hZ]; exact p11, by rw [encF, if_pos hZ], h.below, by rw [encF, if_pos hZ]; exact h.made SubC.h .nil⟩

end Go.Proofs.Ytommkigkkeailaa
