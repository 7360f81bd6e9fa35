/- Records in turn. -/
import Derived.Test.YtoaeklbenmlooaaKB
namespace Go.Proofs.Ytoaeklbenmlooaa
set_option linter.unusedSimpArgs false
set_option linter.unusedVariables false
open Go Go.PL Go.RowKit

theorem built_rec (r : Rec) : Try.prog.built 89 [(0, .int .u8 (r.k.toNat : Int)), (1, .int .u8 (r.h.toNat : Int)), (2, .int .u16 (r.v.toNat : Int)), (3, .int .u32 (r.id.toNat : Int))] = some r.c.toArray := by kernel_rfl
theorem built_key (id : UInt32) (ht : Int) : Try.prog.built 66 [(0, .int .u32 (id.toNat : Int)), (1, .int .i64 ht)] = some (KE.mk id ht 0 0 0 false).c.toArray := by kernel_rfl
theorem rec_one (r : Rec) : ∀ u ∈ r.c, u.oneCell' = true := by
  intro u hu
  simp only [Rec.c, List.mem_cons, List.not_mem_nil, or_false] at hu
  rcases hu with rfl | rfl | rfl | rfl <;> rfl
def encR (r : Rec) (_ : Unit) : Array Value := #[.agg r.c.toArray]
def AtR (_ : List Nat) (_ : Rec) (_ : Unit) (_ : World) : Prop := True
theorem getD_drop0 (bs : List UInt8) (n j : Nat) : (bs.drop n).getD j 0 = bs.getD (n + j) 0 := by
  rw [List.getD_eq_getElem?_getD, List.getD_eq_getElem?_getD, List.getElem?_drop]
theorem ok_bool (bs : List UInt8) : decide (recB (recAt bs) = (bs.drop 0).take (10 - 0)) = okRec bs := rfl

set_option maxRecDepth 100000 in
theorem records (bv : Value) (bs : List UInt8) (w : World) (hbv : Seen w.cell? bv bs.length 1 (v8s bs))  :
    Calls Try.prog 60 [bv].toArray w (Gives w (fun pb : Nat => .func (.func 65) #[] #[.pointer (some ⟨pb, 0, none⟩)]) (fun pb => [.blk pb 24 [bv]]) (fun _ => [])) := by
  have sbv := hbv.sv
  have lbv := sbv.le
  simp only [maxLen] at lbv
  refine enter (m := 4) (R := Mem w [] [] []) Try.func60 rfl rfl (Nat.le_of_ble_eq_true rfl) (Mem.start w) ?_
  refine wpc_seq ?_
  refine wpc_region ?_
  refine wpl_t (t_box rfl [bv] sbv.cells) rfl (fun b1 => ?_)
  refine wpl_q (q_pure rfl) rfl ?_
  refine wpl_nil ?_
  refine ex_then ?_
  refine wpc_seq ?_
  refine wpc_region ?_
  refine wpl_q (q_fn (us := []) (vs := [.pointer (some ⟨b1, 0, none⟩)]) rfl rfl) rfl ?_
  refine wpl_q (q_pure rfl) rfl ?_
  refine wpl_nil ?_
  refine ex_then ?_
  refine wpc_ret ?_
  refine ret1 (.inl rfl) rfl rfl ?_
  exact fun w h => ⟨b1, rfl, h.below, h.made SubC.h .nil⟩

set_option maxRecDepth 100000 in
theorem recsIter (l : Nat) (pb : Nat) (bv : Value) (bs : List UInt8) (J : List Nat → List Rec → World → Prop) (K : World → Prop) (w : World)  (hst : StabJ J) (hinv : ∀ T pre w1, J T pre w1 → Seen w1.cell? bv bs.length 1 (v8s bs)) (hsk : StabK K) (hy : YieldS Try.prog l encR AtR (recs bs) J K) (hJ0 : J [pb] [] w) (hpb : w.heap[pb]? = some (.cells #[bv] 24 (0, 0))) :
    Calls Try.prog 65 [.func (.yield l) #[] #[], .pointer (some ⟨pb, 0, none⟩)].toArray w (IterPost J K (recs bs)) := by
  refine enter (m := 60) (R := Mem w [pb] [.blk pb 24 [bv]] []) Try.func65 rfl rfl (Nat.le_of_ble_eq_true rfl) (Mem.start1 w hpb) ?_
  refine wpc_block ?_
  refine wpc_loopc (ι := { x : List Rec × Nat × Value × World × List Nat // (x.2.1 ≤ bs.length) ∧ (J x.2.2.2.2 x.1 x.2.2.2.1) ∧ (recs bs = x.1 ++ recs (bs.drop x.2.1)) ∧ ((∀ r : Rd, Seen r bv bs.length 1 (v8s bs) → Seen r x.2.2.1 (bs.drop x.2.1).length 1 (v8s (bs.drop x.2.1)))) }) [(0, _), (1, _)] (fun x Lc => Lc) (fun x => Mem x.1.2.2.2.1 x.1.2.2.2.2 [.blk pb 24 [x.1.2.2.1]] []) (fun x => bs.length - x.1.2.1) ⟨([], 0, bv, w, [pb]), ⟨Nat.zero_le _, hJ0, rfl, fun r h => h⟩⟩ (by repeat (first | exact trivial | refine ⟨rfl, ?_⟩)) ?_ ?_
  ·
   exact fun w h => h
  ·
   rintro ⟨⟨pre, n, u, wb, T⟩, ⟨hi0, hi1, hi2, hi3⟩⟩; try dsimp only
   have hi0 : n ≤ bs.length := hi0; have hi1 : J T pre wb := hi1; have hi2 : recs bs = pre ++ recs (bs.drop n) := hi2; have hi3 : (∀ r : Rd, Seen r bv bs.length 1 (v8s bs) → Seen r u (bs.drop n).length 1 (v8s (bs.drop n))) := hi3
   have hsee : ∀ {M : List Ent} {S : List Fact} {w : World}, Mem wb T M S w → Seen w.cell? u (bs.drop n).length 1 (v8s (bs.drop n)) := fun h => hi3 _ (hinv _ _ _ (hst _ _ _ _ _ hi1 (h.sub .nil .nil) (nums_lt h)))
   have su : SV u (bs.drop n).length := (hi3 _ (hinv _ _ _ hi1)).sv
   have hdl : (bs.drop n).length = bs.length - n := List.length_drop
   refine wpc_seq ?_
   refine wpc_seq ?_
   refine wpc_region ?_
   refine wpl_q (q_ld Try.underlying24 rfl rfl rfl) rfl ?_
   refine wpl_q (q_lenW Try.underlying24 rfl (by first | assumption | exact SV.nil | exact SV.slv (by assumption) (by omega) (by omega) | exact arv_sv (by first | decide | (simp only [maxLen]; omega)))) rfl ?_
   refine wpl_q (q_pure rfl) rfl ?_
   refine wpl_nil ?_
   refine ex_then ?_
   refine wpc_cond rfl (fun hc6 => ?_) (fun hc6 => ?_)
   ·
    simp only [decide_eq_true_eq, ge_iff_le] at hc6
    have hlen : 10 ≤ (bs.drop n).length := by omega
    refine wpc_skip ?_
    refine ex_then ?_
    refine wpc_block ?_
    refine wpc_seq ?_
    refine wpc_draw 40 (by kernel_rfl) (fun _ h => h.drew) ?_
    refine wpd_q 0 rfl (by kernel_rfl) trivial (q_ld Try.underlying24 rfl rfl rfl) rfl (fun _ h => h) ?_
    refine wpd_p 1 rfl (by kernel_rfl) trivial (q_idxW1 (j := 0) Try.underlying24 Try.ti5 rfl rfl (by first | assumption | exact SV.nil | exact SV.slv (by assumption) (by omega) (by omega) | exact arv_sv (by first | decide | (simp only [maxLen]; omega))) (by first | omega | (simp only [maxLen]; omega) | (simp only [List.length_append, List.length_cons, List.length_nil, List.length_take, maxLen]; omega) | (simp only [List.length_append, List.length_cons, List.length_nil, List.length_take]; omega))) rfl sk0 ?_
    refine wpd_q 2 rfl (by kernel_rfl) trivial (q_ldW Try.underlying5 rfl rfl (fun w h => hsee h) (by first | exact v8s_get (by first | decide | omega | exact Nat.zero_lt_one | (simp; omega) | (simp; done) | (simp only [v8s_length, v32s_length, vis_length, vns_length, v64s_length]; omega)) | rfl)) rfl (fun _ h => h) ?_
    refine wpd_q 3 rfl (by kernel_rfl) trivial (q_ld Try.underlying24 rfl rfl rfl) rfl (fun _ h => h) ?_
    refine wpd_p 4 rfl (by kernel_rfl) trivial (q_idxW1 (j := 1) Try.underlying24 Try.ti5 rfl rfl (by first | assumption | exact SV.nil | exact SV.slv (by assumption) (by omega) (by omega) | exact arv_sv (by first | decide | (simp only [maxLen]; omega))) (by first | omega | (simp only [maxLen]; omega) | (simp only [List.length_append, List.length_cons, List.length_nil, List.length_take, maxLen]; omega) | (simp only [List.length_append, List.length_cons, List.length_nil, List.length_take]; omega))) rfl sk0 ?_
    refine wpd_q 5 rfl (by kernel_rfl) trivial (q_ldW Try.underlying5 rfl rfl (fun w h => hsee h) (by first | exact v8s_get (by first | decide | omega | exact Nat.zero_lt_one | (simp; omega) | (simp; done) | (simp only [v8s_length, v32s_length, vis_length, vns_length, v64s_length]; omega)) | rfl)) rfl (fun _ h => h) ?_
    refine wpd_q 6 rfl (by kernel_rfl) trivial (q_ld Try.underlying24 rfl rfl rfl) rfl (fun _ h => h) ?_
    refine wpd_p 7 rfl (by kernel_rfl) trivial (q_idxW1 (j := 2) Try.underlying24 Try.ti5 rfl rfl (by first | assumption | exact SV.nil | exact SV.slv (by assumption) (by omega) (by omega) | exact arv_sv (by first | decide | (simp only [maxLen]; omega))) (by first | omega | (simp only [maxLen]; omega) | (simp only [List.length_append, List.length_cons, List.length_nil, List.length_take, maxLen]; omega) | (simp only [List.length_append, List.length_cons, List.length_nil, List.length_take]; omega))) rfl sk0 ?_
    refine wpd_q 8 rfl (by kernel_rfl) trivial (q_ldW Try.underlying5 rfl rfl (fun w h => hsee h) (by first | exact v8s_get (by first | decide | omega | exact Nat.zero_lt_one | (simp; omega) | (simp; done) | (simp only [v8s_length, v32s_length, vis_length, vns_length, v64s_length]; omega)) | rfl)) rfl (fun _ h => h) ?_
    refine wpd_p 9 rfl (by kernel_rfl) trivial (q16_conv Try.underlying5 Try.underlying87 rfl) rfl sk0 ?_
    refine wpd_p 10 rfl (by kernel_rfl) trivial (q16_shl rfl rfl (by first | decide | omega) 8 rfl) rfl sk0 ?_
    refine wpd_q 11 rfl (by kernel_rfl) trivial (q_ld Try.underlying24 rfl rfl rfl) rfl (fun _ h => h) ?_
    refine wpd_p 12 rfl (by kernel_rfl) trivial (q_idxW1 (j := 3) Try.underlying24 Try.ti5 rfl rfl (by first | assumption | exact SV.nil | exact SV.slv (by assumption) (by omega) (by omega) | exact arv_sv (by first | decide | (simp only [maxLen]; omega))) (by first | omega | (simp only [maxLen]; omega) | (simp only [List.length_append, List.length_cons, List.length_nil, List.length_take, maxLen]; omega) | (simp only [List.length_append, List.length_cons, List.length_nil, List.length_take]; omega))) rfl sk0 ?_
    refine wpd_q 13 rfl (by kernel_rfl) trivial (q_ldW Try.underlying5 rfl rfl (fun w h => hsee h) (by first | exact v8s_get (by first | decide | omega | exact Nat.zero_lt_one | (simp; omega) | (simp; done) | (simp only [v8s_length, v32s_length, vis_length, vns_length, v64s_length]; omega)) | rfl)) rfl (fun _ h => h) ?_
    refine wpd_p 14 rfl (by kernel_rfl) trivial (q16_conv Try.underlying5 Try.underlying87 rfl) rfl sk0 ?_
    refine wpd_p 15 rfl (by kernel_rfl) trivial (q16_or rfl rfl) rfl sk0 ?_
    refine wpd_q 16 rfl (by kernel_rfl) trivial (q_ld Try.underlying24 rfl rfl rfl) rfl (fun _ h => h) ?_
    refine wpd_p 17 rfl (by kernel_rfl) trivial (q_idxW1 (j := 4) Try.underlying24 Try.ti5 rfl rfl (by first | assumption | exact SV.nil | exact SV.slv (by assumption) (by omega) (by omega) | exact arv_sv (by first | decide | (simp only [maxLen]; omega))) (by first | omega | (simp only [maxLen]; omega) | (simp only [List.length_append, List.length_cons, List.length_nil, List.length_take, maxLen]; omega) | (simp only [List.length_append, List.length_cons, List.length_nil, List.length_take]; omega))) rfl sk0 ?_
    refine wpd_q 18 rfl (by kernel_rfl) trivial (q_ldW Try.underlying5 rfl rfl (fun w h => hsee h) (by first | exact v8s_get (by first | decide | omega | exact Nat.zero_lt_one | (simp; omega) | (simp; done) | (simp only [v8s_length, v32s_length, vis_length, vns_length, v64s_length]; omega)) | rfl)) rfl (fun _ h => h) ?_
    refine wpd_p 19 rfl (by kernel_rfl) trivial (q32_conv Try.underlying5 Try.underlying28 rfl) rfl sk0 ?_
    refine wpd_p 20 rfl (by kernel_rfl) trivial (q32_shl rfl rfl (by first | decide | omega) 24 rfl) rfl sk0 ?_
    refine wpd_q 21 rfl (by kernel_rfl) trivial (q_ld Try.underlying24 rfl rfl rfl) rfl (fun _ h => h) ?_
    refine wpd_p 22 rfl (by kernel_rfl) trivial (q_idxW1 (j := 5) Try.underlying24 Try.ti5 rfl rfl (by first | assumption | exact SV.nil | exact SV.slv (by assumption) (by omega) (by omega) | exact arv_sv (by first | decide | (simp only [maxLen]; omega))) (by first | omega | (simp only [maxLen]; omega) | (simp only [List.length_append, List.length_cons, List.length_nil, List.length_take, maxLen]; omega) | (simp only [List.length_append, List.length_cons, List.length_nil, List.length_take]; omega))) rfl sk0 ?_
    refine wpd_q 23 rfl (by kernel_rfl) trivial (q_ldW Try.underlying5 rfl rfl (fun w h => hsee h) (by first | exact v8s_get (by first | decide | omega | exact Nat.zero_lt_one | (simp; omega) | (simp; done) | (simp only [v8s_length, v32s_length, vis_length, vns_length, v64s_length]; omega)) | rfl)) rfl (fun _ h => h) ?_
    refine wpd_p 24 rfl (by kernel_rfl) trivial (q32_conv Try.underlying5 Try.underlying28 rfl) rfl sk0 ?_
    refine wpd_p 25 rfl (by kernel_rfl) trivial (q32_shl rfl rfl (by first | decide | omega) 16 rfl) rfl sk0 ?_
    refine wpd_p 26 rfl (by kernel_rfl) trivial (q32_or rfl rfl) rfl sk0 ?_
    refine wpd_q 27 rfl (by kernel_rfl) trivial (q_ld Try.underlying24 rfl rfl rfl) rfl (fun _ h => h) ?_
    refine wpd_p 28 rfl (by kernel_rfl) trivial (q_idxW1 (j := 6) Try.underlying24 Try.ti5 rfl rfl (by first | assumption | exact SV.nil | exact SV.slv (by assumption) (by omega) (by omega) | exact arv_sv (by first | decide | (simp only [maxLen]; omega))) (by first | omega | (simp only [maxLen]; omega) | (simp only [List.length_append, List.length_cons, List.length_nil, List.length_take, maxLen]; omega) | (simp only [List.length_append, List.length_cons, List.length_nil, List.length_take]; omega))) rfl sk0 ?_
    refine wpd_q 29 rfl (by kernel_rfl) trivial (q_ldW Try.underlying5 rfl rfl (fun w h => hsee h) (by first | exact v8s_get (by first | decide | omega | exact Nat.zero_lt_one | (simp; omega) | (simp; done) | (simp only [v8s_length, v32s_length, vis_length, vns_length, v64s_length]; omega)) | rfl)) rfl (fun _ h => h) ?_
    refine wpd_p 30 rfl (by kernel_rfl) trivial (q32_conv Try.underlying5 Try.underlying28 rfl) rfl sk0 ?_
    refine wpd_p 31 rfl (by kernel_rfl) trivial (q32_shl rfl rfl (by first | decide | omega) 8 rfl) rfl sk0 ?_
    refine wpd_p 32 rfl (by kernel_rfl) trivial (q32_or rfl rfl) rfl sk0 ?_
    refine wpd_q 33 rfl (by kernel_rfl) trivial (q_ld Try.underlying24 rfl rfl rfl) rfl (fun _ h => h) ?_
    refine wpd_p 34 rfl (by kernel_rfl) trivial (q_idxW1 (j := 7) Try.underlying24 Try.ti5 rfl rfl (by first | assumption | exact SV.nil | exact SV.slv (by assumption) (by omega) (by omega) | exact arv_sv (by first | decide | (simp only [maxLen]; omega))) (by first | omega | (simp only [maxLen]; omega) | (simp only [List.length_append, List.length_cons, List.length_nil, List.length_take, maxLen]; omega) | (simp only [List.length_append, List.length_cons, List.length_nil, List.length_take]; omega))) rfl sk0 ?_
    refine wpd_q 35 rfl (by kernel_rfl) trivial (q_ldW Try.underlying5 rfl rfl (fun w h => hsee h) (by first | exact v8s_get (by first | decide | omega | exact Nat.zero_lt_one | (simp; omega) | (simp; done) | (simp only [v8s_length, v32s_length, vis_length, vns_length, v64s_length]; omega)) | rfl)) rfl (fun _ h => h) ?_
    refine wpd_p 36 rfl (by kernel_rfl) trivial (q32_conv Try.underlying5 Try.underlying28 rfl) rfl sk0 ?_
    refine wpd_p 37 rfl (by kernel_rfl) trivial (q32_or rfl rfl) rfl sk0 ?_
    refine wpd_p 38 rfl (by kernel_rfl) trivial (q_build (cs := (recAt (bs.drop n)).c) rfl (built_rec (recAt (bs.drop n)))) rfl sk0 ?_
    refine wpd_t 39 rfl (by kernel_rfl) trivial (t_alloc Try.ti89 _ rfl) rfl (fun _ => (fun w h => .inr (h.sub SubC.h SubC.h))) (fun b3 => ?_)
    refine wpd_t0 40 rfl (by kernel_rfl) trivial (t_stA Try.ti89 rfl rfl (by first | with_reducible rfl | (simp only [v8s_length, v32s_length, vis_length, vns_length, v64s_length, List.length_replicate]; first | done | with_reducible assumption | omega) | (rw [v8s_length]; (first | with_reducible assumption | with_reducible exact shortF_length _ | with_reducible exact stepF_length _ _ _ | with_reducible exact sumF_length _ | with_reducible exact climbF_length _ (by first | with_reducible assumption | with_reducible exact shortF_length _ | with_reducible exact beginF_length _ _ | with_reducible exact getD_mem_len (by assumption) (by omega)) _ _ _ | with_reducible exact beginF_length _ _ | with_reducible exact chainF_length _ _ _ | with_reducible exact recF_length _ _ | with_reducible exact publicF_length _ | with_reducible exact getD_mem_len (by assumption) (by omega) | (with_reducible exact List.length_replicate))) | rfl) (rec_one _) (by first | with_reducible rfl | (simp only [v8s_length, v32s_length, vis_length, vns_length, v64s_length, List.length_replicate]; first | done | with_reducible assumption | omega) | (rw [v8s_length]; (first | with_reducible assumption | with_reducible exact shortF_length _ | with_reducible exact stepF_length _ _ _ | with_reducible exact sumF_length _ | with_reducible exact climbF_length _ (by first | with_reducible assumption | with_reducible exact shortF_length _ | with_reducible exact beginF_length _ _ | with_reducible exact getD_mem_len (by assumption) (by omega)) _ _ _ | with_reducible exact beginF_length _ _ | with_reducible exact chainF_length _ _ _ | with_reducible exact recF_length _ _ | with_reducible exact publicF_length _ | with_reducible exact getD_mem_len (by assumption) (by omega) | (with_reducible exact List.length_replicate))) | rfl)) (fun _ => skk rfl) (fun _ => ?_)
    refine wpd_done (by kernel_rfl) ?_
    refine ex_then ?_
    refine wpc_seq ?_
    refine wpc_seq ?_
    refine wpc_draw_y 9 (by kernel_rfl) (fun _ h => h.drew) ?_
    refine wid_qB 0 [1, 4, 5, 6, 7, 8, 9] rfl (by kernel_rfl) trivial (q_ldN Try.underlying89 rfl Try.ti89 rfl (by first | with_reducible rfl | (simp only [v8s_length, v32s_length, vis_length, vns_length, v64s_length, List.length_replicate]; first | done | with_reducible assumption | omega) | (rw [v8s_length]; (first | with_reducible assumption | with_reducible exact shortF_length _ | with_reducible exact stepF_length _ _ _ | with_reducible exact sumF_length _ | with_reducible exact climbF_length _ (by first | with_reducible assumption | with_reducible exact shortF_length _ | with_reducible exact beginF_length _ _ | with_reducible exact getD_mem_len (by assumption) (by omega)) _ _ _ | with_reducible exact beginF_length _ _ | with_reducible exact chainF_length _ _ _ | with_reducible exact recF_length _ _ | with_reducible exact publicF_length _ | with_reducible exact getD_mem_len (by assumption) (by omega) | (with_reducible exact List.length_replicate))) | rfl)) rfl (fun _ h => h) ?_
    refine wid_qB 2 [3, 4, 5, 6, 7, 8, 9] rfl (by kernel_rfl) trivial (q_ld Try.underlying24 rfl rfl rfl) rfl (fun _ h => h) ?_
    refine wid_p 3 rfl (by kernel_rfl) trivial (q_slWh (k' := 10) Try.underlying24 Try.ti5 rfl rfl (by first | assumption | exact SV.nil | exact SV.slv (by assumption) (by omega) (by omega) | exact arv_sv (by first | decide | (simp only [maxLen]; omega))) (by omega)) rfl sk0 ?_
    refine wid_tp 1 rfl (by kernel_rfl) trivial (t_callP1 Try.hb51 rfl fun w h => recBytes (recAt (bs.drop n)) w) rfl (fun _ => (fun w h => .inr (h.sub SubC.h SubC.h))) (fun b47 p47 => ?_)
    refine wid_t 4 rfl (by kernel_rfl) trivial (t_pur (v := .bool (okRec (bs.drop n))) Try.hb66 rfl fun w h => equalB b47 (recB (recAt (bs.drop n))) (slv u 0 10 1) (((bs.drop n).drop 0).take (10 - 0)) w (h.seenV (m := 10)) (Seen.re8 ((hsee h).slv8 0 10 (by omega) hlen))) rfl (fun _ => (fun w h => .inr (h.sub SubC.h SubC.h))) (fun b50 => ?_)
    refine wid_p 5 rfl (by kernel_rfl) trivial (q_pure rfl) rfl (fun w h => .inr (h.sub SubC.h SubC.h)) ?_
    have hkk := b50
    refine wid_p 6 rfl (by kernel_rfl) trivial (q_pure rfl) rfl (fun w h => .inr (h.sub SubC.h SubC.h)) ?_
    refine wid_bool2 52 51 rfl rfl (fun hb52 => ?_) (fun hb52 => ?_)
    ·
     have hk : okRec (bs.drop n) = false := by simpa using hb52
     have hrb := recs_bad hk
     rw [hrb, List.append_nil] at hi2
     refine wid_off 7 rfl (by kernel_rfl) ⟨_, _, rfl, rfl, rfl⟩ rfl (fun w h => .inr (h.sub SubC.h SubC.h)) ?_
     refine wid_off 8 rfl (by kernel_rfl) ⟨_, _, rfl, rfl, rfl⟩ rfl (fun w h => .inr (h.sub SubC.h SubC.h)) ?_
     refine wid_off1 9 rfl (by kernel_rfl) ⟨_, _, rfl, rfl, rfl⟩ rfl (skk rfl) ?_
     refine wid_off 10 rfl (by kernel_rfl) ⟨_, _, rfl, rfl, rfl⟩ rfl (skk rfl) ?_
     refine wid_p 11 rfl (by kernel_rfl) trivial (q_pure rfl) rfl (skk rfl) ?_
     refine wid_done (by kernel_rfl) ?_
     refine ex_then ?_
     refine wpc_cond_t rfl ?_
     refine wpc_ret ?_
     refine ex_then_ret ?_
     refine ex_block_ret ?_
     refine ex_then_ret ?_
     refine ex_block_ret ?_
     refine ret0 (.inl rfl) rfl ?_
     exact fun w h => iter_done hst (hi2 ▸ hi1) h
    ·
     have hk : okRec (bs.drop n) = true := by simpa using hb52
     have hrc := recs_cons hlen hk
     have hpf : (pre ++ [recAt (bs.drop n)]) <+: recs bs := by rw [hi2, hrc]; exact ⟨recs ((bs.drop n).drop 10), by rw [List.append_assoc]; rfl⟩
     rw [List.drop_drop] at hrc
     have hnx : ∀ r : Rd, Seen r bv bs.length 1 (v8s bs) → Seen r (slv u 10 (bs.drop n).length 1) (bs.drop (n + 10)).length 1 (v8s (bs.drop (n + 10))) := fun r hr => by
       have h2 := (hi3 r hr).slv8 10 (bs.drop n).length hlen (Nat.le_refl _)
       rw [List.take_of_length_le (by rw [List.length_drop]; exact Nat.le_refl _), List.drop_drop] at h2
       exact h2.re8
     refine wid_p 7 rfl (by kernel_rfl) ⟨_, rfl, rfl⟩ (q_pure rfl) rfl (fun w h => .inr (h.sub SubC.h SubC.h)) ?_
     refine wid_q 8 rfl (by kernel_rfl) ⟨_, rfl, rfl⟩ (q_ldN Try.underlying89 rfl Try.ti89 rfl (by first | with_reducible rfl | (simp only [v8s_length, v32s_length, vis_length, vns_length, v64s_length, List.length_replicate]; first | done | with_reducible assumption | omega) | (rw [v8s_length]; (first | with_reducible assumption | with_reducible exact shortF_length _ | with_reducible exact stepF_length _ _ _ | with_reducible exact sumF_length _ | with_reducible exact climbF_length _ (by first | with_reducible assumption | with_reducible exact shortF_length _ | with_reducible exact beginF_length _ _ | with_reducible exact getD_mem_len (by assumption) (by omega)) _ _ _ | with_reducible exact beginF_length _ _ | with_reducible exact chainF_length _ _ _ | with_reducible exact recF_length _ _ | with_reducible exact publicF_length _ | with_reducible exact getD_mem_len (by assumption) (by omega) | (with_reducible exact List.length_replicate))) | rfl)) rfl (fun w h => h.sub SubC.h SubC.h) ?_
     refine wid_yieldS 9 (recAt (bs.drop n)) (()) rfl (by kernel_rfl) ⟨_, rfl, rfl⟩ rfl rfl hst hy hi1 hpf rfl (fun _ _ => trivial) rfl rfl ?_ ?_
     ·
      intro u55 hu55
      refine wid_p 10 rfl (by kernel_rfl) ⟨_, rfl, rfl⟩ (q_pure rfl) rfl (skk rfl) ?_
      refine wid_p 11 rfl (by kernel_rfl) trivial (q_pure rfl) rfl (skk rfl) ?_
      refine wid_done (by kernel_rfl) ?_
      refine ex_then ?_
      refine wpc_cond_f rfl ?_
      refine wpc_skip ?_
      refine ex_then ?_
      refine wpc_region ?_
      refine wpl_q (q_ld Try.underlying24 rfl rfl rfl) rfl ?_
      refine wpl_q (q_slWl (l' := 10) Try.underlying24 Try.ti5 rfl rfl (by first | assumption | exact SV.nil | exact SV.slv (by assumption) (by omega) (by omega) | exact arv_sv (by first | decide | (simp only [maxLen]; omega))) (by omega)) rfl ?_
      refine wpl_t0 (t_st1 Try.ti24 rfl rfl (SV.one (by first | assumption | exact SV.nil | exact SV.slv (by assumption) (by omega) (by omega) | exact arv_sv (by first | decide | (simp only [maxLen]; omega)))) (by first | decide | omega | exact Nat.zero_lt_one | (simp; omega) | (simp; done) | (simp only [v8s_length, v32s_length, vis_length, vns_length, v64s_length]; omega)) _ rfl) (fun _ => ?_)
      refine wpl_nil ?_
      refine ex_block ?_
      refine ex_again ⟨(pre ++ [recAt (bs.drop n)], n + 10, slv u 10 (bs.drop n).length 1, u55, nums (.row b47 10 5 1 (v8s (recB (recAt (bs.drop n)))) :: [.blk b3 89 (recAt (bs.drop n)).c, .blk pb 24 [u]])), ⟨by show n + 10 ≤ bs.length; omega, hu55, by rw [hi2, hrc, List.append_assoc]; rfl, hnx⟩⟩ ?_ ?_ ?_
      ·
       exact (by repeat (first | exact trivial | refine ⟨rfl, ?_⟩))
      ·
       exact fun w h => by first | exact h | exact h.sub SubC.h SubC.h | exact h.sub (by repeat (first | exact Sub.nil | exact Sub.refl _ | with_reducible refine Sub.keep ?_ | refine Sub.drop ?_)) (by repeat (first | exact Sub.nil | exact Sub.refl _ | with_reducible refine Sub.keep ?_ | refine Sub.drop ?_))
      ·
       (show bs.length - (n + 10) < bs.length - n); omega
     ·
      intro u55 hu55
      refine wid_p 10 rfl (by kernel_rfl) ⟨_, rfl, rfl⟩ (q_pure rfl) rfl (skk rfl) ?_
      refine wid_p 11 rfl (by kernel_rfl) trivial (q_pure rfl) rfl (skk rfl) ?_
      refine wid_done (by kernel_rfl) ?_
      refine ex_then ?_
      refine wpc_cond_t rfl ?_
      refine wpc_ret ?_
      refine ex_then_ret ?_
      refine ex_block_ret ?_
      refine ex_then_ret ?_
      refine ex_block_ret ?_
      refine ret0 (.inl rfl) rfl ?_
      exact fun w h => iter_stop hsk hu55 h
   ·
    simp only [decide_eq_false_iff_not, ge_iff_le] at hc6
    have hrs := recs_short (bs := (bs.drop n)) (by omega)
    rw [hrs, List.append_nil] at hi2
    rw [← hi2] at hi1
    refine wpc_exit ?_
    refine ex_then_exit ?_
    refine ex_then_exit ?_
    refine ex_block_hit ?_
    refine ret0 (.inr rfl) rfl ?_
    exact fun w h => iter_done hst (hi2 ▸ hi1) h

end Go.Proofs.Ytoaeklbenmlooaa
