/- Scan. -/
import Derived.Test.YtoaeklbenmlooaaKD
namespace Go.Proofs.Ytoaeklbenmlooaa
set_option linter.unusedSimpArgs false
set_option linter.unusedVariables false
open Go Go.PL Go.RowKit

def accK (rs : List Rec) : Option (List KE) := rs.foldl (fun o r => o.bind fun ks => readF ks r) (some [])
theorem accK_snoc {pre : List Rec} {ks : List KE} (h : accK pre = some ks) (r : Rec) : accK (pre ++ [r]) = readF ks r := by
  unfold accK at *
  rw [List.foldl_append, h]; rfl
theorem scan_splitG : ∀ (pre : List Rec) (k0 ks : List KE) (rs : List Rec), pre.foldl (fun o r => o.bind fun ks => readF ks r) (some k0) = some ks → scanF k0 (pre ++ rs) = ((scanF ks rs).1, (scanF ks rs).2 + 10 * pre.length)
  | [], k0, ks, rs, h => by cases h; rfl
  | r :: pre, k0, ks, rs, h => by
    rw [List.foldl_cons] at h
    rw [List.cons_append, scanF]
    cases hr : readF k0 r with
    | none =>
      rw [show (some k0).bind (fun ks => readF ks r) = none from hr] at h
      have : ∀ l : List Rec, l.foldl (fun o r => o.bind fun ks => readF ks r) (none : Option (List KE)) = none := fun l => by induction l with
        | nil => rfl
        | cons a l ih => exact ih
      rw [this] at h; cases h
    | some k' =>
      rw [show (some k0).bind (fun ks => readF ks r) = some k' from hr] at h
      have h1 := scan_splitG pre k' ks rs h
      dsimp only
      rw [h1, List.length_cons]
      simp only [Prod.mk.injEq, true_and]; omega
theorem scan_split {pre : List Rec} {ks : List KE} (h : accK pre = some ks) (rs : List Rec) : scanF [] (pre ++ rs) = ((scanF ks rs).1, (scanF ks rs).2 + 10 * pre.length) := scan_splitG pre [] ks rs h
theorem scan_all {bs : List UInt8} {ks : List KE} (h : accK (recs bs) = some ks) : scanR bs = (ks, 10 * (recs bs).length) := by
  have := scan_split h []
  rw [List.append_nil, scanF] at this
  rw [scanR, this]; simp
theorem scan_stop {bs : List UInt8} {pre : List Rec} {x : Rec} {ks : List KE} (h : accK pre = some ks) (hn : readF ks x = none) (hp : (pre ++ [x]) <+: recs bs) : scanR bs = (ks, 10 * pre.length) := by
  obtain ⟨t, ht⟩ := hp
  rw [List.append_assoc] at ht
  rw [scanR, ← ht, scan_split h, List.singleton_append, scanF, hn]; simp
theorem accK_okG : ∀ (pre : List Rec) (k0 ks : List KE), KOk k0 → pre.foldl (fun o r => o.bind fun ks => readF ks r) (some k0) = some ks → KOk ks
  | [], k0, ks, h0, h => by cases h; exact h0
  | r :: pre, k0, ks, h0, h => by
    rw [List.foldl_cons] at h
    cases hr : readF k0 r with
    | none =>
      rw [show (some k0).bind (fun ks => readF ks r) = none from hr] at h
      have : ∀ l : List Rec, l.foldl (fun o r => o.bind fun ks => readF ks r) (none : Option (List KE)) = none := fun l => by induction l with
        | nil => rfl
        | cons a l ih => exact ih
      rw [this] at h; cases h
    | some k' =>
      rw [show (some k0).bind (fun ks => readF ks r) = some k' from hr] at h
      exact accK_okG pre k' ks (h0.read hr) h
theorem accK_ok {pre : List Rec} {ks : List KE} (h : accK pre = some ks) : KOk ks := accK_okG pre [] ks KOk.nil h
theorem recs_it (bv : Value) (bs : List UInt8) (pb : Nat) (w : World) (hpb : w.heap[pb]? = some (.cells #[bv] 24 (0, 0))) : IterStop Try.prog 65 #[.pointer (some ⟨pb, 0, none⟩)] encR AtR (fun w => Seen w.cell? bv bs.length 1 (v8s bs)) (recs bs) [pb] w :=
  fun l J K hst hinv hsk hy hJ0 => recsIter l pb bv bs J K w hst hinv hsk hy hJ0 hpb

abbrev scM (b3 b2 : Nat) (s : Value × List KE × Nat) : List Ent := [.blk b3 3 [.int .i64 ((s.2.2 : Nat) : Int)], .blk b2 25 [s.1], kRow s.1 s.2.1]
theorem sc_start {w0 w : World} {b8 b3 b2 : Nat} {bv : Value} (h : Mem w0 [] [.blk b8 24 [bv], .blk b3 3 [.int .i64 0], .blk b2 25 [.slice none 0 0]] [] w) : Mem w0 [] ([.blk b8 24 [bv]] ++ scM b3 b2 (.slice none 0 0, [], 0)) [] w :=
  (h.nilRow 66 6).perm (List.perm_append_comm (l₁ := [kRow (.slice none 0 0) []]) (l₂ := [.blk b8 24 [bv], .blk b3 3 [.int .i64 0], .blk b2 25 [.slice none 0 0]]))
def scG (pre : List Rec) (s : Value × List KE × Nat) : Prop := SV s.1 s.2.1.length ∧ accK pre = some s.2.1 ∧ s.2.2 = 10 * pre.length

set_option maxRecDepth 100000 in
theorem scan (bv : Value) (bs : List UInt8) (w : World) (hbv : Seen w.cell? bv bs.length 1 (v8s bs))  :
    Calls Try.prog 42 [bv].toArray w (GivesP w (fun v => SV v (scanR bs).1.length) (fun v => .tuple #[v, .int .i64 (((scanR bs).2 : Nat) : Int)]) (fun v => [kRow v (scanR bs).1]) (fun _ => [])) := by
  have sbv := hbv.sv
  have lbv := sbv.le
  simp only [maxLen] at lbv
  refine enterN (m := 23) (R := Mem w [] [] []) Try.func42 rfl rfl (Nat.le_of_ble_eq_true rfl) (Mem.start w) ?_
  refine wpc_seq ?_
  refine wpc_region ?_
  refine wpl_t (t_alloc Try.ti25 _ rfl) rfl (fun b2 => ?_)
  refine wpl_t (t_alloc Try.ti3 _ rfl) rfl (fun b3 => ?_)
  refine wpl_nil ?_
  refine ex_then ?_
  refine wpc_seq ?_
  refine wpc_seq ?_
  refine wpc_region ?_
  refine wpl_q (q_pure rfl) rfl ?_
  refine wpl_t (t_call (N := fun pb => [.blk pb 24 [bv]]) (T := fun _ => []) Try.hb60 rfl fun w h => records bv bs w (by first | exact Seen.re8 h.seenV | exact h.seenV | exact h.seenA (by first | decide | (simp only [maxLen]; omega)) (by first | with_reducible rfl | (simp only [v8s_length, v32s_length, vis_length, vns_length, v64s_length, List.length_replicate]; first | done | with_reducible assumption | omega) | (rw [v8s_length]; (first | with_reducible assumption | with_reducible exact shortF_length _ | with_reducible exact stepF_length _ _ _ | with_reducible exact sumF_length _ | with_reducible exact climbF_length _ (by first | with_reducible assumption | with_reducible exact shortF_length _ | with_reducible exact beginF_length _ _ | with_reducible exact getD_mem_len (by assumption) (by omega)) _ _ _ | with_reducible exact beginF_length _ _ | with_reducible exact chainF_length _ _ _ | with_reducible exact recF_length _ _ | with_reducible exact publicF_length _ | with_reducible exact getD_mem_len (by assumption) (by omega) | (with_reducible exact List.length_replicate))) | rfl) | exact h.seen_old (by assumption) | exact h.seen_oldL (by assumption) (by assumption) | exact h.seen_old hs.d | exact h.seen_old hs.p | exact h.seen_old hs.k | exact Seen.re8 (h.seen_fact (by repeat (first | exact List.mem_cons_self .. | apply List.mem_cons_of_mem))) | exact h.seen_fact (by repeat (first | exact List.mem_cons_self .. | apply List.mem_cons_of_mem)))) rfl (fun b8 => ?_)
  refine wpl_nil ?_
  refine ex_then ?_
  refine wpc_block ?_
  refine wpc_mono (R' := Mem w [] ([.blk b8 24 [bv]] ++ scM b3 b2 (.slice none 0 0, [], 0)) []) (fun w h => sc_start h) ?_
  refine wpc_rangeS (encs := encR) (At := AtR) (Inv := (fun w => Seen w.cell? bv bs.length 1 (v8s bs))) (xs := recs bs) (ρ := Value × List KE × Nat) (β := Nat) [.blk b8 24 [bv]] (scM b3 b2) scG (.slice none 0 0, [], 0) (fun r => SV r.1 r.2.1.length ∧ scanR bs = (r.2.1, r.2.2)) (fun _ => .exit 0) (scM b3 b2) (fun x _ b => [.blk b 89 x.c]) (fun x i b => [(4, .pointer (some ⟨b, 0, none⟩)), (2, .pointer (some ⟨b2, 0, none⟩)), (3, .pointer (some ⟨b3, 0, none⟩))]) rfl Try.hb65 ⟨SV.nil, rfl, rfl⟩ (fun w h k hk => by rw [show k = b8 by simpa [nums, Ent.num] using hk]; exact (h.new (.blk b8 24 [bv]) (by simp) b8 rfl).resolve_right (by simp)) (fun w h => recs_it bv bs b8 w (h.own (.blk b8 24 [bv]) (by simp))) (fun _ _ _ _ h => h.seen_old hbv) (fun _ _ _ _ _ _ _ => trivial) (fun _ _ => rfl) (by decide) ?_ ?_ ?_ ?_
  ·
   intro l x i w1 K hK
   refine wic_region ?_
   refine wil_t (t_alloc Try.ti89 _ rfl) rfl (fun b4 => ?_)
   refine wil_t0 (t_stA Try.ti89 rfl rfl (by first | with_reducible rfl | (simp only [v8s_length, v32s_length, vis_length, vns_length, v64s_length, List.length_replicate]; first | done | with_reducible assumption | omega) | (rw [v8s_length]; (first | with_reducible assumption | with_reducible exact shortF_length _ | with_reducible exact stepF_length _ _ _ | with_reducible exact sumF_length _ | with_reducible exact climbF_length _ (by first | with_reducible assumption | with_reducible exact shortF_length _ | with_reducible exact beginF_length _ _ | with_reducible exact getD_mem_len (by assumption) (by omega)) _ _ _ | with_reducible exact beginF_length _ _ | with_reducible exact chainF_length _ _ _ | with_reducible exact recF_length _ _ | with_reducible exact publicF_length _ | with_reducible exact getD_mem_len (by assumption) (by omega) | (with_reducible exact List.length_replicate))) | rfl) (rec_one _) (by first | with_reducible rfl | (simp only [v8s_length, v32s_length, vis_length, vns_length, v64s_length, List.length_replicate]; first | done | with_reducible assumption | omega) | (rw [v8s_length]; (first | with_reducible assumption | with_reducible exact shortF_length _ | with_reducible exact stepF_length _ _ _ | with_reducible exact sumF_length _ | with_reducible exact climbF_length _ (by first | with_reducible assumption | with_reducible exact shortF_length _ | with_reducible exact beginF_length _ _ | with_reducible exact getD_mem_len (by assumption) (by omega)) _ _ _ | with_reducible exact beginF_length _ _ | with_reducible exact chainF_length _ _ _ | with_reducible exact recF_length _ _ | with_reducible exact publicF_length _ | with_reducible exact getD_mem_len (by assumption) (by omega) | (with_reducible exact List.length_replicate))) | rfl)) (fun _ => ?_)
   refine wil_nil ?_
   exact fun a w hs h => hK b4 a w (hs.weaken (subs_get (by repeat (first | exact trivial | refine ⟨rfl, ?_⟩)))) h
  ·
   intro l pre x i s b w1 T hgs hpre hm hat hT
   obtain ⟨v, ks, m⟩ := s
   obtain ⟨hg1, hg2, hg3⟩ := hgs
   have hg1 : SV v ks.length := hg1
   have hg2 : accK pre = some ks := hg2
   have hg3 : m = 10 * pre.length := hg3
   have hko := accK_ok hg2
   have hrl := recs_le bs.length bs
   have hpl : (pre ++ [x]).length ≤ (recs bs).length := hpre.length_le
   rw [List.length_append, List.length_singleton] at hpl
   have hrl : 10 * (recs bs).length ≤ bs.length := hrl
   show WPCI _ _ _ _ (Mem w1 (nums [.blk b 89 x.c, .blk b3 3 [.int .i64 ((m : Nat) : Int)], .blk b2 25 [v], kRow v ks]) [.blk b 89 x.c, .blk b3 3 [.int .i64 ((m : Nat) : Int)], .blk b2 25 [v], kRow v ks] []) _ _
   refine wic_block ?_
   refine wic_seq ?_
   refine wic_region ?_
   refine wil_q (q_ld Try.underlying25 rfl rfl rfl) rfl ?_
   refine wil_q (q_ldN Try.underlying89 rfl Try.ti89 rfl (by first | with_reducible rfl | (simp only [v8s_length, v32s_length, vis_length, vns_length, v64s_length, List.length_replicate]; first | done | with_reducible assumption | omega) | (rw [v8s_length]; (first | with_reducible assumption | with_reducible exact shortF_length _ | with_reducible exact stepF_length _ _ _ | with_reducible exact sumF_length _ | with_reducible exact climbF_length _ (by first | with_reducible assumption | with_reducible exact shortF_length _ | with_reducible exact beginF_length _ _ | with_reducible exact getD_mem_len (by assumption) (by omega)) _ _ _ | with_reducible exact beginF_length _ _ | with_reducible exact chainF_length _ _ _ | with_reducible exact recF_length _ _ | with_reducible exact publicF_length _ | with_reducible exact getD_mem_len (by assumption) (by omega) | (with_reducible exact List.length_replicate))) | rfl)) rfl ?_
   refine wil_tp (t_callS [.blk b 89 x.c, .blk b3 3 [.int .i64 ((m : Nat) : Int)], .blk b2 25 [v]] [kRow v ks] (fun v2 => [.blk b 89 x.c, .blk b3 3 [.int .i64 ((m : Nat) : Int)], .blk b2 25 [v], kRow v2 (readK ks x)]) rfl (fun _ => rfl) Try.hb61 rfl fun w2 h h2 => read_ v ks x w2 h2 hg1 hko) rfl (fun b13 p13 => ?_)
   refine wil_q (q_pure rfl) rfl ?_
   refine wil_q (q_pure rfl) rfl ?_
   refine wil_q (q_pure rfl) rfl ?_
   refine wil_q (q_pure rfl) rfl ?_
   refine wil_q (q_pure rfl) rfl ?_
   refine wil_nil ?_
   refine eix_then ?_
   refine wic_seq ?_
   refine wic_seq ?_
   refine wic_region ?_
   refine wil_q (q_pure rfl) rfl ?_
   refine wil_q (q_pure rfl) rfl ?_
   refine wil_nil ?_
   refine eix_then ?_
   refine wic_cond rfl (fun hc17 => ?_) (fun hc17 => ?_)
   ·
    have hnn : readF ks x = none := by simpa using hc17
    obtain rfl := p13.2 hnn
    have hkk : readK ks x = ks := by rw [readK, hnn]; rfl
    rw [hkk]
    refine wic_exit ?_
    refine ex_then_exit ?_
    refine ex_block_miss rfl ?_
    refine ex_roundE ?_
    exact fun w h => ⟨(b13, ks, m), ⟨hg1, by rw [hg3]; exact scan_stop hg2 hnn hpre⟩, rfl, h.sub (by repeat (first | exact Sub.nil | exact Sub.refl _ | with_reducible refine Sub.keep ?_ | refine Sub.drop ?_)) .nil⟩
   ·
    obtain ⟨k', hk'⟩ : ∃ k', readF ks x = some k' := Option.isSome_iff_exists.1 (by simpa using hc17)
    have hsm : readF ks x = some (readK ks x) := by rw [readK, hk']; rfl
    refine wic_skip ?_
    refine eix_then ?_
    refine wic_drawM [.blk b3 3 [.int .i64 ((m : Nat) : Int)]] 4 (by kernel_rfl) (by repeat (first | exact Sub.nil | exact Sub.refl _ | with_reducible refine Sub.keep ?_ | refine Sub.drop ?_)) ?_
    refine wid_p 0 rfl (by kernel_rfl) trivial (q_pure rfl) rfl (fun w h => .inr (h.sub SubC.h SubC.h)) ?_
    refine wid_q 1 rfl (by kernel_rfl) trivial (q_ld Try.underlying3 rfl rfl (by first | exact vns_get (by first | decide | omega | exact Nat.zero_lt_one | (simp; omega) | (simp; done) | (simp only [v8s_length, v32s_length, vis_length, vns_length, v64s_length]; omega)) | rfl)) rfl (fun w h => h.sub SubC.h SubC.h) ?_
    refine wid_p 2 rfl (by kernel_rfl) trivial (q_addN (b := 10) rfl rfl (by first | omega | (simp only [maxLen]; omega) | (simp only [List.length_append, List.length_cons, List.length_nil, List.length_take, maxLen]; omega) | (simp only [List.length_append, List.length_cons, List.length_nil, List.length_take]; omega))) rfl (fun w h => .inr (h.sub SubC.h SubC.h)) ?_
    refine wid_t0 3 rfl (by kernel_rfl) trivial (t_st1 Try.ti25 rfl rfl (SV.one (show SV b13 _ from p13.1)) (by first | decide | omega | exact Nat.zero_lt_one | (simp; omega) | (simp; done) | (simp only [v8s_length, v32s_length, vis_length, vns_length, v64s_length]; omega)) _ rfl) (fun _ => (fun w h => .inr (h.sub SubC.h SubC.h))) (fun _ => ?_)
    refine wid_t0 4 rfl (by kernel_rfl) trivial (t_st1 Try.ti3 rfl rfl rfl (by first | decide | omega | exact Nat.zero_lt_one | (simp; omega) | (simp; done) | (simp only [v8s_length, v32s_length, vis_length, vns_length, v64s_length]; omega)) _ (by first | exact vns_set _ | rfl)) (fun _ => skk rfl) (fun _ => ?_)
    refine wid_done (by kernel_rfl) ?_
    refine ex_block ?_
    refine ex_roundN ?_
    exact fun w h => ⟨(b13, readK ks x, m + 10), ⟨p13.1, by rw [accK_snoc hg2, hsm], by show m + 10 = 10 * (pre ++ [x]).length; rw [List.length_append, List.length_singleton]; omega⟩, h.sub (by repeat (first | exact Sub.nil | exact Sub.refl _ | with_reducible refine Sub.keep ?_ | refine Sub.drop ?_)) .nil⟩
  ·
   intro D s hgs
   obtain ⟨v, ks, m⟩ := s
   obtain ⟨hg1, hg2, hg3⟩ := hgs
   have hg1 : SV v ks.length := hg1
   have hg2 : accK (recs bs) = some ks := hg2
   have hg3 : m = 10 * (recs bs).length := hg3
   have hsc : scanR bs = (ks, m) := by rw [hg3]; exact scan_all hg2
   refine ex_weaken (R1 := Mem w [] [.obj D (.deferred (some [])), .blk b3 3 [.int .i64 ((m : Nat) : Int)], .blk b2 25 [v], kRow v ks] []) (L1 := [(2, .pointer (some ⟨b2, 0, none⟩)), (3, .pointer (some ⟨b3, 0, none⟩))]) (by repeat (first | exact trivial | refine ⟨rfl, ?_⟩)) (fun w h => h) ?_
   refine ex_block ?_
   refine ex_then ?_
   refine wpc_seq ?_
   refine wpc_draw 3 (by kernel_rfl) (fun _ h => h.drew) ?_
   refine wpd_q 0 rfl (by kernel_rfl) trivial (q_ld Try.underlying25 rfl rfl rfl) rfl (fun _ h => h) ?_
   refine wpd_q 1 rfl (by kernel_rfl) trivial (q_ld Try.underlying3 rfl rfl (by first | exact vns_get (by first | decide | omega | exact Nat.zero_lt_one | (simp; omega) | (simp; done) | (simp only [v8s_length, v32s_length, vis_length, vns_length, v64s_length]; omega)) | rfl)) rfl (fun _ h => h) ?_
   refine wpd_t0 2 rfl (by kernel_rfl) trivial (t_st1 Try.ti25 rfl rfl (SV.one hg1) (by first | decide | omega | exact Nat.zero_lt_one | (simp; omega) | (simp; done) | (simp only [v8s_length, v32s_length, vis_length, vns_length, v64s_length]; omega)) [v] rfl) (fun _ => (fun w h => .inr (h.sub SubC.h SubC.h))) (fun _ => ?_)
   refine wpd_t0 3 rfl (by kernel_rfl) trivial (t_st1 Try.ti3 rfl rfl rfl (by first | decide | omega | exact Nat.zero_lt_one | (simp; omega) | (simp; done) | (simp only [v8s_length, v32s_length, vis_length, vns_length, v64s_length]; omega)) [.int .i64 ((m : Nat) : Int)] rfl) (fun _ => skk rfl) (fun _ => ?_)
   refine wpd_done (by kernel_rfl) ?_
   refine ex_then ?_
   refine wpc_ret ?_
   refine ex_markN (.inl rfl) .here ?_
   refine retv2 (.inl rfl) rfl (rv_one Try.underlying25 rfl rfl (fun w h => h.cell_blk (by repeat (first | exact List.mem_cons_self .. | apply List.mem_cons_of_mem)) rfl)) (rv_one Try.underlying3 rfl rfl (fun w h => h.cell_blk (by repeat (first | exact List.mem_cons_self .. | apply List.mem_cons_of_mem)) rfl)) ?_
   exact fun w h => ⟨v, by rw [hsc]; exact hg1, by rw [hsc], h.below, by rw [hsc]; exact h.made SubC.h .nil⟩
  ·
   intro D r hr
   obtain ⟨v, ks, m⟩ := r
   obtain ⟨hg1, hsc⟩ := hr
   have hg1 : SV v ks.length := hg1
   have hsc : scanR bs = (ks, m) := hsc
   refine wpc_weaken (R1 := Mem w [] [.obj D (.deferred (some [])), .blk b3 3 [.int .i64 ((m : Nat) : Int)], .blk b2 25 [v], kRow v ks] []) (L1 := [(2, .pointer (some ⟨b2, 0, none⟩)), (3, .pointer (some ⟨b3, 0, none⟩))]) (by repeat (first | exact trivial | refine ⟨rfl, ?_⟩)) (fun w h => h) ?_
   refine wpc_exit ?_
   refine ex_block_hit ?_
   refine ex_then ?_
   refine wpc_seq ?_
   refine wpc_draw 3 (by kernel_rfl) (fun _ h => h.drew) ?_
   refine wpd_q 0 rfl (by kernel_rfl) trivial (q_ld Try.underlying25 rfl rfl rfl) rfl (fun _ h => h) ?_
   refine wpd_q 1 rfl (by kernel_rfl) trivial (q_ld Try.underlying3 rfl rfl (by first | exact vns_get (by first | decide | omega | exact Nat.zero_lt_one | (simp; omega) | (simp; done) | (simp only [v8s_length, v32s_length, vis_length, vns_length, v64s_length]; omega)) | rfl)) rfl (fun _ h => h) ?_
   refine wpd_t0 2 rfl (by kernel_rfl) trivial (t_st1 Try.ti25 rfl rfl (SV.one hg1) (by first | decide | omega | exact Nat.zero_lt_one | (simp; omega) | (simp; done) | (simp only [v8s_length, v32s_length, vis_length, vns_length, v64s_length]; omega)) [v] rfl) (fun _ => (fun w h => .inr (h.sub SubC.h SubC.h))) (fun _ => ?_)
   refine wpd_t0 3 rfl (by kernel_rfl) trivial (t_st1 Try.ti3 rfl rfl rfl (by first | decide | omega | exact Nat.zero_lt_one | (simp; omega) | (simp; done) | (simp only [v8s_length, v32s_length, vis_length, vns_length, v64s_length]; omega)) [.int .i64 ((m : Nat) : Int)] rfl) (fun _ => skk rfl) (fun _ => ?_)
   refine wpd_done (by kernel_rfl) ?_
   refine ex_then ?_
   refine wpc_ret ?_
   refine ex_markN (.inl rfl) .here ?_
   refine retv2 (.inl rfl) rfl (rv_one Try.underlying25 rfl rfl (fun w h => h.cell_blk (by repeat (first | exact List.mem_cons_self .. | apply List.mem_cons_of_mem)) rfl)) (rv_one Try.underlying3 rfl rfl (fun w h => h.cell_blk (by repeat (first | exact List.mem_cons_self .. | apply List.mem_cons_of_mem)) rfl)) ?_
   exact fun w h => ⟨v, by rw [hsc]; exact hg1, by rw [hsc], h.below, by rw [hsc]; exact h.made SubC.h .nil⟩

end Go.Proofs.Ytoaeklbenmlooaa
