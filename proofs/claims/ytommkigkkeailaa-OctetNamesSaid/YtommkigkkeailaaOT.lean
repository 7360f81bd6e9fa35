/- The check. -/
import Derived.Test.YtommkigkkeailaaOR
namespace Go.Proofs.Ytommkigkkeailaa
set_option linter.unusedSimpArgs false
set_option linter.unusedVariables false
open Go Go.PL Go.RowKit

def okN : HT → Bool | .nd g _ bs _ l => !badT g bs.length l.length
def okY (y : HT × Nat) : Bool := okN y.1
mutual
theorem ord_len : ∀ (t : HT) (d : Nat), (ord t d).length = t.tr.cnt
  | .nd g v bs u l, d => by rw [ord, List.length_cons, ordL_len l (d + 1)]; show _ = 1 + cntL (trs l); omega
theorem ordL_len : ∀ (l : List HT) (d : Nat), (ordL l d).length = cntL (trs l)
  | [], _ => rfl
  | x :: l, d => by rw [ordL, List.length_append, ord_len x d, ordL_len l d]; rfl
end
mutual
theorem ord_all : ∀ (t : HT) (d : Nat), (ord t d).all okY = t.tr.shp
  | .nd g v bs u l, d => by
    rw [ord, List.all_cons, ordL_all l (d + 1)]
    show (!badT g bs.length l.length && _) = (!badT g bs.length (trs l).length && _)
    rw [trs_length]
theorem ordL_all : ∀ (l : List HT) (d : Nat), (ordL l d).all okY = shpL (trs l)
  | [], _ => rfl
  | x :: l, d => by rw [ordL, List.all_append, ord_all x d, ordL_all l d]; rfl
end
mutual
theorem ord_le : ∀ (t : HT) (d : Nat), ∀ y ∈ ord t d, y.2 + 1 ≤ d + t.tr.dep
  | .nd g v bs u l, d => by
    intro y hy
    rw [ord] at hy
    show y.2 + 1 ≤ d + (depL (trs l) + 1)
    rcases List.mem_cons.1 hy with rfl | hy
    · show d + 1 ≤ _; omega
    · have := ordL_le l (d + 1) y hy; omega
theorem ordL_le : ∀ (l : List HT) (d : Nat), ∀ y ∈ ordL l d, y.2 + 1 ≤ d + depL (trs l)
  | [], _ => by intro y hy; cases hy
  | x :: l, d => by
    intro y hy
    rw [ordL, List.mem_append] at hy
    show y.2 + 1 ≤ d + max x.tr.dep (depL (trs l))
    rcases hy with hy | hy
    · have := ord_le x d y hy; omega
    · have := ordL_le l d y hy; omega
end
mutual
theorem ord_max : ∀ (t : HT) (d N : Nat), (∀ y ∈ ord t d, y.2 ≤ N) → d + t.tr.dep ≤ N + 1
  | .nd g v bs u l, d, N => by
    intro h
    rw [ord] at h
    have h1 : d ≤ N := h _ (List.mem_cons_self ..)
    have h2 := ordL_max l (d + 1) N (by omega) fun y hy => h y (List.mem_cons_of_mem _ hy)
    show d + (depL (trs l) + 1) ≤ _
    omega
theorem ordL_max : ∀ (l : List HT) (d N : Nat), d ≤ N + 1 → (∀ y ∈ ordL l d, y.2 ≤ N) → d + depL (trs l) ≤ N + 1
  | [], d, N => by intro h _; show d + 0 ≤ _; omega
  | x :: l, d, N => by
    intro h0 h
    rw [ordL] at h
    have h1 := ord_max x d N fun y hy => h y (List.mem_append_left _ hy)
    have h2 := ordL_max l d N h0 fun y hy => h y (List.mem_append_right _ hy)
    show d + max x.tr.dep (depL (trs l)) ≤ _
    omega
end
theorem okv (g : UInt8) (v : Value) (cs : List UInt8) (u : Value) (l : List HT) : okN (.nd g v cs u l) = (decide (g.toNat ≠ 0) && (decide (128 ≤ g.toNat) || decide (l.length = 0)) && (decide (g.toNat < 128) || decide (cs.length = 0))) := by
  have e0 : decide (g = 0) = decide (g.toNat = 0) := by rw [decide_eq_decide]; exact ⟨fun h => by rw [h]; rfl, fun h => UInt8.toNat_inj.1 h⟩
  have e1 : decide (g < 128) = decide (g.toNat < 128) := decide_eq_decide.2 Iff.rfl
  have e2 : decide (128 ≤ g) = decide (128 ≤ g.toNat) := decide_eq_decide.2 Iff.rfl
  show (!(decide (g = 0) || decide (g < 128) && decide (0 < l.length) || decide (128 ≤ g) && decide (0 < cs.length))) = _
  rw [e0, e1, e2]
  rw [Bool.eq_iff_iff]
  simp only [Bool.not_eq_true', Bool.or_eq_false_iff, Bool.and_eq_false_iff, decide_eq_false_iff_not, Bool.and_eq_true, Bool.or_eq_true, decide_eq_true_eq, ne_eq]
  omega
def gC (pre : List (HT × Nat)) (s : Nat × Bool) : Prop := s.1 = pre.length ∧ pre.length ≤ 4000 ∧ (∀ y ∈ pre, y.2 ≤ 12) ∧ s.2 = pre.all okY
theorem gC_stop {t : HT} {pre : List (HT × Nat)} {x : HT × Nat} (hp : (pre ++ [x]) <+: ord t 1) (h : 4000 < pre.length + 1 ∨ 12 < x.2) : checkF t.tr = 4 := by
  have h1 := hp.length_le
  rw [ord_len, List.length_append, List.length_singleton] at h1
  have h2 := ord_le t 1 x (hp.subset (List.mem_append_right _ (List.mem_singleton.2 rfl)))
  rw [checkF, if_pos (by omega)]
theorem gC_next {pre : List (HT × Nat)} {n : Nat} {ok : Bool} {x : HT × Nat} (h : gC pre (n, ok)) (h1 : ¬ 4000 < pre.length + 1) (h2 : ¬ 12 < x.2) : gC (pre ++ [x]) (n + 1, ok && okY x) := by
  obtain ⟨a, b, c, e⟩ := h
  refine ⟨by rw [List.length_append]; exact congrArg (· + 1) a, by rw [List.length_append, List.length_singleton]; omega, fun y hy => ?_, ?_⟩
  · rcases List.mem_append.1 hy with hy | hy
    · exact c y hy
    · rw [List.mem_singleton.1 hy]; omega
  · show (ok && okY x) = _
    rw [List.all_append, show ok = pre.all okY from e]; simp
theorem gC_done {t : HT} {n : Nat} {ok : Bool} (h : gC (ord t 1) (n, ok)) : ¬ (4000 < t.tr.cnt ∨ 12 < t.tr.dep) ∧ ok = t.tr.shp := by
  obtain ⟨a, b, c, e⟩ := h
  rw [ord_len] at b
  have h1 := ord_max t 1 12 c
  exact ⟨by omega, by rw [← ord_all t 1]; exact e⟩

set_option maxRecDepth 100000 in
theorem check (t : HT) (w : World) (ht : HSeen w.cell? t) (hsm : Sm t.tr) (hdp : t.tr.dep ≤ 900000) :
    Calls Try.prog 30 [.agg t.c.toArray].toArray w (Pur w (.int .i64 (checkF t.tr))) := by
  haveI := ht.sv.one
  refine enterN (m := 52) (R := Mem w [] [] []) Try.func30 rfl rfl (Nat.le_of_ble_eq_true rfl) (Mem.start w) ?_
  refine wpc_seq ?_
  refine wpc_region ?_
  refine wpl_t (t_box rfl t.c rfl) rfl (fun b1 => ?_)
  refine wpl_t (t_alloc Try.ti29 [.int .i64 0] rfl) rfl (fun b2 => ?_)
  refine wpl_nil ?_
  refine ex_then ?_
  refine wpc_seq ?_
  refine wpc_region ?_
  refine wpl_t (t_alloc Try.ti3 [.int .i64 0] rfl) rfl (fun b3 => ?_)
  refine wpl_t (t_alloc Try.ti4 [.bool false] rfl) rfl (fun b4 => ?_)
  refine wpl_t0 (t_st1 Try.ti3 rfl rfl rfl (by first | decide | omega | exact Nat.zero_lt_one | (simp; omega) | (simp; done) | (simp only [v8s_length, v32s_length, vis_length, vns_length, v64s_length]; omega)) _ (by first | exact vns_set _ | rfl)) (fun _ => ?_)
  refine wpl_t0 (t_st1 Try.ti4 rfl rfl rfl (by first | decide | omega | exact Nat.zero_lt_one | (simp; omega) | (simp; done) | (simp only [v8s_length, v32s_length, vis_length, vns_length, v64s_length]; omega)) _ (by first | exact vbs_set _ | rfl)) (fun _ => ?_)
  refine wpl_nil ?_
  refine ex_then ?_
  refine wpc_seq ?_
  refine wpc_seq ?_
  refine wpc_region ?_
  refine wpl_q (q_ldN Try.underlying25 rfl Try.ti25 rfl LenC.h) rfl ?_
  refine wpl_t (t_call (N := fun pp : Nat × Nat => [.blk pp.1 25 t.c, .blk pp.2 3 [.int .i64 ((1 : Nat) : Int)]]) (T := fun _ => []) Try.hb46 rfl fun w h => all_ t 1 w ht.sv) rfl (fun b8 => ?_)
  refine wpl_nil ?_
  refine ex_then ?_
  refine wpc_block ?_
  refine wpc_rangeT (encs := encO) (Inv := (fun w => HSeen w.cell? t)) (xs := (ord t 1)) (ρ := Unit) (β := Nat) [.blk b8.1 25 t.c, .blk b8.2 3 [.int .i64 ((1 : Nat) : Int)]] (fun s : Nat × Bool => [.blk b4 4 [.bool s.2], .blk b3 3 [.int .i64 ((s.1 : Nat) : Int)], .blk b2 29 [.int .i64 0], .blk b1 25 t.c]) gC (0, true) (fun _ => checkF t.tr = 4) (fun _ => [.blk b2 29 [.int .i64 4]]) (fun x _ b => [.blk b 25 x.1.c]) (fun x i b => [(1, .pointer (some ⟨b1, 0, none⟩)), (2, .pointer (some ⟨b2, 0, none⟩)), (3, .pointer (some ⟨b3, 0, none⟩)), (4, .pointer (some ⟨b4, 0, none⟩)), (5, .pointer (some ⟨b, 0, none⟩)), (6, .int .i64 ((x.2 : Nat) : Int))]) rfl Try.hb61 ⟨rfl, Nat.zero_le _, fun y hy => (by cases hy), rfl⟩ (fun w h k hk => by obtain ⟨e, he, hn⟩ := mem_nums.1 hk; exact (h.new e (List.mem_append_left _ he) k hn).resolve_right (by simp)) (fun wb w h hI => allIter t 1 b8.1 b8.2 w (h.own _ (List.mem_cons_self ..)) (h.own _ (List.mem_cons_of_mem _ (List.mem_cons_self ..))) (fun e => (List.pairwise_cons.1 h.apart).1 _ (List.mem_cons_self ..) _ rfl (by rw [← e]; rfl)) (by omega) hI) (fun pre s w _ h => ht.old h) (fun _ _ => rfl) (by decide) ?_ ?_ ?_ ?_
  ·
   intro l2 x i2 w1 K hxm hK
   have hxs := ord_seen ht hxm
   haveI := hxs.sv.one
   refine wic_seq ?_
   refine wic_region ?_
   refine wil_t (t_alloc Try.ti25 HT.z.c rfl) rfl (fun b5 => ?_)
   refine wil_t0 (t_stA Try.ti25 rfl rfl LenC.h OneC.h LenC.h) (fun _ => ?_)
   refine wil_nil ?_
   refine eix_then ?_
   refine wic_region ?_
   refine wil_q (q_pure rfl) rfl ?_
   refine wil_nil ?_
   exact fun a w hs h => hK b5 a w (hs.weaken (subs_get (by repeat (first | exact trivial | refine ⟨rfl, ?_⟩)))) h
  ·
   intro l2 pre x i2 s b w1 hgs hpre hm
   obtain ⟨n, ok⟩ := s
   have hseen := ord_seen ht (hpre.subset (List.mem_append_right _ (List.mem_singleton.2 rfl)))
   obtain ⟨⟨g2, v2, cs, u2, l2⟩, dd⟩ := x
   have sv2 := hseen.1.sv
   have su2 := hseen.2.1.sv
   have lb2 := sv2.le
   have ll2 := su2.le
   simp only [maxLen] at lb2 ll2
   have hn : n = pre.length := hgs.1
   have hn4 := hgs.2.1
   show WPCI _ _ _ _ (Mem w1 (nums (.blk b 25 [.int .u8 (g2.toNat : Int), v2, u2] :: [.blk b4 4 [.bool ok], .blk b3 3 [.int .i64 ((n : Nat) : Int)], .blk b2 29 [.int .i64 0], .blk b1 25 t.c])) (.blk b 25 [.int .u8 (g2.toNat : Int), v2, u2] :: [.blk b4 4 [.bool ok], .blk b3 3 [.int .i64 ((n : Nat) : Int)], .blk b2 29 [.int .i64 0], .blk b1 25 t.c]) []) _ _
   refine wic_block ?_
   refine wic_seq ?_
   refine wic_seq ?_
   refine wic_region ?_
   refine wil_q (q_ld Try.underlying3 rfl rfl (by first | exact vns_get (by first | decide | omega | exact Nat.zero_lt_one | (simp; omega) | (simp; done) | (simp only [v8s_length, v32s_length, vis_length, vns_length, v64s_length]; omega)) | rfl)) rfl ?_
   refine wil_q (q_addN (b := 1) rfl rfl (by first | omega | (simp only [maxLen]; omega) | (simp only [List.length_append, List.length_cons, List.length_nil, List.length_take, maxLen]; omega) | (simp only [List.length_append, List.length_cons, List.length_nil, List.length_take]; omega))) rfl ?_
   refine wil_t0 (t_st1 Try.ti3 rfl rfl rfl (by first | decide | omega | exact Nat.zero_lt_one | (simp; omega) | (simp; done) | (simp only [v8s_length, v32s_length, vis_length, vns_length, v64s_length]; omega)) [.int .i64 ((n + 1 : Nat) : Int)] rfl) (fun _ => ?_)
   refine wil_nil ?_
   refine eix_then ?_
   refine wic_seq ?_
   refine wic_region ?_
   refine wil_q (q_ld Try.underlying3 rfl rfl (by first | exact vns_get (by first | decide | omega | exact Nat.zero_lt_one | (simp; omega) | (simp; done) | (simp only [v8s_length, v32s_length, vis_length, vns_length, v64s_length]; omega)) | rfl)) rfl ?_
   refine wil_q (q_pure rfl) rfl ?_
   refine wil_q (q_pure rfl) rfl ?_
   refine wil_bool2 15 14 rfl rfl (fun hb15 => ?_) (fun hb15 => ?_)
   ·
    try simp only [decide_eq_true_eq] at hb15
    refine wil_off rfl rfl rfl rfl ?_
    refine wil_off rfl rfl rfl rfl ?_
    refine wil_q (q_pure rfl) rfl ?_
    refine wil_nil ?_
    refine eix_then ?_
    refine wic_cond_t rfl ?_
    refine wic_seq ?_
    refine wic_region ?_
    refine wil_t0 (t_st1 Try.ti29 rfl rfl rfl (by first | decide | omega | exact Nat.zero_lt_one | (simp; omega) | (simp; done) | (simp only [v8s_length, v32s_length, vis_length, vns_length, v64s_length]; omega)) [.int .i64 4] rfl) (fun _ => ?_)
    refine wil_nil ?_
    refine eix_then ?_
    refine wic_ret ?_
    refine ex_then_ret ?_
    refine ex_block_ret ?_
    refine ex_roundR ?_
    exact fun w h => ⟨rfl, (), gC_stop hpre (by show _ ∨ 12 < dd; omega), h.sub SubC.h .nil⟩
   ·
    try simp only [decide_eq_false_iff_not] at hb15
    refine wil_on rfl rfl ?_
    refine wil_q (q_pure rfl) rfl ?_
    refine wil_on rfl rfl ?_
    refine wil_q (q_pure rfl) rfl ?_
    refine wil_q (q_pure rfl) rfl ?_
    refine wil_nil ?_
    refine eix_then ?_
    refine wic_cond rfl (fun hc18 => ?_) (fun hc18 => ?_)
    ·
     try simp only [decide_eq_true_eq] at hc18
     refine wic_seq ?_
     refine wic_region ?_
     refine wil_t0 (t_st1 Try.ti29 rfl rfl rfl (by first | decide | omega | exact Nat.zero_lt_one | (simp; omega) | (simp; done) | (simp only [v8s_length, v32s_length, vis_length, vns_length, v64s_length]; omega)) [.int .i64 4] rfl) (fun _ => ?_)
     refine wil_nil ?_
     refine eix_then ?_
     refine wic_ret ?_
     refine ex_then_ret ?_
     refine ex_block_ret ?_
     refine ex_roundR ?_
     exact fun w h => ⟨rfl, (), gC_stop hpre (by show _ ∨ 12 < dd; omega), h.sub SubC.h .nil⟩
    ·
     simp only [decide_eq_false_iff_not] at hc18
     refine wic_skip ?_
     refine eix_then ?_
     refine wic_region ?_
     refine wil_q (q_ld Try.underlying4 rfl rfl (by first | exact vbs_get (by first | decide | omega | exact Nat.zero_lt_one | (simp; omega) | (simp; done) | (simp only [v8s_length, v32s_length, vis_length, vns_length, v64s_length]; omega)) | rfl)) rfl ?_
     refine wil_q (q_pure rfl) rfl ?_
     refine wil_bool2 20 19 rfl rfl (fun hb20 => ?_) (fun hb20 => ?_)
     ·
      have q1 : ok = true := hb20
      refine wil_on rfl rfl ?_
      refine wil_q (q_field Try.underlying25 rfl Try.ti5 rfl rfl _ rfl) rfl ?_
      refine wil_on rfl rfl ?_
      refine wil_q (q_ld Try.underlying5 rfl rfl (by first | exact v8s_get (by first | decide | omega | exact Nat.zero_lt_one | (simp; omega) | (simp; done) | (simp only [v8s_length, v32s_length, vis_length, vns_length, v64s_length]; omega)) | rfl)) rfl ?_
      refine wil_on rfl rfl ?_
      refine wil_q (q_pure rfl) rfl ?_
      refine wil_q (q_pure rfl) rfl ?_
      refine wil_q (q_pure rfl) rfl ?_
      refine wil_bool2 25 23 rfl rfl (fun hb25 => ?_) (fun hb25 => ?_)
      ·
       try simp only [decide_eq_true_eq, decide_eq_false_iff_not, beq_iff_eq, beq_eq_false_iff_ne, ne_eq] at hb25
       have d0 : decide (g2.toNat ≠ 0) = true := decide_eq_true (by omega)
       refine wil_on rfl rfl ?_
       refine wil_q (q_field Try.underlying25 rfl Try.ti5 rfl rfl _ rfl) rfl ?_
       refine wil_on rfl rfl ?_
       refine wil_q (q_ld Try.underlying5 rfl rfl (by first | exact v8s_get (by first | decide | omega | exact Nat.zero_lt_one | (simp; omega) | (simp; done) | (simp only [v8s_length, v32s_length, vis_length, vns_length, v64s_length]; omega)) | rfl)) rfl ?_
       refine wil_on rfl rfl ?_
       refine wil_q (q_pure rfl) rfl ?_
       refine wil_on rfl rfl ?_
       refine wil_q (q_pure rfl) rfl ?_
       refine wil_bool2 29 28 rfl rfl (fun hb29 => ?_) (fun hb29 => ?_)
       ·
        try simp only [decide_eq_true_eq, decide_eq_false_iff_not, beq_iff_eq, beq_eq_false_iff_ne, ne_eq] at hb29
        have d1 : decide (128 ≤ g2.toNat) = true := decide_eq_true (by omega)
        refine wil_off rfl rfl rfl rfl ?_
        refine wil_off rfl rfl rfl rfl ?_
        refine wil_off rfl rfl rfl rfl ?_
        refine wil_off rfl rfl rfl rfl ?_
        refine wil_on rfl rfl ?_
        refine wil_q (q_pure rfl) rfl ?_
        refine wil_q (q_pure rfl) rfl ?_
        refine wil_q (q_pure rfl) rfl ?_
        refine wil_on rfl rfl ?_
        refine wil_q (q_field Try.underlying25 rfl Try.ti5 rfl rfl _ rfl) rfl ?_
        refine wil_on rfl rfl ?_
        refine wil_q (q_ld Try.underlying5 rfl rfl (by first | exact v8s_get (by first | decide | omega | exact Nat.zero_lt_one | (simp; omega) | (simp; done) | (simp only [v8s_length, v32s_length, vis_length, vns_length, v64s_length]; omega)) | rfl)) rfl ?_
        refine wil_on rfl rfl ?_
        refine wil_q (q_pure rfl) rfl ?_
        refine wil_on rfl rfl ?_
        refine wil_q (q_pure rfl) rfl ?_
        refine wil_bool2 40 39 rfl rfl (fun hb40 => ?_) (fun hb40 => ?_)
        ·
         try simp only [decide_eq_true_eq, decide_eq_false_iff_not, beq_iff_eq, beq_eq_false_iff_ne, ne_eq] at hb40
         have d3 : decide (g2.toNat < 128) = true := decide_eq_true (by omega)
         refine wil_off rfl rfl rfl rfl ?_
         refine wil_off rfl rfl rfl rfl ?_
         refine wil_off rfl rfl rfl rfl ?_
         refine wil_off rfl rfl rfl rfl ?_
         refine wil_on rfl rfl ?_
         refine wil_q (q_pure rfl) rfl ?_
         refine wil_q (q_pure rfl) rfl ?_
         refine wil_t0 (t_st1 Try.ti4 rfl rfl rfl (by first | decide | omega | exact Nat.zero_lt_one | (simp; omega) | (simp; done) | (simp only [v8s_length, v32s_length, vis_length, vns_length, v64s_length]; omega)) _ (by first | exact vbs_set _ | rfl)) (fun _ => ?_)
         refine wil_nil ?_
         refine ex_block ?_
         refine ex_roundN ?_
         have hq : true = (ok && okY (HT.nd g2 v2 cs u2 l2, dd)) := by
           have ec : (((cs.length : Nat) : Int) == 0) = decide (cs.length = 0) := by rw [Bool.eq_iff_iff]; simp only [beq_iff_eq, decide_eq_true_eq]; omega
           rw [show okY (HT.nd g2 v2 cs u2 l2, dd) = _ from okv g2 v2 cs u2 l2]
           simp only [ec, q1, d0, d1, d3, Bool.true_and, Bool.and_true, Bool.false_and, Bool.and_false, Bool.true_or, Bool.or_true, Bool.false_or, Bool.or_false]
         exact fun w h => ⟨(n + 1, true), by rw [hq]; exact gC_next hgs (by omega) (by show ¬ 12 < dd; omega), (show Mem w1 (nums (.blk b 25 [.int .u8 (g2.toNat : Int), v2, u2] :: [.blk b4 4 [.bool ok], .blk b3 3 [.int .i64 ((n : Nat) : Int)], .blk b2 29 [.int .i64 0], .blk b1 25 t.c])) (.blk b 25 [.int .u8 (g2.toNat : Int), v2, u2] :: [.blk b4 4 [.bool true], .blk b3 3 [.int .i64 (((n + 1) : Nat) : Int)], .blk b2 29 [.int .i64 0], .blk b1 25 t.c]) [] w from h).sub SubC.h .nil⟩
        ·
         try simp only [decide_eq_true_eq, decide_eq_false_iff_not, beq_iff_eq, beq_eq_false_iff_ne, ne_eq] at hb40
         have d3 : decide (g2.toNat < 128) = false := decide_eq_false (by omega)
         refine wil_on rfl rfl ?_
         refine wil_q (q_field Try.underlying25 rfl Try.ti22 rfl rfl _ rfl) rfl ?_
         refine wil_on rfl rfl ?_
         refine wil_q (q_ld Try.underlying22 rfl rfl rfl) rfl ?_
         refine wil_on rfl rfl ?_
         refine wil_q (q_lenW Try.underlying22 rfl (by first | assumption | exact SV.nil | exact SV.slv (by assumption) (by omega) (by omega) | exact arv_sv (by first | decide | (simp only [maxLen]; omega)))) rfl ?_
         refine wil_on rfl rfl ?_
         refine wil_q (q_pure rfl) rfl ?_
         refine wil_on rfl rfl ?_
         refine wil_q (q_pure rfl) rfl ?_
         refine wil_q (q_pure rfl) rfl ?_
         refine wil_t0 (t_st1 Try.ti4 rfl rfl rfl (by first | decide | omega | exact Nat.zero_lt_one | (simp; omega) | (simp; done) | (simp only [v8s_length, v32s_length, vis_length, vns_length, v64s_length]; omega)) _ (by first | exact vbs_set _ | rfl)) (fun _ => ?_)
         refine wil_nil ?_
         refine ex_block ?_
         refine ex_roundN ?_
         have hq : (((cs.length : Nat) : Int) == 0) = (ok && okY (HT.nd g2 v2 cs u2 l2, dd)) := by
           have ec : (((cs.length : Nat) : Int) == 0) = decide (cs.length = 0) := by rw [Bool.eq_iff_iff]; simp only [beq_iff_eq, decide_eq_true_eq]; omega
           rw [show okY (HT.nd g2 v2 cs u2 l2, dd) = _ from okv g2 v2 cs u2 l2]
           simp only [ec, q1, d0, d1, d3, Bool.true_and, Bool.and_true, Bool.false_and, Bool.and_false, Bool.true_or, Bool.or_true, Bool.false_or, Bool.or_false]
         exact fun w h => ⟨(n + 1, (((cs.length : Nat) : Int) == 0)), by rw [hq]; exact gC_next hgs (by omega) (by show ¬ 12 < dd; omega), (show Mem w1 (nums (.blk b 25 [.int .u8 (g2.toNat : Int), v2, u2] :: [.blk b4 4 [.bool ok], .blk b3 3 [.int .i64 ((n : Nat) : Int)], .blk b2 29 [.int .i64 0], .blk b1 25 t.c])) (.blk b 25 [.int .u8 (g2.toNat : Int), v2, u2] :: [.blk b4 4 [.bool (((cs.length : Nat) : Int) == 0)], .blk b3 3 [.int .i64 (((n + 1) : Nat) : Int)], .blk b2 29 [.int .i64 0], .blk b1 25 t.c]) [] w from h).sub SubC.h .nil⟩
       ·
        try simp only [decide_eq_true_eq, decide_eq_false_iff_not, beq_iff_eq, beq_eq_false_iff_ne, ne_eq] at hb29
        have d1 : decide (128 ≤ g2.toNat) = false := decide_eq_false (by omega)
        refine wil_on rfl rfl ?_
        refine wil_q (q_field Try.underlying25 rfl Try.ti23 rfl rfl _ rfl) rfl ?_
        refine wil_on rfl rfl ?_
        refine wil_q (q_ld Try.underlying23 rfl rfl rfl) rfl ?_
        refine wil_on rfl rfl ?_
        refine wil_q (q_lenW Try.underlying23 rfl (by first | assumption | exact SV.nil | exact SV.slv (by assumption) (by omega) (by omega) | exact arv_sv (by first | decide | (simp only [maxLen]; omega)))) rfl ?_
        refine wil_on rfl rfl ?_
        refine wil_q (q_pure rfl) rfl ?_
        refine wil_on rfl rfl ?_
        refine wil_q (q_pure rfl) rfl ?_
        refine wil_q (q_pure rfl) rfl ?_
        refine wil_q (q_pure rfl) rfl ?_
        refine wil_bool2 36 33 rfl rfl (fun hb36 => ?_) (fun hb36 => ?_)
        ·
         try simp only [decide_eq_true_eq, decide_eq_false_iff_not, beq_iff_eq, beq_eq_false_iff_ne, ne_eq] at hb36
         have d2 : decide (l2.length = 0) = true := decide_eq_true (by omega)
         refine wil_on rfl rfl ?_
         refine wil_q (q_field Try.underlying25 rfl Try.ti5 rfl rfl _ rfl) rfl ?_
         refine wil_on rfl rfl ?_
         refine wil_q (q_ld Try.underlying5 rfl rfl (by first | exact v8s_get (by first | decide | omega | exact Nat.zero_lt_one | (simp; omega) | (simp; done) | (simp only [v8s_length, v32s_length, vis_length, vns_length, v64s_length]; omega)) | rfl)) rfl ?_
         refine wil_on rfl rfl ?_
         refine wil_q (q_pure rfl) rfl ?_
         refine wil_on rfl rfl ?_
         refine wil_q (q_pure rfl) rfl ?_
         refine wil_bool2 40 39 rfl rfl (fun hb40 => ?_) (fun hb40 => ?_)
         ·
          try simp only [decide_eq_true_eq, decide_eq_false_iff_not, beq_iff_eq, beq_eq_false_iff_ne, ne_eq] at hb40
          have d3 : decide (g2.toNat < 128) = true := decide_eq_true (by omega)
          refine wil_off rfl rfl rfl rfl ?_
          refine wil_off rfl rfl rfl rfl ?_
          refine wil_off rfl rfl rfl rfl ?_
          refine wil_off rfl rfl rfl rfl ?_
          refine wil_on rfl rfl ?_
          refine wil_q (q_pure rfl) rfl ?_
          refine wil_q (q_pure rfl) rfl ?_
          refine wil_t0 (t_st1 Try.ti4 rfl rfl rfl (by first | decide | omega | exact Nat.zero_lt_one | (simp; omega) | (simp; done) | (simp only [v8s_length, v32s_length, vis_length, vns_length, v64s_length]; omega)) _ (by first | exact vbs_set _ | rfl)) (fun _ => ?_)
          refine wil_nil ?_
          refine ex_block ?_
          refine ex_roundN ?_
          have hq : true = (ok && okY (HT.nd g2 v2 cs u2 l2, dd)) := by
            have ec : (((cs.length : Nat) : Int) == 0) = decide (cs.length = 0) := by rw [Bool.eq_iff_iff]; simp only [beq_iff_eq, decide_eq_true_eq]; omega
            rw [show okY (HT.nd g2 v2 cs u2 l2, dd) = _ from okv g2 v2 cs u2 l2]
            simp only [ec, q1, d0, d1, d2, d3, Bool.true_and, Bool.and_true, Bool.false_and, Bool.and_false, Bool.true_or, Bool.or_true, Bool.false_or, Bool.or_false]
          exact fun w h => ⟨(n + 1, true), by rw [hq]; exact gC_next hgs (by omega) (by show ¬ 12 < dd; omega), (show Mem w1 (nums (.blk b 25 [.int .u8 (g2.toNat : Int), v2, u2] :: [.blk b4 4 [.bool ok], .blk b3 3 [.int .i64 ((n : Nat) : Int)], .blk b2 29 [.int .i64 0], .blk b1 25 t.c])) (.blk b 25 [.int .u8 (g2.toNat : Int), v2, u2] :: [.blk b4 4 [.bool true], .blk b3 3 [.int .i64 (((n + 1) : Nat) : Int)], .blk b2 29 [.int .i64 0], .blk b1 25 t.c]) [] w from h).sub SubC.h .nil⟩
         ·
          try simp only [decide_eq_true_eq, decide_eq_false_iff_not, beq_iff_eq, beq_eq_false_iff_ne, ne_eq] at hb40
          have d3 : decide (g2.toNat < 128) = false := decide_eq_false (by omega)
          refine wil_on rfl rfl ?_
          refine wil_q (q_field Try.underlying25 rfl Try.ti22 rfl rfl _ rfl) rfl ?_
          refine wil_on rfl rfl ?_
          refine wil_q (q_ld Try.underlying22 rfl rfl rfl) rfl ?_
          refine wil_on rfl rfl ?_
          refine wil_q (q_lenW Try.underlying22 rfl (by first | assumption | exact SV.nil | exact SV.slv (by assumption) (by omega) (by omega) | exact arv_sv (by first | decide | (simp only [maxLen]; omega)))) rfl ?_
          refine wil_on rfl rfl ?_
          refine wil_q (q_pure rfl) rfl ?_
          refine wil_on rfl rfl ?_
          refine wil_q (q_pure rfl) rfl ?_
          refine wil_q (q_pure rfl) rfl ?_
          refine wil_t0 (t_st1 Try.ti4 rfl rfl rfl (by first | decide | omega | exact Nat.zero_lt_one | (simp; omega) | (simp; done) | (simp only [v8s_length, v32s_length, vis_length, vns_length, v64s_length]; omega)) _ (by first | exact vbs_set _ | rfl)) (fun _ => ?_)
          refine wil_nil ?_
          refine ex_block ?_
          refine ex_roundN ?_
          have hq : (((cs.length : Nat) : Int) == 0) = (ok && okY (HT.nd g2 v2 cs u2 l2, dd)) := by
            have ec : (((cs.length : Nat) : Int) == 0) = decide (cs.length = 0) := by rw [Bool.eq_iff_iff]; simp only [beq_iff_eq, decide_eq_true_eq]; omega
            rw [show okY (HT.nd g2 v2 cs u2 l2, dd) = _ from okv g2 v2 cs u2 l2]
            simp only [ec, q1, d0, d1, d2, d3, Bool.true_and, Bool.and_true, Bool.false_and, Bool.and_false, Bool.true_or, Bool.or_true, Bool.false_or, Bool.or_false]
          exact fun w h => ⟨(n + 1, (((cs.length : Nat) : Int) == 0)), by rw [hq]; exact gC_next hgs (by omega) (by show ¬ 12 < dd; omega), (show Mem w1 (nums (.blk b 25 [.int .u8 (g2.toNat : Int), v2, u2] :: [.blk b4 4 [.bool ok], .blk b3 3 [.int .i64 ((n : Nat) : Int)], .blk b2 29 [.int .i64 0], .blk b1 25 t.c])) (.blk b 25 [.int .u8 (g2.toNat : Int), v2, u2] :: [.blk b4 4 [.bool (((cs.length : Nat) : Int) == 0)], .blk b3 3 [.int .i64 (((n + 1) : Nat) : Int)], .blk b2 29 [.int .i64 0], .blk b1 25 t.c]) [] w from h).sub SubC.h .nil⟩
        ·
         try simp only [decide_eq_true_eq, decide_eq_false_iff_not, beq_iff_eq, beq_eq_false_iff_ne, ne_eq] at hb36
         have d2 : decide (l2.length = 0) = false := decide_eq_false (by omega)
         refine wil_off rfl rfl rfl rfl ?_
         refine wil_off rfl rfl rfl rfl ?_
         refine wil_off rfl rfl rfl rfl ?_
         refine wil_off rfl rfl rfl rfl ?_
         refine wil_off rfl rfl rfl rfl ?_
         refine wil_off rfl rfl rfl rfl ?_
         refine wil_off rfl rfl rfl rfl ?_
         refine wil_off rfl rfl rfl rfl ?_
         refine wil_off rfl rfl rfl rfl ?_
         refine wil_q (q_pure rfl) rfl ?_
         refine wil_t0 (t_st1 Try.ti4 rfl rfl rfl (by first | decide | omega | exact Nat.zero_lt_one | (simp; omega) | (simp; done) | (simp only [v8s_length, v32s_length, vis_length, vns_length, v64s_length]; omega)) _ (by first | exact vbs_set _ | rfl)) (fun _ => ?_)
         refine wil_nil ?_
         refine ex_block ?_
         refine ex_roundN ?_
         have hq : false = (ok && okY (HT.nd g2 v2 cs u2 l2, dd)) := by
           have ec : (((cs.length : Nat) : Int) == 0) = decide (cs.length = 0) := by rw [Bool.eq_iff_iff]; simp only [beq_iff_eq, decide_eq_true_eq]; omega
           rw [show okY (HT.nd g2 v2 cs u2 l2, dd) = _ from okv g2 v2 cs u2 l2]
           simp only [ec, q1, d0, d1, d2, Bool.true_and, Bool.and_true, Bool.false_and, Bool.and_false, Bool.true_or, Bool.or_true, Bool.false_or, Bool.or_false]
         exact fun w h => ⟨(n + 1, false), by rw [hq]; exact gC_next hgs (by omega) (by show ¬ 12 < dd; omega), (show Mem w1 (nums (.blk b 25 [.int .u8 (g2.toNat : Int), v2, u2] :: [.blk b4 4 [.bool ok], .blk b3 3 [.int .i64 ((n : Nat) : Int)], .blk b2 29 [.int .i64 0], .blk b1 25 t.c])) (.blk b 25 [.int .u8 (g2.toNat : Int), v2, u2] :: [.blk b4 4 [.bool false], .blk b3 3 [.int .i64 (((n + 1) : Nat) : Int)], .blk b2 29 [.int .i64 0], .blk b1 25 t.c]) [] w from h).sub SubC.h .nil⟩
      ·
       try simp only [decide_eq_true_eq, decide_eq_false_iff_not, beq_iff_eq, beq_eq_false_iff_ne, ne_eq] at hb25
       have d0 : decide (g2.toNat ≠ 0) = false := decide_eq_false (by omega)
       refine wil_off rfl rfl rfl rfl ?_
       refine wil_off rfl rfl rfl rfl ?_
       refine wil_off rfl rfl rfl rfl ?_
       refine wil_off rfl rfl rfl rfl ?_
       refine wil_off rfl rfl rfl rfl ?_
       refine wil_off rfl rfl rfl rfl ?_
       refine wil_off rfl rfl rfl rfl ?_
       refine wil_off rfl rfl rfl rfl ?_
       refine wil_off rfl rfl rfl rfl ?_
       refine wil_q (q_pure rfl) rfl ?_
       refine wil_q (q_pure rfl) rfl ?_
       refine wil_off rfl rfl rfl rfl ?_
       refine wil_off rfl rfl rfl rfl ?_
       refine wil_off rfl rfl rfl rfl ?_
       refine wil_off rfl rfl rfl rfl ?_
       refine wil_off rfl rfl rfl rfl ?_
       refine wil_off rfl rfl rfl rfl ?_
       refine wil_off rfl rfl rfl rfl ?_
       refine wil_off rfl rfl rfl rfl ?_
       refine wil_off rfl rfl rfl rfl ?_
       refine wil_q (q_pure rfl) rfl ?_
       refine wil_t0 (t_st1 Try.ti4 rfl rfl rfl (by first | decide | omega | exact Nat.zero_lt_one | (simp; omega) | (simp; done) | (simp only [v8s_length, v32s_length, vis_length, vns_length, v64s_length]; omega)) _ (by first | exact vbs_set _ | rfl)) (fun _ => ?_)
       refine wil_nil ?_
       refine ex_block ?_
       refine ex_roundN ?_
       have hq : false = (ok && okY (HT.nd g2 v2 cs u2 l2, dd)) := by
         have ec : (((cs.length : Nat) : Int) == 0) = decide (cs.length = 0) := by rw [Bool.eq_iff_iff]; simp only [beq_iff_eq, decide_eq_true_eq]; omega
         rw [show okY (HT.nd g2 v2 cs u2 l2, dd) = _ from okv g2 v2 cs u2 l2]
         simp only [ec, q1, d0, Bool.true_and, Bool.and_true, Bool.false_and, Bool.and_false, Bool.true_or, Bool.or_true, Bool.false_or, Bool.or_false]
       exact fun w h => ⟨(n + 1, false), by rw [hq]; exact gC_next hgs (by omega) (by show ¬ 12 < dd; omega), (show Mem w1 (nums (.blk b 25 [.int .u8 (g2.toNat : Int), v2, u2] :: [.blk b4 4 [.bool ok], .blk b3 3 [.int .i64 ((n : Nat) : Int)], .blk b2 29 [.int .i64 0], .blk b1 25 t.c])) (.blk b 25 [.int .u8 (g2.toNat : Int), v2, u2] :: [.blk b4 4 [.bool false], .blk b3 3 [.int .i64 (((n + 1) : Nat) : Int)], .blk b2 29 [.int .i64 0], .blk b1 25 t.c]) [] w from h).sub SubC.h .nil⟩
     ·
      have q1 : ok = false := hb20
      refine wil_off rfl rfl rfl rfl ?_
      refine wil_off rfl rfl rfl rfl ?_
      refine wil_off rfl rfl rfl rfl ?_
      refine wil_q (q_pure rfl) rfl ?_
      refine wil_q (q_pure rfl) rfl ?_
      refine wil_off rfl rfl rfl rfl ?_
      refine wil_off rfl rfl rfl rfl ?_
      refine wil_off rfl rfl rfl rfl ?_
      refine wil_off rfl rfl rfl rfl ?_
      refine wil_off rfl rfl rfl rfl ?_
      refine wil_off rfl rfl rfl rfl ?_
      refine wil_off rfl rfl rfl rfl ?_
      refine wil_off rfl rfl rfl rfl ?_
      refine wil_off rfl rfl rfl rfl ?_
      refine wil_q (q_pure rfl) rfl ?_
      refine wil_q (q_pure rfl) rfl ?_
      refine wil_off rfl rfl rfl rfl ?_
      refine wil_off rfl rfl rfl rfl ?_
      refine wil_off rfl rfl rfl rfl ?_
      refine wil_off rfl rfl rfl rfl ?_
      refine wil_off rfl rfl rfl rfl ?_
      refine wil_off rfl rfl rfl rfl ?_
      refine wil_off rfl rfl rfl rfl ?_
      refine wil_off rfl rfl rfl rfl ?_
      refine wil_off rfl rfl rfl rfl ?_
      refine wil_q (q_pure rfl) rfl ?_
      refine wil_t0 (t_st1 Try.ti4 rfl rfl rfl (by first | decide | omega | exact Nat.zero_lt_one | (simp; omega) | (simp; done) | (simp only [v8s_length, v32s_length, vis_length, vns_length, v64s_length]; omega)) _ (by first | exact vbs_set _ | rfl)) (fun _ => ?_)
      refine wil_nil ?_
      refine ex_block ?_
      refine ex_roundN ?_
      have hq : false = (ok && okY (HT.nd g2 v2 cs u2 l2, dd)) := by
        have ec : (((cs.length : Nat) : Int) == 0) = decide (cs.length = 0) := by rw [Bool.eq_iff_iff]; simp only [beq_iff_eq, decide_eq_true_eq]; omega
        rw [show okY (HT.nd g2 v2 cs u2 l2, dd) = _ from okv g2 v2 cs u2 l2]
        simp only [ec, q1, Bool.true_and, Bool.and_true, Bool.false_and, Bool.and_false, Bool.true_or, Bool.or_true, Bool.false_or, Bool.or_false]
      exact fun w h => ⟨(n + 1, false), by rw [hq]; exact gC_next hgs (by omega) (by show ¬ 12 < dd; omega), (show Mem w1 (nums (.blk b 25 [.int .u8 (g2.toNat : Int), v2, u2] :: [.blk b4 4 [.bool ok], .blk b3 3 [.int .i64 ((n : Nat) : Int)], .blk b2 29 [.int .i64 0], .blk b1 25 t.c])) (.blk b 25 [.int .u8 (g2.toNat : Int), v2, u2] :: [.blk b4 4 [.bool false], .blk b3 3 [.int .i64 (((n + 1) : Nat) : Int)], .blk b2 29 [.int .i64 0], .blk b1 25 t.c]) [] w from h).sub SubC.h .nil⟩
  ·
   intro D s hgs
   obtain ⟨n, ok⟩ := s
   obtain ⟨hdc, rfl⟩ := gC_done hgs
   refine ex_block ?_
   refine ex_then ?_
   refine wpc_seq ?_
   refine wpc_seq ?_
   refine wpc_region ?_
   refine wpl_q (q_ld Try.underlying4 rfl rfl (by first | exact vbs_get (by first | decide | omega | exact Nat.zero_lt_one | (simp; omega) | (simp; done) | (simp only [v8s_length, v32s_length, vis_length, vns_length, v64s_length]; omega)) | rfl)) rfl ?_
   refine wpl_q (q_pure rfl) rfl ?_
   refine wpl_nil ?_
   refine ex_then ?_
   refine wpc_cond rfl (fun hc48 => ?_) (fun hc48 => ?_)
   ·
    have h8 : t.tr.shp = false := by simpa using hc48
    refine wpc_seq ?_
    refine wpc_region ?_
    refine wpl_t0 (t_st1 Try.ti29 rfl rfl rfl (by first | decide | omega | exact Nat.zero_lt_one | (simp; omega) | (simp; done) | (simp only [v8s_length, v32s_length, vis_length, vns_length, v64s_length]; omega)) [.int .i64 8] rfl) (fun _ => ?_)
    refine wpl_nil ?_
    refine ex_then ?_
    refine wpc_ret ?_
    refine ex_then_ret ?_
    refine ex_markN (.inl rfl) .here ?_
    refine retv1 (.inl rfl) rfl (rv_one Try.underlying29 rfl rfl (fun w h => h.cell_blk (by repeat (first | exact List.mem_cons_self .. | apply List.mem_cons_of_mem)) rfl)) ?_
    exact fun w h => ⟨by first | (rw [hr]; done) | (rw [checkF, if_neg hdc, if_pos h8]; done) | (rw [checkF, if_neg hdc, if_neg h8, if_pos (by omega)]; done) | (rw [checkF, if_neg hdc, if_neg h8, if_neg (by omega)]; done), h.below⟩
   ·
    have h8 : ¬ t.tr.shp = false := by rw [Bool.not_eq_false]; simpa using hc48
    refine wpc_skip ?_
    refine ex_then ?_
    refine wpc_seq ?_
    refine wpc_seq ?_
    refine wpc_region ?_
    refine wpl_q (q_ldN Try.underlying25 rfl Try.ti25 rfl LenC.h) rfl ?_
    refine wpl_t (t_pur (v := .int .i64 ((t.tr.siz : Nat) : Int)) Try.hb47 rfl fun w h => size t w (ht.old h) hsm) rfl (fun b50 => ?_)
    refine wpl_q (q_pure rfl) rfl ?_
    refine wpl_nil ?_
    refine ex_then ?_
    refine wpc_cond rfl (fun hc51 => ?_) (fun hc51 => ?_)
    ·
     simp only [decide_eq_true_eq] at hc51
     refine wpc_seq ?_
     refine wpc_region ?_
     refine wpl_t0 (t_st1 Try.ti29 rfl rfl rfl (by first | decide | omega | exact Nat.zero_lt_one | (simp; omega) | (simp; done) | (simp only [v8s_length, v32s_length, vis_length, vns_length, v64s_length]; omega)) [.int .i64 4] rfl) (fun _ => ?_)
     refine wpl_nil ?_
     refine ex_then ?_
     refine wpc_ret ?_
     refine ex_then_ret ?_
     refine ex_markN (.inl rfl) .here ?_
     refine retv1 (.inl rfl) rfl (rv_one Try.underlying29 rfl rfl (fun w h => h.cell_blk (by repeat (first | exact List.mem_cons_self .. | apply List.mem_cons_of_mem)) rfl)) ?_
     exact fun w h => ⟨by first | (rw [hr]; done) | (rw [checkF, if_neg hdc, if_pos h8]; done) | (rw [checkF, if_neg hdc, if_neg h8, if_pos (by omega)]; done) | (rw [checkF, if_neg hdc, if_neg h8, if_neg (by omega)]; done), h.below⟩
    ·
     simp only [decide_eq_false_iff_not] at hc51
     refine wpc_skip ?_
     refine ex_then ?_
     refine wpc_seq ?_
     refine wpc_region ?_
     refine wpl_t0 (t_st1 Try.ti29 rfl rfl rfl (by first | decide | omega | exact Nat.zero_lt_one | (simp; omega) | (simp; done) | (simp only [v8s_length, v32s_length, vis_length, vns_length, v64s_length]; omega)) [.int .i64 0] rfl) (fun _ => ?_)
     refine wpl_nil ?_
     refine ex_then ?_
     refine wpc_ret ?_
     refine ex_markN (.inl rfl) .here ?_
     refine retv1 (.inl rfl) rfl (rv_one Try.underlying29 rfl rfl (fun w h => h.cell_blk (by repeat (first | exact List.mem_cons_self .. | apply List.mem_cons_of_mem)) rfl)) ?_
     exact fun w h => ⟨by first | (rw [hr]; done) | (rw [checkF, if_neg hdc, if_pos h8]; done) | (rw [checkF, if_neg hdc, if_neg h8, if_pos (by omega)]; done) | (rw [checkF, if_neg hdc, if_neg h8, if_neg (by omega)]; done), h.below⟩
  ·
   intro D r hr
   refine wpc_ret ?_
   refine ex_block_ret ?_
   refine ex_then_ret ?_
   refine ex_markN (.inl rfl) .here ?_
   refine retv1 (.inl rfl) rfl (rv_one Try.underlying29 rfl rfl (fun w h => h.cell_blk (by repeat (first | exact List.mem_cons_self .. | apply List.mem_cons_of_mem)) rfl)) ?_
   exact fun w h => ⟨by first | (rw [hr]; done) | (rw [checkF, if_neg hdc, if_pos h8]; done) | (rw [checkF, if_neg hdc, if_neg h8, if_pos (by omega)]; done) | (rw [checkF, if_neg hdc, if_neg h8, if_neg (by omega)]; done), h.below⟩

end Go.Proofs.Ytommkigkkeailaa
