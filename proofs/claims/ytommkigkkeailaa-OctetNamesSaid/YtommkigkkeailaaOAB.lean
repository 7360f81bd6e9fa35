/- What bytes begin with, walked. -/
import Derived.Test.YtommkigkkeailaaOAA
namespace Go.Proofs.Ytommkigkkeailaa
set_option linter.unusedSimpArgs false
set_option linter.unusedVariables false
open Go Go.PL Go.RowKit

theorem takeR_none {f : Nat} {xs : List UInt8} (h : (takeR f xs).2.2 = false) : takeF f xs = none := by
  unfold takeR at h
  split at h
  · cases h
  · assumption
theorem takeR_some {f : Nat} {xs : List UInt8} (h : (takeR f xs).2.2 = true) : takeF f xs = some ((takeR f xs).1, (takeR f xs).2.1) := by
  unfold takeR at h ⊢
  split at h
  · rename_i e; rw [e]
  · cases h

set_option maxRecDepth 100000 in
theorem take_step (av : Value) (xs : List UInt8) (d : Nat) (w : World) (hav : Seen w.cell? av xs.length 1 (v8s xs)) (f : Nat) (hd : d + f = 13) (hxl : xs.length ≤ 70000) (ih : ∀ f2, f = f2 + 1 → ∀ (av : Value) (xs : List UInt8) (w : World), Seen w.cell? av xs.length 1 (v8s xs) → xs.length ≤ 70000 → Calls Try.prog 59 [av, .int .i64 ((d + 1 : Nat) : Int)].toArray w (GivesP w (fun y : HT => y.tr = (takeR f2 xs).1 ∧ y.sv) (fun y => .tuple #[.agg y.c.toArray, .int .i64 (((takeR f2 xs).2.1 : Nat) : Int), .bool (takeR f2 xs).2.2]) (fun y => y.ents) (fun _ => []))) :
    Calls Try.prog 59 [av, .int .i64 ((d : Nat) : Int)].toArray w (GivesP w (fun y : HT => y.tr = (takeR f xs).1 ∧ y.sv) (fun y => .tuple #[.agg y.c.toArray, .int .i64 (((takeR f xs).2.1 : Nat) : Int), .bool (takeR f xs).2.2]) (fun y => y.ents) (fun _ => [])) := by
  have sav := hav.sv
  have lav := sav.le
  simp only [maxLen] at lav
  have hh := headF_le xs
  refine enter (m := 82) (R := Mem w [] [] []) Try.func59 rfl rfl (Nat.le_of_ble_eq_true rfl) (Mem.start w) ?_
  refine wpc_seq ?_
  refine wpc_region ?_
  refine wpl_t (t_alloc Try.ti25 HT.z.c rfl) rfl (fun b4 => ?_)
  refine wpl_q (q_pure rfl) rfl ?_
  refine wpl_q (q_pure rfl) rfl ?_
  refine wpl_nil ?_
  refine ex_then ?_
  refine wpc_seq ?_
  refine wpc_region ?_
  refine wpl_q (q_pure rfl) rfl ?_
  refine wpl_t (t_pur Try.hb66 rfl fun w h => head av xs w (h.seen_old hav)) rfl (fun b18 => ?_)
  refine wpl_q (q_pure rfl) rfl ?_
  refine wpl_q (q_pure rfl) rfl ?_
  refine wpl_q (q_pure rfl) rfl ?_
  refine wpl_q (q_pure rfl) rfl ?_
  refine wpl_q (q_pure rfl) rfl ?_
  refine wpl_q (q_pure rfl) rfl ?_
  refine wpl_q (q_pure rfl) rfl ?_
  refine wpl_q (q_pure rfl) rfl ?_
  refine wpl_q (q_pure rfl) rfl ?_
  refine wpl_nil ?_
  refine ex_then ?_
  refine wpc_seq ?_
  refine wpc_seq ?_
  refine wpc_region ?_
  refine wpl_q (q_pure rfl) rfl ?_
  refine wpl_q (q_pure rfl) rfl ?_
  refine wpl_q (q_pure rfl) rfl ?_
  refine wpl_bool2 25 24 rfl rfl (fun hb25 => ?_) (fun hb25 => ?_)
  ·
   have hF : takeF f xs = none := by
     cases f with
     | zero => rfl
     | succ f => rw [takeF, if_pos (.inl (by simpa using hb25))]
   have hR : takeR f xs = (Tr.z, 0, false) := by rw [takeR, hF]
   refine wpl_off rfl rfl rfl rfl ?_
   refine wpl_off rfl rfl rfl rfl ?_
   refine wpl_off rfl rfl rfl rfl ?_
   refine wpl_off rfl rfl rfl rfl ?_
   refine wpl_off rfl rfl rfl rfl ?_
   refine wpl_off rfl rfl rfl rfl ?_
   refine wpl_q (q_pure rfl) rfl ?_
   refine wpl_q (q_pure rfl) rfl ?_
   refine wpl_off rfl rfl rfl rfl ?_
   refine wpl_off rfl rfl rfl rfl ?_
   refine wpl_q (q_pure rfl) rfl ?_
   refine wpl_nil ?_
   refine ex_then ?_
   refine wpc_cond_t rfl ?_
   refine wpc_seq ?_
   refine wpc_region ?_
   refine wpl_q (q_build (cs := [.int .u8 0, nl, nl]) rfl built_oz) rfl ?_
   refine wpl_t0 (t_stA Try.ti25 rfl rfl LenC.h OneC.h LenC.h) (fun _ => ?_)
   refine wpl_q (q_pure rfl) rfl ?_
   refine wpl_q (q_pure rfl) rfl ?_
   refine wpl_nil ?_
   refine ex_then ?_
   refine wpc_ret ?_
   refine ex_then_ret ?_
   refine retv3 (.inl rfl) rfl (rv_agg Try.underlying25 rfl Try.ti25 rfl (fun w h => h.atB) rfl) (rv_tmp rfl) (rv_tmp rfl) ?_
   exact fun w1 h => ⟨HT.z, ⟨by rw [hR]; rfl, SV.nil, SV.nil⟩, by rw [hR]; rfl, h.below, by
     have h2 : Mem w [] [.row nl 0 5 1 [], .row nl 0 25 3 []] [] w1 := ((h.nilRow 25 3).nilRow 5 1).sel
     exact madeT (tg := 0) (bv := nl) (lv := nl) (bs := []) (l := []) h2⟩
  ·
   have hk : (headF xs).2.2.2 = true := by simpa using hb25
   have hh2 := hh.2.2.2 hk
   refine wpl_on rfl rfl ?_
   refine wpl_q (q_pure rfl) rfl ?_
   refine wpl_on rfl rfl ?_
   refine wpl_q (q_pure rfl) rfl ?_
   refine wpl_on rfl rfl ?_
   refine wpl_q (q_lenW Try.underlying22 rfl (by first | assumption | exact SV.nil | exact SV.slv (by assumption) (by omega) (by omega) | exact arv_sv (by first | decide | (simp only [maxLen]; omega)))) rfl ?_
   refine wpl_on rfl rfl ?_
   refine wpl_q (q_pure rfl) rfl ?_
   refine wpl_on rfl rfl ?_
   first | refine wpl_q (qop_eq (q_pure rfl) (congrArg (Value.int .i64) (wk_i64 (by omega) (by omega)))) rfl ?_ | refine wpl_q (q_pure rfl) rfl ?_
   refine wpl_on rfl rfl ?_
   refine wpl_q (q_pure rfl) rfl ?_
   refine wpl_q (q_pure rfl) rfl ?_
   refine wpl_q (q_pure rfl) rfl ?_
   refine wpl_bool2 33 31 rfl rfl (fun hb33 => ?_) (fun hb33 => ?_)
   ·
    try simp only [decide_eq_true_eq] at hb33
    have hF : takeF f xs = none := by
      cases f with
      | zero => rfl
      | succ f => rw [takeF, if_pos (.inr (by omega))]
    have hR : takeR f xs = (Tr.z, 0, false) := by rw [takeR, hF]
    refine wpl_off rfl rfl rfl rfl ?_
    refine wpl_off rfl rfl rfl rfl ?_
    refine wpl_q (q_pure rfl) rfl ?_
    refine wpl_nil ?_
    refine ex_then ?_
    refine wpc_cond_t rfl ?_
    refine wpc_seq ?_
    refine wpc_region ?_
    refine wpl_q (q_build (cs := [.int .u8 0, nl, nl]) rfl built_oz) rfl ?_
    refine wpl_t0 (t_stA Try.ti25 rfl rfl LenC.h OneC.h LenC.h) (fun _ => ?_)
    refine wpl_q (q_pure rfl) rfl ?_
    refine wpl_q (q_pure rfl) rfl ?_
    refine wpl_nil ?_
    refine ex_then ?_
    refine wpc_ret ?_
    refine ex_then_ret ?_
    refine retv3 (.inl rfl) rfl (rv_agg Try.underlying25 rfl Try.ti25 rfl (fun w h => h.atB) rfl) (rv_tmp rfl) (rv_tmp rfl) ?_
    exact fun w1 h => ⟨HT.z, ⟨by rw [hR]; rfl, SV.nil, SV.nil⟩, by rw [hR]; rfl, h.below, by
      have h2 : Mem w [] [.row nl 0 5 1 [], .row nl 0 25 3 []] [] w1 := ((h.nilRow 25 3).nilRow 5 1).sel
      exact madeT (tg := 0) (bv := nl) (lv := nl) (bs := []) (l := []) h2⟩
   ·
    try simp only [decide_eq_false_iff_not] at hb33
    have hnl : (headF xs).2.1 + (headF xs).2.2.1 ≤ xs.length := by omega
    refine wpl_on rfl rfl ?_
    refine wpl_q (q_pure rfl) rfl ?_
    refine wpl_on rfl rfl ?_
    refine wpl_q (q_pure rfl) rfl ?_
    refine wpl_q (q_pure rfl) rfl ?_
    refine wpl_nil ?_
    refine ex_then ?_
    refine wpc_cond rfl (fun hc36 => ?_) (fun hc36 => ?_)
    ·
     simp only [decide_eq_true_eq] at hc36
     have hF : takeF f xs = none := by
       obtain rfl : f = 0 := by omega
       rfl
     have hR : takeR f xs = (Tr.z, 0, false) := by rw [takeR, hF]
     refine wpc_seq ?_
     refine wpc_region ?_
     refine wpl_q (q_build (cs := [.int .u8 0, nl, nl]) rfl built_oz) rfl ?_
     refine wpl_t0 (t_stA Try.ti25 rfl rfl LenC.h OneC.h LenC.h) (fun _ => ?_)
     refine wpl_q (q_pure rfl) rfl ?_
     refine wpl_q (q_pure rfl) rfl ?_
     refine wpl_nil ?_
     refine ex_then ?_
     refine wpc_ret ?_
     refine ex_then_ret ?_
     refine retv3 (.inl rfl) rfl (rv_agg Try.underlying25 rfl Try.ti25 rfl (fun w h => h.atB) rfl) (rv_tmp rfl) (rv_tmp rfl) ?_
     exact fun w1 h => ⟨HT.z, ⟨by rw [hR]; rfl, SV.nil, SV.nil⟩, by rw [hR]; rfl, h.below, by
       have h2 : Mem w [] [.row nl 0 5 1 [], .row nl 0 25 3 []] [] w1 := ((h.nilRow 25 3).nilRow 5 1).sel
       exact madeT (tg := 0) (bv := nl) (lv := nl) (bs := []) (l := []) h2⟩
    ·
     simp only [decide_eq_false_iff_not] at hc36
     obtain ⟨f2, rfl⟩ : ∃ f2, f = f2 + 1 := ⟨f - 1, by omega⟩
     have hc0 : ¬ ((headF xs).2.2.2 = false ∨ xs.length < (headF xs).2.1 + (headF xs).2.2.1) := by rw [hk]; rintro (h | h); cases h; omega
     have hsl : ((xs.drop (headF xs).2.1).take (headF xs).2.2.1).length = (headF xs).2.2.1 := by rw [List.length_take, List.length_drop]; omega
     refine wpc_skip ?_
     refine ex_then ?_
     refine wpc_seq ?_
     refine wpc_region ?_
     refine wpl_q (q_pure rfl) rfl ?_
     refine wpl_q (q_build (cs := [.int .u8 ((headF xs).1.toNat : Int), nl, nl]) rfl (built_o0 (headF xs).1)) rfl ?_
     refine wpl_t (t_alloc Try.ti25 HT.z.c rfl) rfl (fun b11 => ?_)
     refine wpl_t0 (t_stA Try.ti25 rfl rfl LenC.h OneC.h LenC.h) (fun _ => ?_)
     refine wpl_nil ?_
     refine ex_then ?_
     refine wpc_seq ?_
     refine wpc_region ?_
     refine wpl_q (q_pure rfl) rfl ?_
     refine wpl_q (q_pure rfl) rfl ?_
     first | refine wpl_q (qop_eq (q_pure rfl) (congrArg (Value.int .i64) (wk_i64 (by omega) (by omega)))) rfl ?_ | refine wpl_q (q_pure rfl) rfl ?_
     refine wpl_q (q_pure rfl) rfl ?_
     refine wpl_nil ?_
     refine ex_then ?_
     refine wpc_seq ?_
     refine wpc_seq ?_
     refine wpc_region ?_
     refine wpl_q (q_pure rfl) rfl ?_
     refine wpl_q (q_pure rfl) rfl ?_
     refine wpl_nil ?_
     refine ex_then ?_
     refine wpc_cond rfl (fun hc44 => ?_) (fun hc44 => ?_)
     ·
      simp only [decide_eq_true_eq] at hc44
      have ht : (headF xs).1.toNat < 128 := by omega
      refine wpc_seq ?_
      refine wpc_region ?_
      refine wpl_tp (t_bs0W Try.underlying22 Try.ti5) rfl (fun b45 p45 => ?_)
      refine wpl_q (q_pure rfl) rfl ?_
      refine wpl_q (q_pure rfl) rfl ?_
      refine wpl_q (q_pure rfl) rfl ?_
      refine wpl_q (q_slWlh Try.underlying22 Try.ti5 rfl rfl rfl (by first | assumption | exact SV.nil | exact SV.slv (by assumption) (by omega) (by omega) | exact arv_sv (by first | decide | (simp only [maxLen]; omega))) (by omega) (by omega)) rfl ?_
      refine wpl_tp (t_ap0 Try.underlying22 Try.ti5 rfl (by decide) rfl rfl (fun w h => ((h.seen_old hav).slv8 (headF xs).2.1 ((headF xs).2.1 + (headF xs).2.2.1) (by omega) (by omega))) (v8s_one _) (by first | omega | (simp only [maxLen]; omega) | (simp only [List.length_append, List.length_cons, List.length_nil, List.length_take, maxLen]; omega) | (simp only [List.length_append, List.length_cons, List.length_nil, List.length_take]; omega)) (by first | omega | (simp only [maxLen]; omega) | (simp only [List.length_append, List.length_cons, List.length_nil, List.length_take, maxLen]; omega) | (simp only [List.length_append, List.length_cons, List.length_nil, List.length_take]; omega))) rfl (fun b50 p50 => ?_)
      haveI := oneH (t := (headF xs).1) p50 SV.nil
      refine wpl_q (q_field Try.underlying25 rfl Try.ti22 rfl rfl _ rfl) rfl ?_
      refine wpl_t0 (t_st1 Try.ti22 rfl rfl (SV.one (by first | assumption | exact SV.nil | exact SV.slv (by assumption) (by omega) (by omega) | exact arv_sv (by first | decide | (simp only [maxLen]; omega)))) (by first | decide | omega | exact Nat.zero_lt_one | (simp; omega) | (simp; done) | (simp only [v8s_length, v32s_length, vis_length, vns_length, v64s_length]; omega)) [.int .u8 ((headF xs).1.toNat : Int), b50, nl] rfl) (fun _ => ?_)
      refine wpl_nil ?_
      refine ex_then ?_
      refine wpc_seq ?_
      refine wpc_region ?_
      refine wpl_q (q_ldN Try.underlying25 rfl Try.ti25 rfl LenC.h) rfl ?_
      refine wpl_q (q_pure rfl) rfl ?_
      refine wpl_t0 (t_stA Try.ti25 rfl rfl LenC.h OneC.h LenC.h) (fun _ => ?_)
      refine wpl_q (q_pure rfl) rfl ?_
      refine wpl_q (q_pure rfl) rfl ?_
      refine wpl_nil ?_
      refine ex_then ?_
      refine wpc_ret ?_
      refine ex_then_ret ?_
      refine retv3 (.inl rfl) rfl (rv_agg Try.underlying25 rfl Try.ti25 rfl (fun w h => h.atB) rfl) (rv_tmp rfl) (rv_tmp rfl) ?_
      have hF : takeF (f2 + 1) xs = some (.nd (headF xs).1 ((xs.drop (headF xs).2.1).take (headF xs).2.2.1) [], (headF xs).2.1 + (headF xs).2.2.1) := by rw [takeF, if_neg hc0, if_pos ht]
      have hR : takeR (f2 + 1) xs = (.nd (headF xs).1 ((xs.drop (headF xs).2.1).take (headF xs).2.2.1) [], (headF xs).2.1 + (headF xs).2.2.1, true) := by rw [takeR, hF]
      have h50 : SV b50 ((xs.drop (headF xs).2.1).take (headF xs).2.2.1).length := by rw [hsl]; have q := p50; rw [show (headF xs).2.1 + (headF xs).2.2.1 - (headF xs).2.1 = (headF xs).2.2.1 by omega] at q; simpa using q
      exact fun w1 h => ⟨.nd (headF xs).1 b50 ((xs.drop (headF xs).2.1).take (headF xs).2.2.1) nl [], ⟨by rw [hR]; rfl, h50, SV.nil⟩, by rw [hR]; rfl, h.below, by
        rw [show (headF xs).2.1 + (headF xs).2.2.1 - (headF xs).2.1 = (headF xs).2.2.1 by omega] at h
        have h2 : Mem w [] [.row b50 ((xs.drop (headF xs).2.1).take (headF xs).2.2.1).length 5 1 (v8s ((xs.drop (headF xs).2.1).take (headF xs).2.2.1)), .row nl 0 25 3 []] [] w1 := by rw [hsl]; exact (h.nilRow 25 3).sel
        exact madeT (bv := b50) (lv := nl) (l := []) h2⟩
     ·
      simp only [decide_eq_false_iff_not] at hc44
      have ht : ¬ (headF xs).1.toNat < 128 := by omega
      refine wpc_skip ?_
      refine ex_then ?_
      refine wpc_seq ?_
      refine wpc_block ?_
      refine wpc_loopc (ι := { x : Nat × List HT × Value // (x.1 ≤ (headF xs).2.2.1) ∧ (x.2.1.length ≤ x.1) ∧ (KI f2 (headF xs).2.2.1 ((xs.drop (headF xs).2.1).take (headF xs).2.2.1) x.2.1 x.1) ∧ (SV x.2.2 x.2.1.length) }) [(0, _), (1, _), (4, _), (11, _), (12, _)] (fun x Lc => (8, .int .i64 (((headF xs).2.1 + x.1.1 : Nat) : Int)) :: Lc) (fun x => Mem w [] (.blk b11 25 [.int .u8 ((headF xs).1.toNat : Int), nl, x.1.2.2] :: .blk b4 25 HT.z.c :: .row x.1.2.2 x.1.2.1.length 25 3 (hcs x.1.2.1) :: entsL x.1.2.1) []) (fun x => (headF xs).2.2.1 - x.1.1) ⟨(0, [], nl), ⟨Nat.zero_le _, Nat.le_refl _, by have q := KI_start (f := f2) (seg := ((xs.drop (headF xs).2.1).take (headF xs).2.2.1)); rw [hsl] at q; exact q, SV.nil⟩⟩ (by repeat (first | exact trivial | refine ⟨rfl, ?_⟩)) ?_ ?_
      ·
       exact fun w1 h => by
         have h2 : Mem w [] [.blk b11 25 [.int .u8 ((headF xs).1.toNat : Int), nl, nl], .blk b4 25 HT.z.c, .row nl 0 25 3 []] [] w1 := (h.nilRow 25 3).sel
         exact h2
      ·
       rintro ⟨⟨c, ns, nv⟩, ⟨hi0, hi1, hi2, hi3⟩⟩; try dsimp only
       have hi0 : c ≤ (headF xs).2.2.1 := hi0; have hi1 : ns.length ≤ c := hi1; have hi2 : KI f2 (headF xs).2.2.1 ((xs.drop (headF xs).2.1).take (headF xs).2.2.1) ns c := hi2; have hi3 : SV nv ns.length := hi3
       haveI := oneH (t := (headF xs).1) SV.nil hi3
       refine wpc_seq ?_
       refine wpc_seq ?_
       refine wpc_region ?_
       refine wpl_q (q_pure rfl) rfl ?_
       refine wpl_q (q_pure rfl) rfl ?_
       refine wpl_q (q_pure rfl) rfl ?_
       refine wpl_nil ?_
       refine ex_then ?_
       refine wpc_cond rfl (fun hc56 => ?_) (fun hc56 => ?_)
       ·
        simp only [decide_eq_true_eq] at hc56
        have hcn : c < (headF xs).2.2.1 := by omega
        have hxl2 : ((xs.drop ((headF xs).2.1 + c)).take ((headF xs).2.1 + (headF xs).2.2.1 - ((headF xs).2.1 + c))).length = (headF xs).2.2.1 - c := by rw [List.length_take, List.length_drop]; omega
        have hsg : ((xs.drop (headF xs).2.1).take (headF xs).2.2.1).drop c = ((xs.drop ((headF xs).2.1 + c)).take ((headF xs).2.1 + (headF xs).2.2.1 - ((headF xs).2.1 + c))) := by rw [List.drop_take, List.drop_drop]; congr 1; omega
        refine wpc_skip ?_
        refine ex_then ?_
        refine wpc_block ?_
        refine wpc_seq ?_
        refine wpc_region ?_
        refine wpl_q (q_pure rfl) rfl ?_
        refine wpl_q (q_pure rfl) rfl ?_
        refine wpl_q (q_pure rfl) rfl ?_
        refine wpl_q (q_slWlh Try.underlying22 Try.ti5 rfl rfl rfl (by first | assumption | exact SV.nil | exact SV.slv (by assumption) (by omega) (by omega) | exact arv_sv (by first | decide | (simp only [maxLen]; omega))) (by omega) (by omega)) rfl ?_
        refine wpl_q (q_pure rfl) rfl ?_
        refine wpl_q (q_addN (b := 1) rfl rfl (by first | omega | (simp only [maxLen]; omega) | (simp only [List.length_append, List.length_cons, List.length_nil, List.length_take, maxLen]; omega) | (simp only [List.length_append, List.length_cons, List.length_nil, List.length_take]; omega))) rfl ?_
        refine wpl_tp (t_callE (fun y : HT => .blk b11 25 [.int .u8 ((headF xs).1.toNat : Int), nl, nv] :: .blk b4 25 HT.z.c :: .row nv ns.length 25 3 (hcs ns) :: (y.ents ++ entsL ns)) (fun y => List.perm_append_comm_assoc y.ents [.blk b11 25 [.int .u8 ((headF xs).1.toNat : Int), nl, nv], .blk b4 25 HT.z.c, .row nv ns.length 25 3 (hcs ns)] (entsL ns)) Try.hb59 rfl fun w h => ih f2 rfl _ ((xs.drop ((headF xs).2.1 + c)).take ((headF xs).2.1 + (headF xs).2.2.1 - ((headF xs).2.1 + c))) w (((h.seen_old hav).slv8 ((headF xs).2.1 + c) ((headF xs).2.1 + (headF xs).2.2.1) (by omega) (by omega)).re8) (by rw [hxl2]; omega)) rfl (fun b64 p64 => ?_)
        haveI := p64.2.one
        have sb75 := p64.2
        refine wpl_q (q_pure rfl) rfl ?_
        refine wpl_q (q_pure rfl) rfl ?_
        refine wpl_q (q_pure rfl) rfl ?_
        refine wpl_q (q_pure rfl) rfl ?_
        refine wpl_t (t_alloc Try.ti25 HT.z.c rfl) rfl (fun b13 => ?_)
        refine wpl_t0 (t_stA Try.ti25 rfl rfl LenC.h OneC.h LenC.h) (fun _ => ?_)
        refine wpl_q (q_pure rfl) rfl ?_
        refine wpl_q (q_pure rfl) rfl ?_
        refine wpl_nil ?_
        refine ex_then ?_
        refine wpc_seq ?_
        refine wpc_seq ?_
        refine wpc_region ?_
        refine wpl_q (q_pure rfl) rfl ?_
        refine wpl_q (q_pure rfl) rfl ?_
        refine wpl_nil ?_
        refine ex_then ?_
        refine wpc_cond rfl (fun hc69 => ?_) (fun hc69 => ?_)
        ·
         have hF2 : takeF f2 ((xs.drop ((headF xs).2.1 + c)).take ((headF xs).2.1 + (headF xs).2.2.1 - ((headF xs).2.1 + c))) = none := takeR_none (by simpa using hc69)
         have hF : takeF (f2 + 1) xs = none := by rw [takeF, if_neg hc0, if_neg ht, KI_none hi2 (by rw [hsl]; omega) (by rw [hsg]; exact hF2)]; rfl
         have hR : takeR (f2 + 1) xs = (Tr.z, 0, false) := by rw [takeR, hF]
         refine wpc_seq ?_
         refine wpc_region ?_
         refine wpl_q (q_build (cs := [.int .u8 0, nl, nl]) rfl built_oz) rfl ?_
         refine wpl_t0 (t_stA Try.ti25 rfl rfl LenC.h OneC.h LenC.h) (fun _ => ?_)
         refine wpl_q (q_pure rfl) rfl ?_
         refine wpl_q (q_pure rfl) rfl ?_
         refine wpl_nil ?_
         refine ex_then ?_
         refine wpc_ret ?_
         refine ex_then_ret ?_
         refine ex_block_ret ?_
         refine ex_then_ret ?_
         refine ex_block_ret ?_
         refine ex_then_ret ?_
         refine retv3 (.inl rfl) rfl (rv_agg Try.underlying25 rfl Try.ti25 rfl (fun w h => h.atB) rfl) (rv_tmp rfl) (rv_tmp rfl) ?_
         exact fun w1 h => ⟨HT.z, ⟨by rw [hR]; rfl, SV.nil, SV.nil⟩, by rw [hR]; rfl, h.below, by
           have h2 : Mem w [] [.row nl 0 5 1 [], .row nl 0 25 3 []] [] w1 := ((h.nilRow 25 3).nilRow 5 1).sel
           exact madeT (tg := 0) (bv := nl) (lv := nl) (bs := []) (l := []) h2⟩
        ·
         have hF2 : takeF f2 ((xs.drop ((headF xs).2.1 + c)).take ((headF xs).2.1 + (headF xs).2.2.1 - ((headF xs).2.1 + c))) = some ((takeR f2 ((xs.drop ((headF xs).2.1 + c)).take ((headF xs).2.1 + (headF xs).2.2.1 - ((headF xs).2.1 + c)))).1, (takeR f2 ((xs.drop ((headF xs).2.1 + c)).take ((headF xs).2.1 + (headF xs).2.2.1 - ((headF xs).2.1 + c)))).2.1) := takeR_some (by simpa using hc69)
         have hmm := takeF_le hF2
         have hKI := KI_some (y := b64) hi2 (by rw [hsl]; omega) (show takeF f2 (((xs.drop (headF xs).2.1).take (headF xs).2.2.1).drop c) = some (b64.tr, (takeR f2 ((xs.drop ((headF xs).2.1 + c)).take ((headF xs).2.1 + (headF xs).2.2.1 - ((headF xs).2.1 + c)))).2.1) by rw [hsg, p64.1]; exact hF2)
         refine wpc_skip ?_
         refine ex_then ?_
         refine wpc_seq ?_
         refine wpc_region ?_
         refine wpl_q (q_field Try.underlying25 rfl Try.ti23 rfl rfl _ rfl) rfl ?_
         refine wpl_q (q_ld Try.underlying23 rfl rfl rfl) rfl ?_
         refine wpl_q (q_ldN Try.underlying25 rfl Try.ti25 rfl LenC.h) rfl ?_
         refine wpl_tp (t_bsG [.agg b64.c.toArray] b64.c Try.underlying23 Try.ti25 rfl (by decide) rfl (by decide) (by decide) rfl (by intro v hv; rw [List.mem_singleton] at hv; subst hv; exact HT.c_length _) (List.append_nil _)) rfl (fun b74 p74 => ?_)
         refine wpl_tp (t_apW Try.underlying23 Try.ti25 rfl (by decide) rfl rfl (fun w h => by first | exact h.seenV | exact h.seenA (by first | decide | (simp only [maxLen]; omega)) (by first | with_reducible rfl | (simp only [v8s_length, v32s_length, vis_length, vns_length, v64s_length, List.length_replicate]; first | done | with_reducible assumption | omega) | (rw [v8s_length]; (first | with_reducible assumption | with_reducible exact shortF_length _ | with_reducible exact stepF_length _ _ _ | with_reducible exact sumF_length _ | with_reducible exact climbF_length _ (by first | with_reducible assumption | with_reducible exact shortF_length _ | with_reducible exact beginF_length _ _ | with_reducible exact getD_mem_len (by assumption) (by omega)) _ _ _ | with_reducible exact beginF_length _ _ | with_reducible exact chainF_length _ _ _ | with_reducible exact recF_length _ _ | with_reducible exact publicF_length _ | with_reducible exact getD_mem_len (by assumption) (by omega) | (with_reducible exact List.length_replicate))) | rfl) | exact h.seen_old (by assumption) | exact h.seen_oldL (by assumption) (by assumption) | exact h.seen_fact (by repeat (first | exact List.mem_cons_self .. | apply List.mem_cons_of_mem))) OneC.h (by first | omega | (simp only [maxLen]; omega) | (simp only [List.length_append, List.length_cons, List.length_nil, List.length_take, maxLen]; omega) | (simp only [List.length_append, List.length_cons, List.length_nil, List.length_take]; omega)) (by first | omega | (simp only [maxLen]; omega) | (simp only [List.length_append, List.length_cons, List.length_nil, List.length_take, maxLen]; omega) | (simp only [List.length_append, List.length_cons, List.length_nil, List.length_take]; omega)) (hcs (ns ++ [b64])) (cat_snoc HT.c ns b64)) rfl (fun b75 p75 => ?_)
         refine wpl_q (q_field Try.underlying25 rfl Try.ti23 rfl rfl _ rfl) rfl ?_
         refine wpl_t0 (t_st1 Try.ti23 rfl rfl (SV.one (by first | assumption | exact SV.nil | exact SV.slv (by assumption) (by omega) (by omega) | exact arv_sv (by first | decide | (simp only [maxLen]; omega)))) (by first | decide | omega | exact Nat.zero_lt_one | (simp; omega) | (simp; done) | (simp only [v8s_length, v32s_length, vis_length, vns_length, v64s_length]; omega)) [.int .u8 ((headF xs).1.toNat : Int), nl, b75] rfl) (fun _ => ?_)
         refine wpl_nil ?_
         refine ex_then ?_
         refine wpc_region ?_
         refine wpl_q (q_pure rfl) rfl ?_
         refine wpl_q (q_pure rfl) rfl ?_
         first | refine wpl_q (qop_eq (q_pure rfl) (congrArg (Value.int .i64) (wk_i64 (by omega) (by omega)))) rfl ?_ | refine wpl_q (q_pure rfl) rfl ?_
         refine wpl_re 79 rfl (congrArg (fun n : Nat => Value.int .i64 (n : Int)) (show (headF xs).2.1 + c + (takeR f2 ((xs.drop ((headF xs).2.1 + c)).take ((headF xs).2.1 + (headF xs).2.2.1 - ((headF xs).2.1 + c)))).2.1 = (headF xs).2.1 + (c + (takeR f2 ((xs.drop ((headF xs).2.1 + c)).take ((headF xs).2.1 + (headF xs).2.2.1 - ((headF xs).2.1 + c)))).2.1) by omega)) ?_
         refine wpl_q (q_pure rfl) rfl ?_
         refine wpl_nil ?_
         refine ex_block ?_
         refine ex_again ⟨(c + (takeR f2 ((xs.drop ((headF xs).2.1 + c)).take ((headF xs).2.1 + (headF xs).2.2.1 - ((headF xs).2.1 + c)))).2.1, ns ++ [b64], b75), ⟨by dsimp only; omega, by rw [snoc_len]; dsimp only; omega, hKI, by rw [snoc_len]; exact p75⟩⟩ ?_ ?_ ?_
         ·
          exact (by repeat (first | exact trivial | refine ⟨rfl, ?_⟩))
         ·
          exact fun w h => by
            dsimp only
            rw [snoc_len]
            have h2 := h.sub (M' := .blk b11 25 [.int .u8 ((headF xs).1.toNat : Int), nl, b75] :: .blk b4 25 HT.z.c :: .row b75 (ns.length + 1) 25 3 (hcs (ns ++ [b64])) :: (b64.ents ++ entsL ns)) (S' := []) SubC.h .nil
            exact h2.perm ((((entsL_snoc ns b64).cons _).cons _).cons _)
         ·
          (show (headF xs).2.2.1 - (c + (takeR f2 ((xs.drop ((headF xs).2.1 + c)).take ((headF xs).2.1 + (headF xs).2.2.1 - ((headF xs).2.1 + c)))).2.1) < (headF xs).2.2.1 - c); omega
       ·
        simp only [decide_eq_false_iff_not] at hc56
        have hF : takeF (f2 + 1) xs = some (.nd (headF xs).1 [] (trs ns), (headF xs).2.1 + (headF xs).2.2.1) := by rw [takeF, if_neg hc0, if_neg ht, KI_end hi2 (by rw [hsl]; omega)]; rfl
        have hR : takeR (f2 + 1) xs = (.nd (headF xs).1 [] (trs ns), (headF xs).2.1 + (headF xs).2.2.1, true) := by rw [takeR, hF]
        refine wpc_exit ?_
        refine ex_then_exit ?_
        refine ex_then_exit ?_
        refine ex_block_hit ?_
        refine ex_then ?_
        refine wpc_seq ?_
        refine wpc_region ?_
        refine wpl_q (q_ldN Try.underlying25 rfl Try.ti25 rfl LenC.h) rfl ?_
        refine wpl_q (q_pure rfl) rfl ?_
        refine wpl_t0 (t_stA Try.ti25 rfl rfl LenC.h OneC.h LenC.h) (fun _ => ?_)
        refine wpl_q (q_pure rfl) rfl ?_
        refine wpl_q (q_pure rfl) rfl ?_
        refine wpl_nil ?_
        refine ex_then ?_
        refine wpc_ret ?_
        refine retv3 (.inl rfl) rfl (rv_agg Try.underlying25 rfl Try.ti25 rfl (fun w h => h.atB) rfl) (rv_tmp rfl) (rv_tmp rfl) ?_
        exact fun w1 h => ⟨.nd (headF xs).1 nl [] nv ns, ⟨by rw [hR]; rfl, SV.nil, hi3⟩, by rw [hR]; rfl, h.below, by
          have h2 : Mem w [] (.row nl 0 5 1 [] :: .row nv ns.length 25 3 (hcs ns) :: entsL ns) [] w1 := (h.nilRow 5 1).sub SubC.h .nil
          exact madeT (bv := nl) (bs := []) h2⟩

end Go.Proofs.Ytommkigkkeailaa
