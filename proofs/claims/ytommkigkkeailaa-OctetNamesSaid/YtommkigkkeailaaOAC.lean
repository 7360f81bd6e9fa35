/- The decoder of the reference. -/
import Derived.Test.YtommkigkkeailaaOAB
namespace Go.Proofs.Ytommkigkkeailaa
set_option linter.unusedSimpArgs false
set_option linter.unusedVariables false
open Go Go.PL Go.RowKit
theorem take : ∀ (f d : Nat) (av : Value) (xs : List UInt8) (w : World), Seen w.cell? av xs.length 1 (v8s xs) → d + f = 13 → xs.length ≤ 70000 → Calls Try.prog 59 [av, .int .i64 ((d : Nat) : Int)].toArray w (GivesP w (fun y : HT => y.tr = (takeR f xs).1 ∧ y.sv) (fun y => .tuple #[.agg y.c.toArray, .int .i64 (((takeR f xs).2.1 : Nat) : Int), .bool (takeR f xs).2.2]) (fun y => y.ents) (fun _ => []))
  | 0, d, av, xs, w, h, hd, hx => take_step av xs d w h 0 hd hx (fun f2 e => by omega)
  | f + 1, d, av, xs, w, h, hd, hx => take_step av xs d w h (f + 1) hd hx (fun f2 e av xs w hs hx => by
    obtain rfl : f = f2 := by omega
    exact take f (d + 1) av xs w hs (by omega) hx)
theorem kidsW_size {f : Nat} (ih : ∀ (xs : List UInt8) (t : Tr) (m : Nat), takeF f xs = some (t, m) → t.byt + 2 * t.cnt ≤ m ∧ t.dep ≤ f) : ∀ (k : Nat) (ys : List UInt8) (l : List Tr), kidsW (takeF f) k ys = some l → bytL l + 2 * cntL l ≤ ys.length ∧ depL l ≤ f
  | 0, ys, l, h => by
    unfold kidsW at h
    split at h
    · cases h; exact ⟨Nat.zero_le _, Nat.zero_le _⟩
    · cases h
  | k + 1, ys, l, h => by
    unfold kidsW at h
    split at h
    · cases h; exact ⟨Nat.zero_le _, Nat.zero_le _⟩
    · obtain ⟨⟨t, m⟩, h1, h2⟩ := Option.bind_eq_some_iff.1 h
      obtain ⟨l2, h3, rfl⟩ := Option.map_eq_some_iff.1 h2
      have a := ih _ _ _ h1
      have b := kidsW_size ih k _ _ h3
      have c := takeF_le h1
      rw [List.length_drop] at b
      dsimp only at a b c ⊢
      rw [bytL, cntL, depL]
      omega
theorem takeF_size : ∀ (f : Nat) (xs : List UInt8) (t : Tr) (m : Nat), takeF f xs = some (t, m) → t.byt + 2 * t.cnt ≤ m ∧ t.dep ≤ f
  | 0, xs, t, m, h => by cases h
  | f + 1, xs, t, m, h => by
    have hh := headF_le xs
    unfold takeF at h
    split at h
    · cases h
    · rename_i h1
      rw [not_or, Bool.not_eq_false] at h1
      have h2 := hh.2.2.2 h1.1
      split at h
      · cases h
        have e : ((xs.drop (headF xs).2.1).take (headF xs).2.2.1).length ≤ (headF xs).2.2.1 := by rw [List.length_take]; omega
        refine ⟨?_, ?_⟩
        · rw [Tr.byt, Tr.cnt, bytL, cntL]; omega
        · rw [Tr.dep, depL]; omega
      · obtain ⟨l, h3, e⟩ := Option.map_eq_some_iff.1 h
        cases e
        have b := kidsW_size (takeF_size f) _ _ _ h3
        have e : ((xs.drop (headF xs).2.1).take (headF xs).2.2.1).length ≤ (headF xs).2.2.1 := by rw [List.length_take]; omega
        refine ⟨?_, ?_⟩
        · rw [Tr.byt, Tr.cnt, List.length_nil]; omega
        · rw [Tr.dep]; omega
/-- What bytes are decoded to. -/
def decF (xs : List UInt8) : Tr × Int :=
  if 65536 < xs.length then (Tr.z, 4) else match takeF 12 xs with
    | some (t, m) => if m = xs.length ∧ checkF t = 0 then (t, 0) else (Tr.z, 12)
    | none => (Tr.z, 12)

set_option maxRecDepth 100000 in
theorem refDecode (av : Value) (xs : List UInt8) (w : World) (hav : Seen w.cell? av xs.length 1 (v8s xs))  :
    Calls Try.prog 36 [av].toArray w (GivesP w (fun y : HT => y.tr = (decF xs).1 ∧ y.sv) (fun y => .tuple #[.agg y.c.toArray, .int .i64 (decF xs).2]) (fun y => y.ents) (fun _ => [])) := by
  have sav := hav.sv
  have lav := sav.le
  simp only [maxLen] at lav
  refine enter (m := 32) (R := Mem w [] [] []) Try.func36 rfl rfl (Nat.le_of_ble_eq_true rfl) (Mem.start w) ?_
  refine wpc_seq ?_
  refine wpc_region ?_
  refine wpl_t (t_alloc Try.ti25 HT.z.c rfl) rfl (fun b2 => ?_)
  refine wpl_q (q_pure rfl) rfl ?_
  refine wpl_nil ?_
  refine ex_then ?_
  refine wpc_seq ?_
  refine wpc_seq ?_
  refine wpc_region ?_
  refine wpl_q (q_pure rfl) rfl ?_
  refine wpl_q (q_lenW Try.underlying22 rfl (by first | assumption | exact SV.nil | exact SV.slv (by assumption) (by omega) (by omega) | exact arv_sv (by first | decide | (simp only [maxLen]; omega)))) rfl ?_
  refine wpl_q (q_pure rfl) rfl ?_
  refine wpl_nil ?_
  refine ex_then ?_
  refine wpc_cond rfl (fun hc9 => ?_) (fun hc9 => ?_)
  ·
   simp only [decide_eq_true_eq] at hc9
   have hR : decF xs = (Tr.z, 4) := by rw [decF, if_pos (by omega)]
   refine wpc_seq ?_
   refine wpc_region ?_
   refine wpl_q (q_build (cs := HT.z.c) rfl built_oz) rfl ?_
   refine wpl_t0 (t_stA Try.ti25 rfl rfl LenC.h OneC.h LenC.h) (fun _ => ?_)
   refine wpl_q (q_pure rfl) rfl ?_
   refine wpl_nil ?_
   refine ex_then ?_
   refine wpc_ret ?_
   refine ex_then_ret ?_
   refine retv2 (.inl rfl) rfl (rv_agg Try.underlying25 rfl Try.ti25 rfl (fun w h => h.atB) LenC.h) (rv_tmp rfl) ?_
   exact fun w1 h => ⟨HT.z, ⟨by rw [hR]; rfl, SV.nil, SV.nil⟩, by rw [hR], h.below, by
     have h2 : Mem w [] [.row nl 0 5 1 [], .row nl 0 25 3 []] [] w1 := ((h.nilRow 25 3).nilRow 5 1).sel
     exact madeT (tg := 0) (bv := nl) (lv := nl) (bs := []) (l := []) h2⟩
  ·
   simp only [decide_eq_false_iff_not] at hc9
   have hlx : ¬ 65536 < xs.length := by omega
   refine wpc_skip ?_
   refine ex_then ?_
   refine wpc_seq ?_
   refine wpc_region ?_
   refine wpl_q (q_pure rfl) rfl ?_
   refine wpl_tp (t_callE (fun y : HT => .blk b2 25 HT.z.c :: y.ents) (fun y => List.perm_append_comm) Try.hb59 rfl fun w h => take 12 1 av xs w (h.seen_old hav) rfl (by omega)) rfl (fun b13 p13 => ?_)
   haveI := p13.2.one
   refine wpl_q (q_pure rfl) rfl ?_
   refine wpl_q (q_pure rfl) rfl ?_
   refine wpl_q (q_pure rfl) rfl ?_
   refine wpl_q (q_pure rfl) rfl ?_
   refine wpl_t (t_alloc Try.ti25 HT.z.c rfl) rfl (fun b4 => ?_)
   refine wpl_t0 (t_stA Try.ti25 rfl rfl LenC.h OneC.h LenC.h) (fun _ => ?_)
   refine wpl_q (q_pure rfl) rfl ?_
   refine wpl_q (q_pure rfl) rfl ?_
   refine wpl_nil ?_
   refine ex_then ?_
   refine wpc_seq ?_
   refine wpc_seq ?_
   refine wpc_region ?_
   refine wpl_q (q_pure rfl) rfl ?_
   refine wpl_q (q_pure rfl) rfl ?_
   refine wpl_q (q_pure rfl) rfl ?_
   refine wpl_bool2 19 18 rfl rfl (fun hb19 => ?_) (fun hb19 => ?_)
   ·
    have hT : takeF 12 xs = none := takeR_none (by simpa using hb19)
    have hR : decF xs = (Tr.z, 12) := by rw [decF, if_neg hlx, hT]
    refine wpl_off rfl rfl rfl rfl ?_
    refine wpl_off rfl rfl rfl rfl ?_
    refine wpl_off rfl rfl rfl rfl ?_
    refine wpl_off rfl rfl rfl rfl ?_
    refine wpl_q (q_pure rfl) rfl ?_
    refine wpl_q (q_pure rfl) rfl ?_
    refine wpl_off rfl rfl rfl rfl ?_
    refine wpl_off rfl rfl rfl rfl ?_
    refine wpl_off rfl rfl rfl rfl ?_
    refine wpl_q (q_pure rfl) rfl ?_
    refine wpl_nil ?_
    refine ex_then ?_
    refine wpc_cond_t rfl ?_
    refine wpc_seq ?_
    refine wpc_region ?_
    refine wpl_q (q_build (cs := HT.z.c) rfl built_oz) rfl ?_
    refine wpl_t0 (t_stA Try.ti25 rfl rfl LenC.h OneC.h LenC.h) (fun _ => ?_)
    refine wpl_q (q_pure rfl) rfl ?_
    refine wpl_nil ?_
    refine ex_then ?_
    refine wpc_ret ?_
    refine ex_then_ret ?_
    refine retv2 (.inl rfl) rfl (rv_agg Try.underlying25 rfl Try.ti25 rfl (fun w h => h.atB) LenC.h) (rv_tmp rfl) ?_
    exact fun w1 h => ⟨HT.z, ⟨by rw [hR]; rfl, SV.nil, SV.nil⟩, by rw [hR], h.below, by
      have h2 : Mem w [] [.row nl 0 5 1 [], .row nl 0 25 3 []] [] w1 := ((h.nilRow 25 3).nilRow 5 1).sel
      exact madeT (tg := 0) (bv := nl) (lv := nl) (bs := []) (l := []) h2⟩
   ·
    have hT : takeF 12 xs = some ((takeR 12 xs).1, (takeR 12 xs).2.1) := takeR_some (by simpa using hb19)
    have hts := takeF_size _ _ _ _ hT
    have htl := takeF_le hT
    have hsm : Sm b13.tr := by rw [p13.1]; unfold Sm; omega
    have hdp : b13.tr.dep ≤ 1000000 := by rw [p13.1]; omega
    refine wpl_on rfl rfl ?_
    refine wpl_q (q_pure rfl) rfl ?_
    refine wpl_on rfl rfl ?_
    refine wpl_q (q_pure rfl) rfl ?_
    refine wpl_on rfl rfl ?_
    refine wpl_q (q_lenW Try.underlying22 rfl (by first | assumption | exact SV.nil | exact SV.slv (by assumption) (by omega) (by omega) | exact arv_sv (by first | decide | (simp only [maxLen]; omega)))) rfl ?_
    refine wpl_on rfl rfl ?_
    refine wpl_q (q_pure rfl) rfl ?_
    refine wpl_q (q_pure rfl) rfl ?_
    refine wpl_q (q_pure rfl) rfl ?_
    refine wpl_bool2 25 23 rfl rfl (fun hb25 => ?_) (fun hb25 => ?_)
    ·
     have hne : (takeR 12 xs).2.1 ≠ xs.length := by intro e; rw [e] at hb25; simp at hb25
     have hR : decF xs = (Tr.z, 12) := by rw [decF, if_neg hlx, hT]; exact if_neg (fun h => hne h.1)
     refine wpl_off rfl rfl rfl rfl ?_
     refine wpl_off rfl rfl rfl rfl ?_
     refine wpl_off rfl rfl rfl rfl ?_
     refine wpl_q (q_pure rfl) rfl ?_
     refine wpl_nil ?_
     refine ex_then ?_
     refine wpc_cond_t rfl ?_
     refine wpc_seq ?_
     refine wpc_region ?_
     refine wpl_q (q_build (cs := HT.z.c) rfl built_oz) rfl ?_
     refine wpl_t0 (t_stA Try.ti25 rfl rfl LenC.h OneC.h LenC.h) (fun _ => ?_)
     refine wpl_q (q_pure rfl) rfl ?_
     refine wpl_nil ?_
     refine ex_then ?_
     refine wpc_ret ?_
     refine ex_then_ret ?_
     refine retv2 (.inl rfl) rfl (rv_agg Try.underlying25 rfl Try.ti25 rfl (fun w h => h.atB) LenC.h) (rv_tmp rfl) ?_
     exact fun w1 h => ⟨HT.z, ⟨by rw [hR]; rfl, SV.nil, SV.nil⟩, by rw [hR], h.below, by
       have h2 : Mem w [] [.row nl 0 5 1 [], .row nl 0 25 3 []] [] w1 := ((h.nilRow 25 3).nilRow 5 1).sel
       exact madeT (tg := 0) (bv := nl) (lv := nl) (bs := []) (l := []) h2⟩
    ·
     have heq : (takeR 12 xs).2.1 = xs.length := by simp only [bne_eq_false_iff_eq, decide_eq_false_iff_not, Decidable.not_not] at hb25; omega
     refine wpl_on rfl rfl ?_
     refine wpl_q (q_ldN Try.underlying25 rfl Try.ti25 rfl LenC.h) rfl ?_
     refine wpl_on rfl rfl ?_
     refine wpl_t (t_pur Try.hb31 rfl fun w h => refCheck b13 w (Mem.hseen h) hsm hdp) rfl (fun b27 => ?_)
     refine wpl_on rfl rfl ?_
     refine wpl_q (q_pure rfl) rfl ?_
     refine wpl_q (q_pure rfl) rfl ?_
     refine wpl_nil ?_
     refine ex_then ?_
     refine wpc_cond rfl (fun hc29 => ?_) (fun hc29 => ?_)
     ·
      have hck : ¬ checkF (takeR 12 xs).1 = 0 := by rw [← p13.1]; simpa using hc29
      have hR : decF xs = (Tr.z, 12) := by rw [decF, if_neg hlx, hT]; exact if_neg (fun h => hck h.2)
      refine wpc_seq ?_
      refine wpc_region ?_
      refine wpl_q (q_build (cs := HT.z.c) rfl built_oz) rfl ?_
      refine wpl_t0 (t_stA Try.ti25 rfl rfl LenC.h OneC.h LenC.h) (fun _ => ?_)
      refine wpl_q (q_pure rfl) rfl ?_
      refine wpl_nil ?_
      refine ex_then ?_
      refine wpc_ret ?_
      refine ex_then_ret ?_
      refine retv2 (.inl rfl) rfl (rv_agg Try.underlying25 rfl Try.ti25 rfl (fun w h => h.atB) LenC.h) (rv_tmp rfl) ?_
      exact fun w1 h => ⟨HT.z, ⟨by rw [hR]; rfl, SV.nil, SV.nil⟩, by rw [hR], h.below, by
        have h2 : Mem w [] [.row nl 0 5 1 [], .row nl 0 25 3 []] [] w1 := ((h.nilRow 25 3).nilRow 5 1).sel
        exact madeT (tg := 0) (bv := nl) (lv := nl) (bs := []) (l := []) h2⟩
     ·
      have hck : checkF (takeR 12 xs).1 = 0 := by rw [← p13.1]; simpa using hc29
      have hR : decF xs = ((takeR 12 xs).1, 0) := by rw [decF, if_neg hlx, hT]; exact if_pos ⟨heq, hck⟩
      refine wpc_skip ?_
      refine ex_then ?_
      refine wpc_seq ?_
      refine wpc_region ?_
      refine wpl_q (q_ldN Try.underlying25 rfl Try.ti25 rfl LenC.h) rfl ?_
      refine wpl_t0 (t_stA Try.ti25 rfl rfl LenC.h OneC.h LenC.h) (fun _ => ?_)
      refine wpl_q (q_pure rfl) rfl ?_
      refine wpl_nil ?_
      refine ex_then ?_
      refine wpc_ret ?_
      refine retv2 (.inl rfl) rfl (rv_agg Try.underlying25 rfl Try.ti25 rfl (fun w h => h.atB) LenC.h) (rv_tmp rfl) ?_
      exact fun w1 h => ⟨b13, ⟨by rw [hR]; exact p13.1, p13.2⟩, by rw [hR], h.below, h.made SubC.h .nil⟩

end Go.Proofs.Ytommkigkkeailaa
