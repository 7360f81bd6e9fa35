/- What the statement reaches, in order. -/
import Derived.Test.YtjpfhkjmjnjggaaDoorTI
import Derived.Test.YtjpfhkjmjnjggaaDoorPLI
import Derived.Test.YtjpfhkjmjnjggaaDoorPLZ
import Derived.Test.YtjpfhkjmjnjggaaDoorPLL
import Derived.Test.YtjpfhkjmjnjggaaDoorPLN
import Derived.Test.YtjpfhkjmjnjggaaDoorPLP
import Derived.WalkKit
import Derived.ProofKit
import Derived.OpenShut
import Derived.ChangeOld
import Derived.Below
import Derived.Carry
import Derived.LaidMore
import Derived.Deep.DeepHandedRow
import Derived.Deep.DeepWitnessRowRef
import Derived.Lib.LaidTab
import Derived.Stop.Joined
import Derived.Test.YtjpfhkjmjnjggaaDoorSS3
namespace Go.Proofs.YtjpfhkjmjnjggaaDoor
set_option linter.unusedSimpArgs false
set_option linter.unusedVariables false
open Go Go.PL Go.RowKit
set_option maxRecDepth 100000 in
theorem messages1 (yl : Nat) (pp : Nat) (p : Pth) (J : List Nat → List (Nat × List UInt8) → World → Prop) (K : World → Prop) (w : World)  (hst : StabJ J) (hinv : ∀ T pre w1, J T pre w1 → InvM p w1) (hsk : StabK K) (hy : YieldS Tryd.prog yl encM AtM (msgs p) J K) (hJ0 : J [pp] [] w) (hpp : w.heap[pp]? = some (.cells p.c.toArray 29 (0, 0))) (hlim : ∀ h ∈ p.hs, h.chs.length ≤ 100 ∧ h.ps.length ≤ 100) :
    Calls Tryd.prog 72 [.func (.yield yl) #[] #[], .pointer (some ⟨pp, 0, none⟩)].toArray w (IterPost J K (msgs p)) := by
  obtain ⟨pf, pa, pb, pl, hv, hs⟩ := p
  have hp := (hinv _ _ _ hJ0).1
  have hh : Seen w.cell? hv hs.length 24 (hcs hs) := hp.1
  have svh := hh.sv
  have lh := svh.le
  simp only [maxLen] at lh
  change ∀ h ∈ hs, h.chs.length ≤ 100 ∧ h.ps.length ≤ 100 at hlim
  refine enter (m := 65) (R := Mem w [pp] [.blk pp 29 [.int .u8 (pf.toNat : Int), .int .u64 (pa.toNat : Int), .int .u64 (pb.toNat : Int), .int .i64 pl, hv]] []) Tryd.func72 rfl rfl (Nat.le_of_ble_eq_true rfl) (Mem.start1 w hpp) ?_
  refine wpc_seq ?_
  refine wpc_region ?_
  refine wpl_q (q_field Tryd.underlying29 rfl Tryd.ti26 rfl rfl _ rfl) rfl ?_
  refine wpl_q (q_field Tryd.underlying26 rfl Tryd.ti24 rfl rfl _ rfl) rfl ?_
  refine wpl_q (q_ldP Tryd.underlying24 rfl Tryd.ti24 rfl (adL pa pb) rfl (by lens_)) rfl ?_
  refine wpl_t (t_alloc Tryd.ti24 [.int .u64 0, .int .u64 0] rfl) rfl (fun b3 => ?_)
  refine wpl_t0 (t_stA Tryd.ti24 rfl rfl (by first | exact LenC.h | exact adL_len _ _ | (rw [v8s_length]; exact sumF_length _)) (by first | exact OneC.h | exact v8s_one _ | exact adL_one _ _) (by first | exact LenC.h | rfl)) (fun _ => ?_)
  refine wpl_nil ?_
  refine ex_then ?_
  refine wpc_seq ?_
  refine wpc_draw 17 (by kernel_rfl) (fun _ h => h.drew) ?_
  refine wpd_p 0 rfl (by kernel_rfl) trivial (q_field Tryd.underlying29 rfl Tryd.ti26 rfl rfl _ rfl) rfl sk0 ?_
  refine wpd_p 1 rfl (by kernel_rfl) trivial (q_field Tryd.underlying26 rfl Tryd.ti5 rfl rfl _ rfl) rfl sk0 ?_
  refine wpd_q 2 rfl (by kernel_rfl) trivial (q_ld Tryd.underlying5 rfl rfl (by first | exact v8s_get (by len_) | rfl)) rfl (fun _ h => h) ?_
  refine wpd_p 3 rfl (by kernel_rfl) trivial (q_field Tryd.underlying29 rfl Tryd.ti26 rfl rfl _ rfl) rfl sk0 ?_
  refine wpd_p 4 rfl (by kernel_rfl) trivial (q_field Tryd.underlying26 rfl Tryd.ti3 rfl rfl _ rfl) rfl sk0 ?_
  refine wpd_q 5 rfl (by kernel_rfl) trivial (q_ld Tryd.underlying3 rfl rfl (by first | exact vns_get (by len_) | rfl)) rfl (fun _ h => h) ?_
  refine wpd_p 6 rfl (by kernel_rfl) trivial (q8_conv Tryd.underlying3 Tryd.underlying5 rfl) rfl sk0 ?_
  refine wpd_p 8 rfl (by kernel_rfl) trivial (q_field Tryd.underlying24 rfl Tryd.ti22 rfl rfl _ rfl) rfl sk0 ?_
  refine wpd_q 9 rfl (by kernel_rfl) trivial (q_ld Tryd.underlying22 rfl rfl (by first | exact v64s_get (by len_) | rfl)) rfl (fun _ h => h) ?_
  refine wpd_p 11 rfl (by kernel_rfl) trivial (q_field Tryd.underlying24 rfl Tryd.ti22 rfl rfl _ rfl) rfl sk0 ?_
  refine wpd_q 12 rfl (by kernel_rfl) trivial (q_ld Tryd.underlying22 rfl rfl (by first | exact v64s_get (by len_) | rfl)) rfl (fun _ h => h) ?_
  refine wpd_makers (lf := #[true, true, true, true, true, true, true, true, true, true, true, true, true, true, false, false, false]) [0, 1, 2, 3, 4, 5, 6, 8, 9, 11, 12] [⟨7, 19, [], (fun _ v => SV v 2), (fun _ v => .row v 2 5 1 (v8s [pf, of8 pl]))⟩, ⟨10, 22, [], (fun _ v => SV v 8), (fun _ v => .row v 8 5 1 (v8s (numK 8 pa.toNat)))⟩, ⟨13, 25, [], (fun _ v => SV v 8), (fun _ v => .row v 8 5 1 (v8s (numK 8 pb.toNat)))⟩] 3 rfl (by kernel_rfl) (by intro m hm; simp only [List.mem_cons, List.not_mem_nil, or_false] at hm; rcases hm with rfl | rfl | rfl <;> rfl) (fun σ w h => h.sub (sub_app _ _) (Sub.refl _)) ?_ ?_
  ·
   intro m hm o ho σ hσ hd
   simp only [List.mem_cons, List.not_mem_nil, or_false] at hm
   rcases hm with rfl | rfl | rfl
   ·
    obtain rfl := Option.some.inj ho
    show TOpP _ _ _ _ _ _ Value (fun v => SV v 2) (fun v => v) (fun v => Mem _ _ (.row v 2 5 1 (v8s [pf, of8 pl]) :: _) _)
    exact TOpP.weakL (fun t u hh => slots_base t hh _ (by intro m hm; simp only [List.mem_cons, List.not_mem_nil, or_false] at hm; rcases hm with rfl | rfl | rfl <;> rfl)) (t_bsV (v8s [pf, of8 pl]) Tryd.underlying32 Tryd.ti5 rfl rfl (by decide) (by decide) rfl (v8s_one _))
   ·
    obtain rfl := Option.some.inj ho
    show TOpP _ _ _ _ _ _ Value (fun v => SV v 8) (fun v => v) (fun v => Mem _ _ (.row v 8 5 1 (v8s (numK 8 pa.toNat)) :: _) _)
    exact TOpP.weakL (fun t u hh => slots_base t hh _ (by intro m hm; simp only [List.mem_cons, List.not_mem_nil, or_false] at hm; rcases hm with rfl | rfl | rfl <;> rfl)) (t_callP1 Tryd.hb74 rfl fun w h => (fun w => wordB pa 8 w (by decide)) w)
   ·
    obtain rfl := Option.some.inj ho
    show TOpP _ _ _ _ _ _ Value (fun v => SV v 8) (fun v => v) (fun v => Mem _ _ (.row v 8 5 1 (v8s (numK 8 pb.toNat)) :: _) _)
    exact TOpP.weakL (fun t u hh => slots_base t hh _ (by intro m hm; simp only [List.mem_cons, List.not_mem_nil, or_false] at hm; rcases hm with rfl | rfl | rfl <;> rfl)) (t_callP1 Tryd.hb74 rfl fun w h => (fun w => wordB pb 8 w (by decide)) w)
  ·
   intro σ hσ hall
   obtain ⟨b19, q19⟩ := Option.isSome_iff_exists.1 (hall _ (List.mem_cons_self ..))
   obtain ⟨b22, q22⟩ := Option.isSome_iff_exists.1 (hall _ (List.mem_cons_of_mem _ (List.mem_cons_self ..)))
   obtain ⟨b25, q25⟩ := Option.isSome_iff_exists.1 (hall _ (List.mem_cons_of_mem _ (List.mem_cons_of_mem _ (List.mem_cons_self ..))))
   have p19 := (hσ _ (List.mem_cons_self ..) b19 q19).2
   try dsimp only at p19
   have p22 := (hσ _ (List.mem_cons_of_mem _ (List.mem_cons_self ..)) b22 q22).2
   try dsimp only at p22
   have p25 := (hσ _ (List.mem_cons_of_mem _ (List.mem_cons_of_mem _ (List.mem_cons_self ..))) b25 q25).2
   try dsimp only at p25
   try dsimp only at q19 q22 q25
   simp only [mkEnts, mkSlots, q19, q22, q25, List.cons_append, List.nil_append, List.map_cons, List.map_nil, Asg.v, Option.getD_some]
   refine wpd_tp 14 rfl (by kernel_rfl) trivial (t_bsV [b19, b22, b25] Tryd.underlying160 Tryd.ti32 rfl rfl (by decide) (by decide) rfl (by intro u hu; simp only [List.mem_cons, List.not_mem_nil, or_false] at hu; rcases hu with rfl | rfl | rfl <;> exact SV.one (by assumption))) rfl (fun _ => (fun w h => .inr (h.sub SubC.h SubC.h))) (fun b26 p26 => ?_)
   refine wpd_tp 15 rfl (by kernel_rfl) trivial (t_callP1 Tryd.hb73 rfl fun w h => by
     have q := joinB b26 [(b19, [pf, of8 pl]), (b22, numK 8 pa.toNat), (b25, numK 8 pb.toNat)] w ⟨h.seenV, fun q hq => by
     simp only [List.mem_cons, List.not_mem_nil, or_false] at hq
     rcases hq with rfl | rfl | rfl <;> exact Seen.re8 h.seenV⟩ (by rw [flatK_3]; simp [numK_len])
     rw [flatK_3] at q
     exact q) rfl (fun _ => (fun w h => .inr (h.sub SubC.h SubC.h))) (fun b27 p27 => ?_)
   refine wpd_p 16 rfl (by kernel_rfl) trivial (q_pure rfl) rfl (fun w h => .inr (h.sub SubC.h SubC.h)) ?_
   refine wpd_done (by kernel_rfl) ?_
   refine ex_then ?_
   refine wpc_seq ?_
   refine wpc_region ?_
   refine wpl_q (q_field Tryd.underlying29 rfl Tryd.ti27 rfl rfl _ rfl) rfl ?_
   refine wpl_q (q_ld Tryd.underlying27 rfl rfl rfl) rfl ?_
   refine wpl_q (q_lenW Tryd.underlying27 rfl (by svv_)) rfl ?_
   refine wpl_q (q_pure rfl) rfl ?_
   refine wpl_nil ?_
   refine ex_then ?_
   refine wpc_block ?_
   refine wpc_loopc (ι := { x : Nat × Value × World × List Nat × Ent // (x.1 ≤ hs.length) ∧ (SV x.2.1 (restF ⟨pf, pa, pb, pl, hv, hs⟩ x.1).length) ∧ (J x.2.2.2.1 ((msgs ⟨pf, pa, pb, pl, hv, hs⟩).take x.1) x.2.2.1) ∧ (∀ w, x.2.2.2.2.at w → Seen w.cell? x.2.1 (restF ⟨pf, pa, pb, pl, hv, hs⟩ x.1).length 1 (v8s (restF ⟨pf, pa, pb, pl, hv, hs⟩ x.1))) }) [(0, _), (29, _), (30, _)] (fun x Lc => (31, .int .i64 ((x.1.1 : Nat) : Int)) :: (4, x.1.2.1) :: Lc) (fun x => Mem x.1.2.2.1 x.1.2.2.2.1 [x.1.2.2.2.2] []) (fun x => hs.length - x.1.1) ⟨(0, b27, w, [pp], .row b27 (rest0 ⟨pf, pa, pb, pl, hv, hs⟩).length 5 1 (v8s (rest0 ⟨pf, pa, pb, pl, hv, hs⟩))), ⟨Nat.zero_le _, p27, hJ0, fun w h => restRow w h⟩⟩ (by subs_) ?_ ?_
   ·
    exact fun w h => (show Mem _ [pp] (.row b27 (rest0 ⟨pf, pa, pb, pl, hv, hs⟩).length 5 1 (v8s (rest0 ⟨pf, pa, pb, pl, hv, hs⟩)) :: _) _ w from h).sub (.keep .nil) .nil
   ·
    rintro ⟨⟨i, rv, wb, T, rE⟩, ⟨hi0, hi1, hi2, hi3⟩⟩; try dsimp only
    have hi0 : i ≤ hs.length := hi0; have hi1 : SV rv (restF ⟨pf, pa, pb, pl, hv, hs⟩ i).length := hi1; have hi2 : J T ((msgs ⟨pf, pa, pb, pl, hv, hs⟩).take i) wb := hi2; have hi3 : ∀ w, rE.at w → Seen w.cell? rv (restF ⟨pf, pa, pb, pl, hv, hs⟩ i).length 1 (v8s (restF ⟨pf, pa, pb, pl, hv, hs⟩ i)) := hi3
    have hsee : ∀ {M : List Ent} {S : List Fact} {w : World}, Mem wb T M S w → InvM ⟨pf, pa, pb, pl, hv, hs⟩ w := fun h => hinv _ _ _ (hst _ _ _ _ _ hi2 (h.sub .nil .nil) (nums_lt h))
    have hrl := restF_len ⟨pf, pa, pb, pl, hv, hs⟩ i
    refine wpc_seq ?_
    refine wpc_region ?_
    refine wpl_q (q_pure rfl) rfl ?_
    refine wpl_nil ?_
    refine ex_then ?_
    refine wpc_seq ?_
    refine wpc_cond rfl (fun hc32 => ?_) (fun hc32 => ?_)
    ·
     simp only [decide_eq_true_eq] at hc32
     have hil : i < hs.length := by omega
     have hsi : ((hs.getD i Hop.z)).seen wb.cell? := (hinv _ _ _ hi2).1.2 _ (getD_memO hil)
     haveI := hsi.sv.one
     have hlm := hlim _ (getD_memO hil)
     refine wpc_skip ?_
     refine ex_then ?_
     refine wpc_seq ?_
     refine wpc_block ?_
     refine wpc_seq ?_
     refine wpc_region ?_
     refine wpl_q (q_pure rfl) rfl ?_
     refine wpl_q (q_idxW Tryd.underlying27 Tryd.ti68 rfl rfl (by svv_) (by lin_)) rfl ?_
     refine wpl_q (q_ldWN Tryd.underlying68 rfl Tryd.ti68 rfl (fun w h => (hsee h).1.1) (hs.getD i Hop.z).c (cat_part Hop.c_length Hop.z hil) (Hop.c_length _)) rfl ?_
     refine wpl_t (t_alloc Tryd.ti68 Hop.z.c rfl) rfl (fun b6 => ?_)
     refine wpl_q (q_pure rfl) rfl ?_
     refine wpl_t0 (t_stA Tryd.ti68 rfl rfl (by first | exact LenC.h | exact adL_len _ _ | (rw [v8s_length]; exact sumF_length _)) (by first | exact OneC.h | exact v8s_one _ | exact adL_one _ _) (by first | exact LenC.h | rfl)) (fun _ => ?_)
     refine wpl_nil ?_
     refine ex_then ?_
     refine wpc_seq ?_
     refine wpc_region ?_
     refine wpl_q (q_ldN Tryd.underlying68 rfl Tryd.ti68 rfl LenC.h) rfl ?_
     refine wpl_tp (t_callP1 Tryd.hb75 rfl fun w h => head (hs.getD i Hop.z) w hsi.sv) rfl (fun b37 p37 => ?_)
     refine wpl_q (q_pure rfl) rfl ?_
     refine wpl_tp (t_bsV [b37, rv] Tryd.underlying160 Tryd.ti32 rfl rfl (by decide) (by decide) rfl (by intro u hu; simp only [List.mem_cons, List.not_mem_nil, or_false] at hu; rcases hu with rfl | rfl <;> exact SV.one (by assumption))) rfl (fun b39 p39 => ?_)
     refine wpl_tp (t_callP1 Tryd.hb73 rfl fun w h => by
       have q := joinB b39 [(b37, (headB (hs.getD i Hop.z))), (rv, (restF ⟨pf, pa, pb, pl, hv, hs⟩ i))] w ⟨h.seenV, fun q hq => by
       simp only [List.mem_cons, List.not_mem_nil, or_false] at hq
       rcases hq with rfl | rfl
       · have q : Seen w.cell? b37 27 1 (v8s (headB (hs.getD i Hop.z))) := h.seen_row (by mem_)
         exact Seen.re8 q
       · exact hi3 w (h.own rE (by mem_))⟩ (by rw [flatK_2, List.length_append, headB_len]; show 27 + (restF ⟨pf, pa, pb, pl, hv, hs⟩ i).length ≤ 100000; omega)
       rw [flatK_2] at q
       exact q) rfl (fun b40 p40 => ?_)
     refine wpl_q (q_pure rfl) rfl ?_
     refine wpl_nil ?_
     refine ex_then ?_
     refine wpc_seq ?_
     refine wpc_seq ?_
     refine wpc_region_y ?_
     refine wil_q (q_pure rfl) rfl ?_
     refine wil_q (q_pure rfl) rfl ?_
     refine wil_q (q_pure rfl) rfl ?_
     refine wil_yieldS ((i, msgB ⟨pf, pa, pb, pl, hv, hs⟩ i)) (b40) rfl rfl hst hy hi2 (msgs_pre (p := ⟨pf, pa, pb, pl, hv, hs⟩) hil) rfl (fun w h => h.rowAt (by mem_)) rfl ?_ ?_
     ·
      intro u44 hu44
      have hsee2 : ∀ {M : List Ent} {S : List Fact} {w : World}, Mem u44 (nums (.row b40 ((headB (hs.getD i Hop.z)) ++ (restF ⟨pf, pa, pb, pl, hv, hs⟩ i)).length 5 1 (v8s ((headB (hs.getD i Hop.z)) ++ (restF ⟨pf, pa, pb, pl, hv, hs⟩ i))) :: .row b39 2 32 1 [b37, rv] :: .row b37 27 5 1 (v8s (headB (hs.getD i Hop.z))) :: .blk b6 68 (hs.getD i Hop.z).c :: [rE])) M S w → InvM ⟨pf, pa, pb, pl, hv, hs⟩ w := fun h => hinv _ _ _ (hst _ _ _ _ _ hu44 (h.sub .nil .nil) (nums_lt h))
      refine wil_q (q_pure rfl) rfl ?_
      refine wil_nil ?_
      refine ex_then ?_
      refine wpc_cond_f rfl ?_
      refine wpc_skip ?_
      refine ex_then ?_
      refine wpc_seq ?_
      refine wpc_draw 18 (by kernel_rfl) (fun _ h => h.drew) ?_
      refine wpd_p 0 rfl (by kernel_rfl) trivial (q_pure rfl) rfl sk0 ?_
      refine wpd_p 1 rfl (by kernel_rfl) trivial (q_field Tryd.underlying68 rfl Tryd.ti66 rfl rfl _ rfl) rfl sk0 ?_
      refine wpd_p 2 rfl (by kernel_rfl) trivial (q_field Tryd.underlying66 rfl Tryd.ti3 rfl rfl _ rfl) rfl sk0 ?_
      refine wpd_q 3 rfl (by kernel_rfl) trivial (q_ld Tryd.underlying3 rfl rfl (Hop.c_ix _)) rfl (fun _ h => h) ?_
      refine wpd_p 4 rfl (by kernel_rfl) trivial (q64_conv Tryd.underlying3 Tryd.underlying22 rfl) rfl sk0 ?_
      refine wpd_p 6 rfl (by kernel_rfl) trivial (q_field Tryd.underlying68 rfl Tryd.ti66 rfl rfl _ rfl) rfl sk0 ?_
      refine wpd_p 7 rfl (by kernel_rfl) trivial (q_field Tryd.underlying66 rfl Tryd.ti64 rfl rfl _ rfl) rfl sk0 ?_
      refine wpd_q 8 rfl (by kernel_rfl) trivial (q_ld Tryd.underlying64 rfl rfl (Hop.c_cv _)) rfl (fun _ h => h) ?_
      refine wpd_p 10 rfl (by kernel_rfl) trivial (q_field Tryd.underlying68 rfl Tryd.ti66 rfl rfl _ rfl) rfl sk0 ?_
      refine wpd_p 11 rfl (by kernel_rfl) trivial (q_field Tryd.underlying66 rfl Tryd.ti64 rfl rfl _ rfl) rfl sk0 ?_
      refine wpd_q 12 rfl (by kernel_rfl) trivial (q_ld Tryd.underlying64 rfl rfl (Hop.c_pv _)) rfl (fun _ h => h) ?_
      refine wpd_two 5 17 (by kernel_rfl) ?_ ?_
      ·
       refine wpa_tp 5 rfl trivial (t_callP1 Tryd.hb74 rfl fun w h => wordB (of64 (hs.getD i Hop.z).ix) 4 w (by decide)) rfl (fun _ => (fun w h => .inr (h.sub SubC.h SubC.h))) (fun b51 p51 => ?_)
       refine wpd_two 9 17 (by kernel_rfl) ?_ ?_
       ·
        refine wpa_tp 9 rfl trivial (t_callP1 Tryd.hb77 rfl fun w h => shorts (hs.getD i Hop.z).cv (hs.getD i Hop.z).chs w ((hsee2 h).1.2 _ (getD_memO hil)).1 hsi.2.1 (by omega)) rfl (fun _ => (fun w h => .inr (h.sub SubC.h SubC.h))) (fun b55 p55 => ?_)
        refine wpd_two 13 17 (by kernel_rfl) ?_ ?_
        ·
         refine wpa_tp 13 rfl trivial (t_callP1 Tryd.hb77 rfl fun w h => shorts (hs.getD i Hop.z).pv (hs.getD i Hop.z).ps w ((hsee2 h).1.2 _ (getD_memO hil)).2.2.1 hsi.2.2.2 (by omega)) rfl (fun _ => (fun w h => .inr (h.sub SubC.h SubC.h))) (fun b59 p59 => ?_)
         refine wpd_two 14 17 (by kernel_rfl) ?_ ?_
         ·
          refine wpa_tp 14 rfl trivial (t_bsV [b40, b51, b55, b59] Tryd.underlying160 Tryd.ti32 rfl rfl (by decide) (by decide) rfl (by intro u hu; simp only [List.mem_cons, List.not_mem_nil, or_false] at hu; rcases hu with rfl | rfl | rfl | rfl <;> exact SV.one (by assumption))) rfl (fun _ => (fun w h => .inr (h.sub SubC.h SubC.h))) (fun b60 p60 => ?_)
          refine wpd_two 15 17 (by kernel_rfl) ?_ ?_
          ·
           refine wpa_tp 15 rfl trivial (t_callP1 Tryd.hb73 rfl fun w h => by
             have q := joinB b60 [(b40, ((headB (hs.getD i Hop.z)) ++ (restF ⟨pf, pa, pb, pl, hv, hs⟩ i))), (b51, numK 4 (of64 (hs.getD i Hop.z).ix).toNat), (b55, (hs.getD i Hop.z).chs.flatten), (b59, (hs.getD i Hop.z).ps.flatten)] w ⟨h.seenV, fun q hq => by
             simp only [List.mem_cons, List.not_mem_nil, or_false] at hq
             rcases hq with rfl | rfl | rfl | rfl
             · exact h.seen_row (by mem_)
             · have q : Seen w.cell? b51 4 1 (v8s (numK 4 (of64 (hs.getD i Hop.z).ix).toNat)) := h.seen_row (by mem_)
               exact Seen.re8 q
             · have q : Seen w.cell? b55 ((hs.getD i Hop.z).chs.length * 16) 1 (v8s (hs.getD i Hop.z).chs.flatten) := h.seen_row (by mem_)
               exact Seen.re8 q
             · have q : Seen w.cell? b59 ((hs.getD i Hop.z).ps.length * 16) 1 (v8s (hs.getD i Hop.z).ps.flatten) := h.seen_row (by mem_)
               exact Seen.re8 q⟩ (by rw [flatK_4]; show (((headB (hs.getD i Hop.z)) ++ (restF ⟨pf, pa, pb, pl, hv, hs⟩ i)) ++ (tailH (hs.getD i Hop.z))).length ≤ 100000; rw [List.length_append, tailH_len hsi.2.1 hsi.2.2.2, List.length_append, headB_len]; omega)
             rw [flatK_4] at q
             exact q) rfl (fun _ => (fun w h => .inr (h.sub SubC.h SubC.h))) (fun b61 p61 => ?_)
           refine wpd_two 16 17 (by kernel_rfl) ?_ ?_
           ·
            refine wpa_t 16 rfl trivial (t_pur Tryd.hb76 rfl fun w h => sumW b61 (((headB (hs.getD i Hop.z)) ++ (restF ⟨pf, pa, pb, pl, hv, hs⟩ i)) ++ (tailH (hs.getD i Hop.z))) w h.seenV (hsee2 h).2) rfl (fun _ => (fun w h => .inr (h.sub SubC.h SubC.h))) (fun b62 => ?_)
            refine wpd_t 17 rfl (by kernel_rfl) trivial (t_alloc Tryd.ti113 (v8s (List.replicate 32 0)) rfl) rfl (fun _ => (fun w h => .inr (h.sub SubC.h SubC.h))) (fun b8 => ?_)
            refine wpd_t0 18 rfl (by kernel_rfl) trivial (t_stA Tryd.ti113 rfl rfl (by rw [v8s_length]; exact sumF_length _) (v8s_one _) (by rw [v8s_length, List.length_replicate])) (fun _ => skk rfl) (fun _ => ?_)
            refine wpd_done (by kernel_rfl) ?_
            refine ex_then ?_
            refine wpc_region ?_
            refine wpl_q (q_arAll Tryd.underlying113 Tryd.ti5 rfl rfl) rfl ?_
            refine wpl_q (q_pure rfl) rfl ?_
            refine wpl_nil ?_
            refine ex_block ?_
            refine ex_then ?_
            refine wpc_region ?_
            refine wpl_q (q_addN (b := 1) rfl rfl (by lin_)) rfl ?_
            refine wpl_q (q_pure rfl) rfl ?_
            refine wpl_nil ?_
            refine ex_again ⟨(i + 1, arv b8 32, u44, nums (.row b40 ((headB (hs.getD i Hop.z)) ++ (restF ⟨pf, pa, pb, pl, hv, hs⟩ i)).length 5 1 (v8s ((headB (hs.getD i Hop.z)) ++ (restF ⟨pf, pa, pb, pl, hv, hs⟩ i))) :: .row b39 2 32 1 [b37, rv] :: .row b37 27 5 1 (v8s (headB (hs.getD i Hop.z))) :: .blk b6 68 (hs.getD i Hop.z).c :: [rE]), .blk b8 113 (v8s (sumF (((headB (hs.getD i Hop.z)) ++ (restF ⟨pf, pa, pb, pl, hv, hs⟩ i)) ++ (tailH (hs.getD i Hop.z)))))), ⟨by show i + 1 ≤ hs.length; omega, by show SV (arv b8 32) (restF ⟨pf, pa, pb, pl, hv, hs⟩ (i + 1)).length; rw [restF, sumF_length]; exact arv_sv (by decide), by show J _ ((msgs ⟨pf, pa, pb, pl, hv, hs⟩).take (i + 1)) u44; rw [← msgs_take (p := ⟨pf, pa, pb, pl, hv, hs⟩) hil]; exact hu44, fun w h => by show Seen w.cell? _ (restF ⟨pf, pa, pb, pl, hv, hs⟩ (i + 1)).length 1 (v8s (restF ⟨pf, pa, pb, pl, hv, hs⟩ (i + 1))); rw [restF]; exact restBlk (sumF_length _) w h⟩⟩ ?_ ?_ ?_
            ·
             exact (by subs_)
            ·
             exact fun w h => h.sel
            ·
             (show hs.length - (i + 1) < hs.length - i); omega
           ·
            refine wpa_t 17 rfl trivial (t_alloc Tryd.ti113 (v8s (List.replicate 32 0)) rfl) rfl (fun _ => (fun w h => .inr (h.sub SubC.h SubC.h))) (fun b8 => ?_)
            refine wpd_t 16 rfl (by kernel_rfl) trivial (t_pur Tryd.hb76 rfl fun w h => sumW b61 (((headB (hs.getD i Hop.z)) ++ (restF ⟨pf, pa, pb, pl, hv, hs⟩ i)) ++ (tailH (hs.getD i Hop.z))) w h.seenV (hsee2 h).2) rfl (fun _ => (fun w h => .inr (h.sub SubC.h SubC.h))) (fun b62 => ?_)
            refine wpd_t0 18 rfl (by kernel_rfl) trivial (t_stA Tryd.ti113 rfl rfl (by rw [v8s_length]; exact sumF_length _) (v8s_one _) (by rw [v8s_length, List.length_replicate])) (fun _ => skk rfl) (fun _ => ?_)
            refine wpd_done (by kernel_rfl) ?_
            refine ex_then ?_
            refine wpc_region ?_
            refine wpl_q (q_arAll Tryd.underlying113 Tryd.ti5 rfl rfl) rfl ?_
            refine wpl_q (q_pure rfl) rfl ?_
            refine wpl_nil ?_
            refine ex_block ?_
            refine ex_then ?_
            refine wpc_region ?_
            refine wpl_q (q_addN (b := 1) rfl rfl (by lin_)) rfl ?_
            refine wpl_q (q_pure rfl) rfl ?_
            refine wpl_nil ?_
            refine ex_again ⟨(i + 1, arv b8 32, u44, nums (.row b40 ((headB (hs.getD i Hop.z)) ++ (restF ⟨pf, pa, pb, pl, hv, hs⟩ i)).length 5 1 (v8s ((headB (hs.getD i Hop.z)) ++ (restF ⟨pf, pa, pb, pl, hv, hs⟩ i))) :: .row b39 2 32 1 [b37, rv] :: .row b37 27 5 1 (v8s (headB (hs.getD i Hop.z))) :: .blk b6 68 (hs.getD i Hop.z).c :: [rE]), .blk b8 113 (v8s (sumF (((headB (hs.getD i Hop.z)) ++ (restF ⟨pf, pa, pb, pl, hv, hs⟩ i)) ++ (tailH (hs.getD i Hop.z)))))), ⟨by show i + 1 ≤ hs.length; omega, by show SV (arv b8 32) (restF ⟨pf, pa, pb, pl, hv, hs⟩ (i + 1)).length; rw [restF, sumF_length]; exact arv_sv (by decide), by show J _ ((msgs ⟨pf, pa, pb, pl, hv, hs⟩).take (i + 1)) u44; rw [← msgs_take (p := ⟨pf, pa, pb, pl, hv, hs⟩) hil]; exact hu44, fun w h => by show Seen w.cell? _ (restF ⟨pf, pa, pb, pl, hv, hs⟩ (i + 1)).length 1 (v8s (restF ⟨pf, pa, pb, pl, hv, hs⟩ (i + 1))); rw [restF]; exact restBlk (sumF_length _) w h⟩⟩ ?_ ?_ ?_
            ·
             exact (by subs_)
            ·
             exact fun w h => h.sel
            ·
             (show hs.length - (i + 1) < hs.length - i); omega
          ·
           refine wpa_t 17 rfl trivial (t_alloc Tryd.ti113 (v8s (List.replicate 32 0)) rfl) rfl (fun _ => (fun w h => .inr (h.sub SubC.h SubC.h))) (fun b8 => ?_)
           refine wpd_tp 15 rfl (by kernel_rfl) trivial (t_callP1 Tryd.hb73 rfl fun w h => by
             have q := joinB b60 [(b40, ((headB (hs.getD i Hop.z)) ++ (restF ⟨pf, pa, pb, pl, hv, hs⟩ i))), (b51, numK 4 (of64 (hs.getD i Hop.z).ix).toNat), (b55, (hs.getD i Hop.z).chs.flatten), (b59, (hs.getD i Hop.z).ps.flatten)] w ⟨h.seenV, fun q hq => by
             simp only [List.mem_cons, List.not_mem_nil, or_false] at hq
             rcases hq with rfl | rfl | rfl | rfl
             · exact h.seen_row (by mem_)
             · have q : Seen w.cell? b51 4 1 (v8s (numK 4 (of64 (hs.getD i Hop.z).ix).toNat)) := h.seen_row (by mem_)
               exact Seen.re8 q
             · have q : Seen w.cell? b55 ((hs.getD i Hop.z).chs.length * 16) 1 (v8s (hs.getD i Hop.z).chs.flatten) := h.seen_row (by mem_)
               exact Seen.re8 q
             · have q : Seen w.cell? b59 ((hs.getD i Hop.z).ps.length * 16) 1 (v8s (hs.getD i Hop.z).ps.flatten) := h.seen_row (by mem_)
               exact Seen.re8 q⟩ (by rw [flatK_4]; show (((headB (hs.getD i Hop.z)) ++ (restF ⟨pf, pa, pb, pl, hv, hs⟩ i)) ++ (tailH (hs.getD i Hop.z))).length ≤ 100000; rw [List.length_append, tailH_len hsi.2.1 hsi.2.2.2, List.length_append, headB_len]; omega)
             rw [flatK_4] at q
             exact q) rfl (fun _ => (fun w h => .inr (h.sub SubC.h SubC.h))) (fun b61 p61 => ?_)
           refine wpd_t 16 rfl (by kernel_rfl) trivial (t_pur Tryd.hb76 rfl fun w h => sumW b61 (((headB (hs.getD i Hop.z)) ++ (restF ⟨pf, pa, pb, pl, hv, hs⟩ i)) ++ (tailH (hs.getD i Hop.z))) w h.seenV (hsee2 h).2) rfl (fun _ => (fun w h => .inr (h.sub SubC.h SubC.h))) (fun b62 => ?_)
           refine wpd_t0 18 rfl (by kernel_rfl) trivial (t_stA Tryd.ti113 rfl rfl (by rw [v8s_length]; exact sumF_length _) (v8s_one _) (by rw [v8s_length, List.length_replicate])) (fun _ => skk rfl) (fun _ => ?_)
           refine wpd_done (by kernel_rfl) ?_
           refine ex_then ?_
           refine wpc_region ?_
           refine wpl_q (q_arAll Tryd.underlying113 Tryd.ti5 rfl rfl) rfl ?_
           refine wpl_q (q_pure rfl) rfl ?_
           refine wpl_nil ?_
           refine ex_block ?_
           refine ex_then ?_
           refine wpc_region ?_
           refine wpl_q (q_addN (b := 1) rfl rfl (by lin_)) rfl ?_
           refine wpl_q (q_pure rfl) rfl ?_
           refine wpl_nil ?_
           refine ex_again ⟨(i + 1, arv b8 32, u44, nums (.row b40 ((headB (hs.getD i Hop.z)) ++ (restF ⟨pf, pa, pb, pl, hv, hs⟩ i)).length 5 1 (v8s ((headB (hs.getD i Hop.z)) ++ (restF ⟨pf, pa, pb, pl, hv, hs⟩ i))) :: .row b39 2 32 1 [b37, rv] :: .row b37 27 5 1 (v8s (headB (hs.getD i Hop.z))) :: .blk b6 68 (hs.getD i Hop.z).c :: [rE]), .blk b8 113 (v8s (sumF (((headB (hs.getD i Hop.z)) ++ (restF ⟨pf, pa, pb, pl, hv, hs⟩ i)) ++ (tailH (hs.getD i Hop.z)))))), ⟨by show i + 1 ≤ hs.length; omega, by show SV (arv b8 32) (restF ⟨pf, pa, pb, pl, hv, hs⟩ (i + 1)).length; rw [restF, sumF_length]; exact arv_sv (by decide), by show J _ ((msgs ⟨pf, pa, pb, pl, hv, hs⟩).take (i + 1)) u44; rw [← msgs_take (p := ⟨pf, pa, pb, pl, hv, hs⟩) hil]; exact hu44, fun w h => by show Seen w.cell? _ (restF ⟨pf, pa, pb, pl, hv, hs⟩ (i + 1)).length 1 (v8s (restF ⟨pf, pa, pb, pl, hv, hs⟩ (i + 1))); rw [restF]; exact restBlk (sumF_length _) w h⟩⟩ ?_ ?_ ?_
           ·
            exact (by subs_)
           ·
            exact fun w h => h.sel
           ·
            (show hs.length - (i + 1) < hs.length - i); omega
         ·
          refine wpa_t 17 rfl trivial (t_alloc Tryd.ti113 (v8s (List.replicate 32 0)) rfl) rfl (fun _ => (fun w h => .inr (h.sub SubC.h SubC.h))) (fun b8 => ?_)
          refine wpd_tp 14 rfl (by kernel_rfl) trivial (t_bsV [b40, b51, b55, b59] Tryd.underlying160 Tryd.ti32 rfl rfl (by decide) (by decide) rfl (by intro u hu; simp only [List.mem_cons, List.not_mem_nil, or_false] at hu; rcases hu with rfl | rfl | rfl | rfl <;> exact SV.one (by assumption))) rfl (fun _ => (fun w h => .inr (h.sub SubC.h SubC.h))) (fun b60 p60 => ?_)
          refine wpd_tp 15 rfl (by kernel_rfl) trivial (t_callP1 Tryd.hb73 rfl fun w h => by
            have q := joinB b60 [(b40, ((headB (hs.getD i Hop.z)) ++ (restF ⟨pf, pa, pb, pl, hv, hs⟩ i))), (b51, numK 4 (of64 (hs.getD i Hop.z).ix).toNat), (b55, (hs.getD i Hop.z).chs.flatten), (b59, (hs.getD i Hop.z).ps.flatten)] w ⟨h.seenV, fun q hq => by
            simp only [List.mem_cons, List.not_mem_nil, or_false] at hq
            rcases hq with rfl | rfl | rfl | rfl
            · exact h.seen_row (by mem_)
            · have q : Seen w.cell? b51 4 1 (v8s (numK 4 (of64 (hs.getD i Hop.z).ix).toNat)) := h.seen_row (by mem_)
              exact Seen.re8 q
            · have q : Seen w.cell? b55 ((hs.getD i Hop.z).chs.length * 16) 1 (v8s (hs.getD i Hop.z).chs.flatten) := h.seen_row (by mem_)
              exact Seen.re8 q
            · have q : Seen w.cell? b59 ((hs.getD i Hop.z).ps.length * 16) 1 (v8s (hs.getD i Hop.z).ps.flatten) := h.seen_row (by mem_)
              exact Seen.re8 q⟩ (by rw [flatK_4]; show (((headB (hs.getD i Hop.z)) ++ (restF ⟨pf, pa, pb, pl, hv, hs⟩ i)) ++ (tailH (hs.getD i Hop.z))).length ≤ 100000; rw [List.length_append, tailH_len hsi.2.1 hsi.2.2.2, List.length_append, headB_len]; omega)
            rw [flatK_4] at q
            exact q) rfl (fun _ => (fun w h => .inr (h.sub SubC.h SubC.h))) (fun b61 p61 => ?_)
          refine wpd_t 16 rfl (by kernel_rfl) trivial (t_pur Tryd.hb76 rfl fun w h => sumW b61 (((headB (hs.getD i Hop.z)) ++ (restF ⟨pf, pa, pb, pl, hv, hs⟩ i)) ++ (tailH (hs.getD i Hop.z))) w h.seenV (hsee2 h).2) rfl (fun _ => (fun w h => .inr (h.sub SubC.h SubC.h))) (fun b62 => ?_)
          refine wpd_t0 18 rfl (by kernel_rfl) trivial (t_stA Tryd.ti113 rfl rfl (by rw [v8s_length]; exact sumF_length _) (v8s_one _) (by rw [v8s_length, List.length_replicate])) (fun _ => skk rfl) (fun _ => ?_)
          refine wpd_done (by kernel_rfl) ?_
          refine ex_then ?_
          refine wpc_region ?_
          refine wpl_q (q_arAll Tryd.underlying113 Tryd.ti5 rfl rfl) rfl ?_
          refine wpl_q (q_pure rfl) rfl ?_
          refine wpl_nil ?_
          refine ex_block ?_
          refine ex_then ?_
          refine wpc_region ?_
          refine wpl_q (q_addN (b := 1) rfl rfl (by lin_)) rfl ?_
          refine wpl_q (q_pure rfl) rfl ?_
          refine wpl_nil ?_
          refine ex_again ⟨(i + 1, arv b8 32, u44, nums (.row b40 ((headB (hs.getD i Hop.z)) ++ (restF ⟨pf, pa, pb, pl, hv, hs⟩ i)).length 5 1 (v8s ((headB (hs.getD i Hop.z)) ++ (restF ⟨pf, pa, pb, pl, hv, hs⟩ i))) :: .row b39 2 32 1 [b37, rv] :: .row b37 27 5 1 (v8s (headB (hs.getD i Hop.z))) :: .blk b6 68 (hs.getD i Hop.z).c :: [rE]), .blk b8 113 (v8s (sumF (((headB (hs.getD i Hop.z)) ++ (restF ⟨pf, pa, pb, pl, hv, hs⟩ i)) ++ (tailH (hs.getD i Hop.z)))))), ⟨by show i + 1 ≤ hs.length; omega, by show SV (arv b8 32) (restF ⟨pf, pa, pb, pl, hv, hs⟩ (i + 1)).length; rw [restF, sumF_length]; exact arv_sv (by decide), by show J _ ((msgs ⟨pf, pa, pb, pl, hv, hs⟩).take (i + 1)) u44; rw [← msgs_take (p := ⟨pf, pa, pb, pl, hv, hs⟩) hil]; exact hu44, fun w h => by show Seen w.cell? _ (restF ⟨pf, pa, pb, pl, hv, hs⟩ (i + 1)).length 1 (v8s (restF ⟨pf, pa, pb, pl, hv, hs⟩ (i + 1))); rw [restF]; exact restBlk (sumF_length _) w h⟩⟩ ?_ ?_ ?_
          ·
           exact (by subs_)
          ·
           exact fun w h => h.sel
          ·
           (show hs.length - (i + 1) < hs.length - i); omega
        ·
         refine wpa_t 17 rfl trivial (t_alloc Tryd.ti113 (v8s (List.replicate 32 0)) rfl) rfl (fun _ => (fun w h => .inr (h.sub SubC.h SubC.h))) (fun b8 => ?_)
         refine wpd_tp 13 rfl (by kernel_rfl) trivial (t_callP1 Tryd.hb77 rfl fun w h => shorts (hs.getD i Hop.z).pv (hs.getD i Hop.z).ps w ((hsee2 h).1.2 _ (getD_memO hil)).2.2.1 hsi.2.2.2 (by omega)) rfl (fun _ => (fun w h => .inr (h.sub SubC.h SubC.h))) (fun b59 p59 => ?_)
         refine wpd_tp 14 rfl (by kernel_rfl) trivial (t_bsV [b40, b51, b55, b59] Tryd.underlying160 Tryd.ti32 rfl rfl (by decide) (by decide) rfl (by intro u hu; simp only [List.mem_cons, List.not_mem_nil, or_false] at hu; rcases hu with rfl | rfl | rfl | rfl <;> exact SV.one (by assumption))) rfl (fun _ => (fun w h => .inr (h.sub SubC.h SubC.h))) (fun b60 p60 => ?_)
         refine wpd_tp 15 rfl (by kernel_rfl) trivial (t_callP1 Tryd.hb73 rfl fun w h => by
           have q := joinB b60 [(b40, ((headB (hs.getD i Hop.z)) ++ (restF ⟨pf, pa, pb, pl, hv, hs⟩ i))), (b51, numK 4 (of64 (hs.getD i Hop.z).ix).toNat), (b55, (hs.getD i Hop.z).chs.flatten), (b59, (hs.getD i Hop.z).ps.flatten)] w ⟨h.seenV, fun q hq => by
           simp only [List.mem_cons, List.not_mem_nil, or_false] at hq
           rcases hq with rfl | rfl | rfl | rfl
           · exact h.seen_row (by mem_)
           · have q : Seen w.cell? b51 4 1 (v8s (numK 4 (of64 (hs.getD i Hop.z).ix).toNat)) := h.seen_row (by mem_)
             exact Seen.re8 q
           · have q : Seen w.cell? b55 ((hs.getD i Hop.z).chs.length * 16) 1 (v8s (hs.getD i Hop.z).chs.flatten) := h.seen_row (by mem_)
             exact Seen.re8 q
           · have q : Seen w.cell? b59 ((hs.getD i Hop.z).ps.length * 16) 1 (v8s (hs.getD i Hop.z).ps.flatten) := h.seen_row (by mem_)
             exact Seen.re8 q⟩ (by rw [flatK_4]; show (((headB (hs.getD i Hop.z)) ++ (restF ⟨pf, pa, pb, pl, hv, hs⟩ i)) ++ (tailH (hs.getD i Hop.z))).length ≤ 100000; rw [List.length_append, tailH_len hsi.2.1 hsi.2.2.2, List.length_append, headB_len]; omega)
           rw [flatK_4] at q
           exact q) rfl (fun _ => (fun w h => .inr (h.sub SubC.h SubC.h))) (fun b61 p61 => ?_)
         refine wpd_t 16 rfl (by kernel_rfl) trivial (t_pur Tryd.hb76 rfl fun w h => sumW b61 (((headB (hs.getD i Hop.z)) ++ (restF ⟨pf, pa, pb, pl, hv, hs⟩ i)) ++ (tailH (hs.getD i Hop.z))) w h.seenV (hsee2 h).2) rfl (fun _ => (fun w h => .inr (h.sub SubC.h SubC.h))) (fun b62 => ?_)
         refine wpd_t0 18 rfl (by kernel_rfl) trivial (t_stA Tryd.ti113 rfl rfl (by rw [v8s_length]; exact sumF_length _) (v8s_one _) (by rw [v8s_length, List.length_replicate])) (fun _ => skk rfl) (fun _ => ?_)
         refine wpd_done (by kernel_rfl) ?_
         refine ex_then ?_
         refine wpc_region ?_
         refine wpl_q (q_arAll Tryd.underlying113 Tryd.ti5 rfl rfl) rfl ?_
         refine wpl_q (q_pure rfl) rfl ?_
         refine wpl_nil ?_
         refine ex_block ?_
         refine ex_then ?_
         refine wpc_region ?_
         refine wpl_q (q_addN (b := 1) rfl rfl (by lin_)) rfl ?_
         refine wpl_q (q_pure rfl) rfl ?_
         refine wpl_nil ?_
         refine ex_again ⟨(i + 1, arv b8 32, u44, nums (.row b40 ((headB (hs.getD i Hop.z)) ++ (restF ⟨pf, pa, pb, pl, hv, hs⟩ i)).length 5 1 (v8s ((headB (hs.getD i Hop.z)) ++ (restF ⟨pf, pa, pb, pl, hv, hs⟩ i))) :: .row b39 2 32 1 [b37, rv] :: .row b37 27 5 1 (v8s (headB (hs.getD i Hop.z))) :: .blk b6 68 (hs.getD i Hop.z).c :: [rE]), .blk b8 113 (v8s (sumF (((headB (hs.getD i Hop.z)) ++ (restF ⟨pf, pa, pb, pl, hv, hs⟩ i)) ++ (tailH (hs.getD i Hop.z)))))), ⟨by show i + 1 ≤ hs.length; omega, by show SV (arv b8 32) (restF ⟨pf, pa, pb, pl, hv, hs⟩ (i + 1)).length; rw [restF, sumF_length]; exact arv_sv (by decide), by show J _ ((msgs ⟨pf, pa, pb, pl, hv, hs⟩).take (i + 1)) u44; rw [← msgs_take (p := ⟨pf, pa, pb, pl, hv, hs⟩) hil]; exact hu44, fun w h => by show Seen w.cell? _ (restF ⟨pf, pa, pb, pl, hv, hs⟩ (i + 1)).length 1 (v8s (restF ⟨pf, pa, pb, pl, hv, hs⟩ (i + 1))); rw [restF]; exact restBlk (sumF_length _) w h⟩⟩ ?_ ?_ ?_
         ·
          exact (by subs_)
         ·
          exact fun w h => h.sel
         ·
          (show hs.length - (i + 1) < hs.length - i); omega
       ·
        refine wpa_t 17 rfl trivial (t_alloc Tryd.ti113 (v8s (List.replicate 32 0)) rfl) rfl (fun _ => (fun w h => .inr (h.sub SubC.h SubC.h))) (fun b8 => ?_)
        refine wpd_tp 9 rfl (by kernel_rfl) trivial (t_callP1 Tryd.hb77 rfl fun w h => shorts (hs.getD i Hop.z).cv (hs.getD i Hop.z).chs w ((hsee2 h).1.2 _ (getD_memO hil)).1 hsi.2.1 (by omega)) rfl (fun _ => (fun w h => .inr (h.sub SubC.h SubC.h))) (fun b55 p55 => ?_)
        refine wpd_tp 13 rfl (by kernel_rfl) trivial (t_callP1 Tryd.hb77 rfl fun w h => shorts (hs.getD i Hop.z).pv (hs.getD i Hop.z).ps w ((hsee2 h).1.2 _ (getD_memO hil)).2.2.1 hsi.2.2.2 (by omega)) rfl (fun _ => (fun w h => .inr (h.sub SubC.h SubC.h))) (fun b59 p59 => ?_)
        refine wpd_tp 14 rfl (by kernel_rfl) trivial (t_bsV [b40, b51, b55, b59] Tryd.underlying160 Tryd.ti32 rfl rfl (by decide) (by decide) rfl (by intro u hu; simp only [List.mem_cons, List.not_mem_nil, or_false] at hu; rcases hu with rfl | rfl | rfl | rfl <;> exact SV.one (by assumption))) rfl (fun _ => (fun w h => .inr (h.sub SubC.h SubC.h))) (fun b60 p60 => ?_)
        refine wpd_tp 15 rfl (by kernel_rfl) trivial (t_callP1 Tryd.hb73 rfl fun w h => by
          have q := joinB b60 [(b40, ((headB (hs.getD i Hop.z)) ++ (restF ⟨pf, pa, pb, pl, hv, hs⟩ i))), (b51, numK 4 (of64 (hs.getD i Hop.z).ix).toNat), (b55, (hs.getD i Hop.z).chs.flatten), (b59, (hs.getD i Hop.z).ps.flatten)] w ⟨h.seenV, fun q hq => by
          simp only [List.mem_cons, List.not_mem_nil, or_false] at hq
          rcases hq with rfl | rfl | rfl | rfl
          · exact h.seen_row (by mem_)
          · have q : Seen w.cell? b51 4 1 (v8s (numK 4 (of64 (hs.getD i Hop.z).ix).toNat)) := h.seen_row (by mem_)
            exact Seen.re8 q
          · have q : Seen w.cell? b55 ((hs.getD i Hop.z).chs.length * 16) 1 (v8s (hs.getD i Hop.z).chs.flatten) := h.seen_row (by mem_)
            exact Seen.re8 q
          · have q : Seen w.cell? b59 ((hs.getD i Hop.z).ps.length * 16) 1 (v8s (hs.getD i Hop.z).ps.flatten) := h.seen_row (by mem_)
            exact Seen.re8 q⟩ (by rw [flatK_4]; show (((headB (hs.getD i Hop.z)) ++ (restF ⟨pf, pa, pb, pl, hv, hs⟩ i)) ++ (tailH (hs.getD i Hop.z))).length ≤ 100000; rw [List.length_append, tailH_len hsi.2.1 hsi.2.2.2, List.length_append, headB_len]; omega)
          rw [flatK_4] at q
          exact q) rfl (fun _ => (fun w h => .inr (h.sub SubC.h SubC.h))) (fun b61 p61 => ?_)
        refine wpd_t 16 rfl (by kernel_rfl) trivial (t_pur Tryd.hb76 rfl fun w h => sumW b61 (((headB (hs.getD i Hop.z)) ++ (restF ⟨pf, pa, pb, pl, hv, hs⟩ i)) ++ (tailH (hs.getD i Hop.z))) w h.seenV (hsee2 h).2) rfl (fun _ => (fun w h => .inr (h.sub SubC.h SubC.h))) (fun b62 => ?_)
        refine wpd_t0 18 rfl (by kernel_rfl) trivial (t_stA Tryd.ti113 rfl rfl (by rw [v8s_length]; exact sumF_length _) (v8s_one _) (by rw [v8s_length, List.length_replicate])) (fun _ => skk rfl) (fun _ => ?_)
        refine wpd_done (by kernel_rfl) ?_
        refine ex_then ?_
        refine wpc_region ?_
        refine wpl_q (q_arAll Tryd.underlying113 Tryd.ti5 rfl rfl) rfl ?_
        refine wpl_q (q_pure rfl) rfl ?_
        refine wpl_nil ?_
        refine ex_block ?_
        refine ex_then ?_
        refine wpc_region ?_
        refine wpl_q (q_addN (b := 1) rfl rfl (by lin_)) rfl ?_
        refine wpl_q (q_pure rfl) rfl ?_
        refine wpl_nil ?_
        refine ex_again ⟨(i + 1, arv b8 32, u44, nums (.row b40 ((headB (hs.getD i Hop.z)) ++ (restF ⟨pf, pa, pb, pl, hv, hs⟩ i)).length 5 1 (v8s ((headB (hs.getD i Hop.z)) ++ (restF ⟨pf, pa, pb, pl, hv, hs⟩ i))) :: .row b39 2 32 1 [b37, rv] :: .row b37 27 5 1 (v8s (headB (hs.getD i Hop.z))) :: .blk b6 68 (hs.getD i Hop.z).c :: [rE]), .blk b8 113 (v8s (sumF (((headB (hs.getD i Hop.z)) ++ (restF ⟨pf, pa, pb, pl, hv, hs⟩ i)) ++ (tailH (hs.getD i Hop.z)))))), ⟨by show i + 1 ≤ hs.length; omega, by show SV (arv b8 32) (restF ⟨pf, pa, pb, pl, hv, hs⟩ (i + 1)).length; rw [restF, sumF_length]; exact arv_sv (by decide), by show J _ ((msgs ⟨pf, pa, pb, pl, hv, hs⟩).take (i + 1)) u44; rw [← msgs_take (p := ⟨pf, pa, pb, pl, hv, hs⟩) hil]; exact hu44, fun w h => by show Seen w.cell? _ (restF ⟨pf, pa, pb, pl, hv, hs⟩ (i + 1)).length 1 (v8s (restF ⟨pf, pa, pb, pl, hv, hs⟩ (i + 1))); rw [restF]; exact restBlk (sumF_length _) w h⟩⟩ ?_ ?_ ?_
        ·
         exact (by subs_)
        ·
         exact fun w h => h.sel
        ·
         (show hs.length - (i + 1) < hs.length - i); omega
      ·
       refine wpa_t 17 rfl trivial (t_alloc Tryd.ti113 (v8s (List.replicate 32 0)) rfl) rfl (fun _ => (fun w h => .inr (h.sub SubC.h SubC.h))) (fun b8 => ?_)
       refine wpd_tp 5 rfl (by kernel_rfl) trivial (t_callP1 Tryd.hb74 rfl fun w h => wordB (of64 (hs.getD i Hop.z).ix) 4 w (by decide)) rfl (fun _ => (fun w h => .inr (h.sub SubC.h SubC.h))) (fun b51 p51 => ?_)
       refine wpd_tp 9 rfl (by kernel_rfl) trivial (t_callP1 Tryd.hb77 rfl fun w h => shorts (hs.getD i Hop.z).cv (hs.getD i Hop.z).chs w ((hsee2 h).1.2 _ (getD_memO hil)).1 hsi.2.1 (by omega)) rfl (fun _ => (fun w h => .inr (h.sub SubC.h SubC.h))) (fun b55 p55 => ?_)
       refine wpd_tp 13 rfl (by kernel_rfl) trivial (t_callP1 Tryd.hb77 rfl fun w h => shorts (hs.getD i Hop.z).pv (hs.getD i Hop.z).ps w ((hsee2 h).1.2 _ (getD_memO hil)).2.2.1 hsi.2.2.2 (by omega)) rfl (fun _ => (fun w h => .inr (h.sub SubC.h SubC.h))) (fun b59 p59 => ?_)
       refine wpd_tp 14 rfl (by kernel_rfl) trivial (t_bsV [b40, b51, b55, b59] Tryd.underlying160 Tryd.ti32 rfl rfl (by decide) (by decide) rfl (by intro u hu; simp only [List.mem_cons, List.not_mem_nil, or_false] at hu; rcases hu with rfl | rfl | rfl | rfl <;> exact SV.one (by assumption))) rfl (fun _ => (fun w h => .inr (h.sub SubC.h SubC.h))) (fun b60 p60 => ?_)
       refine wpd_tp 15 rfl (by kernel_rfl) trivial (t_callP1 Tryd.hb73 rfl fun w h => by
         have q := joinB b60 [(b40, ((headB (hs.getD i Hop.z)) ++ (restF ⟨pf, pa, pb, pl, hv, hs⟩ i))), (b51, numK 4 (of64 (hs.getD i Hop.z).ix).toNat), (b55, (hs.getD i Hop.z).chs.flatten), (b59, (hs.getD i Hop.z).ps.flatten)] w ⟨h.seenV, fun q hq => by
         simp only [List.mem_cons, List.not_mem_nil, or_false] at hq
         rcases hq with rfl | rfl | rfl | rfl
         · exact h.seen_row (by mem_)
         · have q : Seen w.cell? b51 4 1 (v8s (numK 4 (of64 (hs.getD i Hop.z).ix).toNat)) := h.seen_row (by mem_)
           exact Seen.re8 q
         · have q : Seen w.cell? b55 ((hs.getD i Hop.z).chs.length * 16) 1 (v8s (hs.getD i Hop.z).chs.flatten) := h.seen_row (by mem_)
           exact Seen.re8 q
         · have q : Seen w.cell? b59 ((hs.getD i Hop.z).ps.length * 16) 1 (v8s (hs.getD i Hop.z).ps.flatten) := h.seen_row (by mem_)
           exact Seen.re8 q⟩ (by rw [flatK_4]; show (((headB (hs.getD i Hop.z)) ++ (restF ⟨pf, pa, pb, pl, hv, hs⟩ i)) ++ (tailH (hs.getD i Hop.z))).length ≤ 100000; rw [List.length_append, tailH_len hsi.2.1 hsi.2.2.2, List.length_append, headB_len]; omega)
         rw [flatK_4] at q
         exact q) rfl (fun _ => (fun w h => .inr (h.sub SubC.h SubC.h))) (fun b61 p61 => ?_)
       refine wpd_t 16 rfl (by kernel_rfl) trivial (t_pur Tryd.hb76 rfl fun w h => sumW b61 (((headB (hs.getD i Hop.z)) ++ (restF ⟨pf, pa, pb, pl, hv, hs⟩ i)) ++ (tailH (hs.getD i Hop.z))) w h.seenV (hsee2 h).2) rfl (fun _ => (fun w h => .inr (h.sub SubC.h SubC.h))) (fun b62 => ?_)
       refine wpd_t0 18 rfl (by kernel_rfl) trivial (t_stA Tryd.ti113 rfl rfl (by rw [v8s_length]; exact sumF_length _) (v8s_one _) (by rw [v8s_length, List.length_replicate])) (fun _ => skk rfl) (fun _ => ?_)
       refine wpd_done (by kernel_rfl) ?_
       refine ex_then ?_
       refine wpc_region ?_
       refine wpl_q (q_arAll Tryd.underlying113 Tryd.ti5 rfl rfl) rfl ?_
       refine wpl_q (q_pure rfl) rfl ?_
       refine wpl_nil ?_
       refine ex_block ?_
       refine ex_then ?_
       refine wpc_region ?_
       refine wpl_q (q_addN (b := 1) rfl rfl (by lin_)) rfl ?_
       refine wpl_q (q_pure rfl) rfl ?_
       refine wpl_nil ?_
       refine ex_again ⟨(i + 1, arv b8 32, u44, nums (.row b40 ((headB (hs.getD i Hop.z)) ++ (restF ⟨pf, pa, pb, pl, hv, hs⟩ i)).length 5 1 (v8s ((headB (hs.getD i Hop.z)) ++ (restF ⟨pf, pa, pb, pl, hv, hs⟩ i))) :: .row b39 2 32 1 [b37, rv] :: .row b37 27 5 1 (v8s (headB (hs.getD i Hop.z))) :: .blk b6 68 (hs.getD i Hop.z).c :: [rE]), .blk b8 113 (v8s (sumF (((headB (hs.getD i Hop.z)) ++ (restF ⟨pf, pa, pb, pl, hv, hs⟩ i)) ++ (tailH (hs.getD i Hop.z)))))), ⟨by show i + 1 ≤ hs.length; omega, by show SV (arv b8 32) (restF ⟨pf, pa, pb, pl, hv, hs⟩ (i + 1)).length; rw [restF, sumF_length]; exact arv_sv (by decide), by show J _ ((msgs ⟨pf, pa, pb, pl, hv, hs⟩).take (i + 1)) u44; rw [← msgs_take (p := ⟨pf, pa, pb, pl, hv, hs⟩) hil]; exact hu44, fun w h => by show Seen w.cell? _ (restF ⟨pf, pa, pb, pl, hv, hs⟩ (i + 1)).length 1 (v8s (restF ⟨pf, pa, pb, pl, hv, hs⟩ (i + 1))); rw [restF]; exact restBlk (sumF_length _) w h⟩⟩ ?_ ?_ ?_
       ·
        exact (by subs_)
       ·
        exact fun w h => h.sel
       ·
        (show hs.length - (i + 1) < hs.length - i); omega
     ·
      intro u44 hu44
      refine wil_q (q_pure rfl) rfl ?_
      refine wil_nil ?_
      refine ex_then ?_
      refine wpc_cond_t rfl ?_
      refine wpc_ret ?_
      refine ex_then_ret ?_
      refine ex_block_ret ?_
      refine ex_then_ret ?_
      refine ex_then_ret ?_
      refine ex_block_ret ?_
      refine ret0 (.inl rfl) rfl ?_
      exact fun w h => iter_stop hsk hu44 h
    ·
     simp only [decide_eq_false_iff_not] at hc32
     obtain rfl : i = hs.length := by omega
     rw [msgs_all ⟨pf, pa, pb, pl, hv, hs⟩] at hi2
     refine wpc_exit ?_
     refine ex_then_exit ?_
     refine ex_then_exit ?_
     refine ex_block_hit ?_
     refine ret0 (.inr rfl) rfl ?_
     exact fun w h => iter_done hst hi2 h

end Go.Proofs.YtjpfhkjmjnjggaaDoor

namespace Go.Proofs.YtjpfhkjmjnjggaaDoor
set_option linter.unusedSimpArgs false
set_option linter.unusedVariables false
open Go Go.PL Go.RowKit

theorem msgs_mem {p : Pth} {x : Nat × List UInt8} (h : x ∈ msgs p) : x.2 = msgB p x.1 ∧ x.1 < p.hs.length := by
  simp only [msgs, List.mem_map, List.mem_range] at h
  obtain ⟨i, hi, rfl⟩ := h
  exact ⟨rfl, hi⟩
theorem msgs_at {p : Pth} {j : Nat} (h : j < p.hs.length) : (j, msgB p j) ∈ msgs p := List.mem_map.2 ⟨j, List.mem_range.2 h, rfl⟩
theorem pre_mem {α : Type} {pre xs : List α} {x : α} (h : (pre ++ [x]) <+: xs) : x ∈ xs := h.subset (by simp)
abbrev SmP (p : Pth) : Prop := ∀ h ∈ p.hs, h.chs.length ≤ 100 ∧ h.ps.length ≤ 100
theorem msgs_it (p : Pth) (pp : Nat) (w : World) (hpp : w.heap[pp]? = some (.cells p.c.toArray 29 (0, 0))) (hlim : SmP p) : IterStop Tryd.prog 72 #[.pointer (some ⟨pp, 0, none⟩)] encM AtM (InvM p) (msgs p) [pp] w :=
  fun l J K hst hinv hsk hy hJ0 => messages1 l pp p J K w hst hinv hsk hy hJ0 hpp hlim

set_option maxRecDepth 100000 in
theorem message_ (p : Pth) (j : Nat) (w : World) (hp : p.seen w.cell?) (hj : j < p.hs.length) (hlim : SmP p) (hG : Glb w) :
    Calls Tryd.prog 38 [.agg p.c.toArray, .int .i64 ((j : Nat) : Int)].toArray w (GivesP w (fun v => SV v (msgB p j).length) (fun v => v) (fun v => [.row v (msgB p j).length 5 1 (v8s (msgB p j))]) (fun _ => [])) := by
  obtain ⟨pf, pa, pb, pl, hv, hs⟩ := p
  have hh : Seen w.cell? hv hs.length 24 (hcs hs) := hp.1
  have svh := hh.sv
  have lh := svh.le
  simp only [maxLen] at lh
  refine enterN (m := 15) (R := Mem w [] [] []) Tryd.func38 rfl rfl (Nat.le_of_ble_eq_true rfl) (Mem.start w) ?_
  refine wpc_seq ?_
  refine wpc_region ?_
  refine wpl_t (t_box rfl [.int .u8 (pf.toNat : Int), .int .u64 (pa.toNat : Int), .int .u64 (pb.toNat : Int), .int .i64 pl, hv] rfl) rfl (fun b2 => ?_)
  refine wpl_t (t_box rfl [.int .i64 ((j : Nat) : Int)] rfl) rfl (fun b3 => ?_)
  refine wpl_t (t_alloc Tryd.ti32 [.slice none 0 0] rfl) rfl (fun b4 => ?_)
  refine wpl_nil ?_
  refine ex_then ?_
  refine wpc_seq ?_
  refine wpc_seq ?_
  refine wpc_region ?_
  refine wpl_q (q_ldN Tryd.underlying29 rfl Tryd.ti29 rfl LenC.h) rfl ?_
  refine wpl_t (t_call (N := fun pq => [.blk pq 29 [.int .u8 (pf.toNat : Int), .int .u64 (pa.toNat : Int), .int .u64 (pb.toNat : Int), .int .i64 pl, hv]]) (T := fun _ => []) Tryd.hb49 rfl fun w h => messages ⟨pf, pa, pb, pl, hv, hs⟩ w svh) rfl (fun b8 => ?_)
  refine wpl_nil ?_
  refine ex_then ?_
  refine wpc_block ?_
  refine wpc_mono (R' := Mem w [] ([.blk b8 29 [.int .u8 (pf.toNat : Int), .int .u64 (pa.toNat : Int), .int .u64 (pb.toNat : Int), .int .i64 pl, hv]] ++ [.blk b4 32 [.slice none 0 0], .blk b3 3 [.int .i64 ((j : Nat) : Int)], .blk b2 29 [.int .u8 (pf.toNat : Int), .int .u64 (pa.toNat : Int), .int .u64 (pb.toNat : Int), .int .i64 pl, hv]]) []) (fun w h => h) ?_
  refine wpc_rangeG (encs := encM) (At := AtM) (Inv := (InvM ⟨pf, pa, pb, pl, hv, hs⟩)) (xs := (msgs ⟨pf, pa, pb, pl, hv, hs⟩)) (ρ := Value) (β := Unit) [.blk b8 29 [.int .u8 (pf.toNat : Int), .int .u64 (pa.toNat : Int), .int .u64 (pb.toNat : Int), .int .i64 pl, hv]] (fun _ : Unit => [.blk b4 32 [.slice none 0 0], .blk b3 3 [.int .i64 ((j : Nat) : Int)], .blk b2 29 [.int .u8 (pf.toNat : Int), .int .u64 (pa.toNat : Int), .int .u64 (pb.toNat : Int), .int .i64 pl, hv]]) (fun pre _ => ∀ x ∈ pre, x.1 ≠ j) () (fun r => SV r (msgB ⟨pf, pa, pb, pl, hv, hs⟩ j).length) (fun _ => .ret) (fun r => [.blk b4 32 [r], .blk b3 3 [.int .i64 ((j : Nat) : Int)], .blk b2 29 [.int .u8 (pf.toNat : Int), .int .u64 (pa.toNat : Int), .int .u64 (pb.toNat : Int), .int .i64 pl, hv]]) (fun r => [.row r (msgB ⟨pf, pa, pb, pl, hv, hs⟩ j).length 5 1 (v8s (msgB ⟨pf, pa, pb, pl, hv, hs⟩ j))]) (fun x i _ => []) (fun x i b => [(2, .pointer (some ⟨b2, 0, none⟩)), (3, .pointer (some ⟨b3, 0, none⟩)), (4, .pointer (some ⟨b4, 0, none⟩)), (5, .int .i64 ((x.1 : Nat) : Int)), (6, i)]) rfl Tryd.hb72 (fun x hx => by cases hx) (fun w h k hk => by rw [show k = b8 by simpa [nums, Ent.num] using hk]; exact (h.new (.blk b8 29 [.int .u8 (pf.toNat : Int), .int .u64 (pa.toNat : Int), .int .u64 (pb.toNat : Int), .int .i64 pl, hv]) (by simp) b8 rfl).resolve_right (by simp)) (fun w h => msgs_it ⟨pf, pa, pb, pl, hv, hs⟩ b8 w (h.own (.blk b8 29 [.int .u8 (pf.toNat : Int), .int .u64 (pa.toNat : Int), .int .u64 (pb.toNat : Int), .int .i64 pl, hv]) (by simp)) hlim) (fun _ _ _ _ h => ⟨hp.old h, glob h hG⟩) (fun _ _ _ _ _ h hk => RowAt.keep h hk) (fun _ _ => rfl) (by decide) ?_ ?_ ?_ ?_
  ·
   intro l x i w1 K hK
   refine wic_seq ?_
   refine wic_region ?_
   refine wil_q (q_pure rfl) rfl ?_
   refine wil_nil ?_
   refine eix_then ?_
   refine wic_region ?_
   refine wil_q (q_pure rfl) rfl ?_
   refine wil_nil ?_
   exact fun a w hs h => hK () a w (hs.weaken (subs_get (by subs_))) h
  ·
   intro l pre x i s b w1 T hgs hpre hm hat hT
   obtain ⟨hx2, hx1⟩ := msgs_mem (pre_mem hpre)
   have hat : RowAt T (.row i x.2.length 5 1 (v8s x.2)) w1 := hat
   show WPCI _ _ _ _ (Mem w1 (nums [.blk b4 32 [.slice none 0 0], .blk b3 3 [.int .i64 ((j : Nat) : Int)], .blk b2 29 [.int .u8 (pf.toNat : Int), .int .u64 (pa.toNat : Int), .int .u64 (pb.toNat : Int), .int .i64 pl, hv]]) [.blk b4 32 [.slice none 0 0], .blk b3 3 [.int .i64 ((j : Nat) : Int)], .blk b2 29 [.int .u8 (pf.toNat : Int), .int .u64 (pa.toNat : Int), .int .u64 (pb.toNat : Int), .int .i64 pl, hv]] []) _ _
   refine wic_block ?_
   refine wic_seq ?_
   refine wic_region ?_
   refine wil_q (q_pure rfl) rfl ?_
   refine wil_q (q_ld Tryd.underlying3 rfl rfl (by first | exact vns_get (by len_) | rfl)) rfl ?_
   refine wil_q (q_pure rfl) rfl ?_
   refine wil_nil ?_
   refine eix_then ?_
   refine wic_cond rfl (fun hc13 => ?_) (fun hc13 => ?_)
   ·
    have hxq : ((x.1 : Nat) : Int) = ((j : Nat) : Int) := by simpa using hc13
    have hxj : x.1 = j := by omega
    have hsi : SV i (msgB ⟨pf, pa, pb, pl, hv, hs⟩ j).length := by rw [← hxj, ← hx2]; exact (Mem.startR w1 hat.1).seenV.sv
    refine wic_seq ?_
    refine wic_region ?_
    refine wil_q (q_pure rfl) rfl ?_
    refine wil_t0 (t_st1 Tryd.ti32 rfl rfl (SV.one (by svv_)) (by len_) _ rfl) (fun _ => ?_)
    refine wil_nil ?_
    refine eix_then ?_
    refine wic_ret ?_
    refine ex_block_ret ?_
    refine ex_roundR ?_
    exact fun w h => ⟨i, hsi, rfl, h.sub (by subT_) .nil, by rw [← hxj, ← hx2]; exact hat.gain⟩
   ·
    have hxq : ¬ ((x.1 : Nat) : Int) = ((j : Nat) : Int) := by simpa using hc13
    have hne : ¬ x.1 = j := by omega
    refine wic_skip ?_
    refine ex_block ?_
    refine ex_roundN ?_
    exact fun w h => ⟨(), fun y hy => by rcases List.mem_append.1 hy with hy | hy; exact hgs y hy; rw [List.mem_singleton] at hy; subst hy; exact hne, h.sub (by subT_) .nil⟩
  ·
   intro D s hgs
   exact absurd rfl (hgs _ (msgs_at (p := ⟨pf, pa, pb, pl, hv, hs⟩) hj))
  ·
   intro D r hr
   have hr : SV r (msgB ⟨pf, pa, pb, pl, hv, hs⟩ j).length := hr
   refine wpc_weaken (R1 := Mem w [] [.obj D (.deferred (some [])), .blk b4 32 [r], .blk b3 3 [.int .i64 ((j : Nat) : Int)], .blk b2 29 [.int .u8 (pf.toNat : Int), .int .u64 (pa.toNat : Int), .int .u64 (pb.toNat : Int), .int .i64 pl, hv], .row r (msgB ⟨pf, pa, pb, pl, hv, hs⟩ j).length 5 1 (v8s (msgB ⟨pf, pa, pb, pl, hv, hs⟩ j))] []) (L1 := [(2, .pointer (some ⟨b2, 0, none⟩)), (3, .pointer (some ⟨b3, 0, none⟩)), (4, .pointer (some ⟨b4, 0, none⟩))]) (by subs_) (fun w h => h) ?_
   refine wpc_ret ?_
   refine ex_block_ret ?_
   refine ex_then_ret ?_
   refine ex_markN (.inl rfl) .here ?_
   refine retv1 (.inl rfl) rfl (rv_one Tryd.underlying32 rfl rfl (fun w h => h.cell_blk (by mem_) rfl)) ?_
   exact fun w h => ⟨r, hr, rfl, h.below, h.made (by subT_) .nil⟩

end Go.Proofs.YtjpfhkjmjnjggaaDoor

namespace Go.Proofs.YtjpfhkjmjnjggaaDoor
set_option linter.unusedSimpArgs false
set_option linter.unusedVariables false
open Go Go.PL Go.RowKit

theorem numA (v : Value) (xs ys : List UInt8) (z : UInt64) (k n : Nat) (w : World) (hrow : (Ent.row v n 5 1 (v8s xs)).at w) (hn : n = xs.length) (sv : SV v n) (hk : 1 ≤ k) (hk8 : k ≤ 8) (hxl : n ≤ 100000) (hz : numK k z.toNat = ys) :
    Calls Tryd.prog 56 [v, .int .u64 (z.toNat : Int), .int .i64 ((k : Nat) : Int)].toArray w (GivesR w (.row v n 5 1 (v8s xs)) (n + k) 5 1 (v8s (xs ++ ys))) := by
  subst hn hz
  exact number v xs z k w hrow sv hk hk8 hxl
theorem shA (v : Value) (xs : List UInt8) (cv : Value) (l : List (List UInt8)) (n : Nat) (w : World) (hrow : (Ent.row v n 5 1 (v8s xs)).at w) (hn : n = xs.length) (sv : SV v n) (hcv : Seen (rdO (nums [.row v n 5 1 (v8s xs)]) w) cv l.length 16 (v8s l.flatten)) (hll : ∀ x ∈ l, x.length = 16) (hlim : l.length ≤ 1000) (hxl : n ≤ 100000) :
    Calls Tryd.prog 57 [v, cv].toArray w (GivesR w (.row v n 5 1 (v8s xs)) (n + l.length * 16) 5 1 (v8s (xs ++ l.flatten))) := by
  subst hn
  exact refShorts v xs cv l w hrow sv hcv hll hlim hxl
theorem hz32 (x : UInt32) (k : Nat) : numK k (of64 ((x.toNat : Nat) : Int)).toNat = numK k x.toNat := by rw [of64_nat _ (by have := x.toNat_lt; omega)]
theorem num1 (n : Nat) : numK 1 n = [of8 ((n : Nat) : Int)] := by
  show [of8 ((n % 256 : Nat) : Int)] = _
  rw [of8_mod]
theorem hz8 (x : UInt8) : numK 1 (of64 ((x.toNat : Nat) : Int)).toNat = [x] := by
  rw [of64_nat _ (by have := x.toNat_lt; omega), num1]
  congr 1
  apply UInt8.toNat_inj.1
  have h1 := of8_toNat ((x.toNat : Nat) : Int)
  have := x.toNat_lt
  omega
theorem hzi (i : Int) : numK 1 (of64 i).toNat = [of8 i] := by
  rw [num1]
  congr 1
  apply UInt8.toNat_inj.1
  have h1 := of8_toNat (((of64 i).toNat : Nat) : Int)
  have h2 := of8_toNat i
  have h3 := of64_toNat i
  omega
theorem hcs_sig {l : List Hop} {i : Nat} (hi : i < l.length) : ((hcs l).drop (i * 24 + 21)).take 3 = (l.getD i Hop.z).sig := by
  have q := cat_part Hop.c_length Hop.z hi
  rw [← Hop.c_sig, ← q, List.drop_take, List.drop_drop, List.take_take]
  rfl
theorem msg0_eq (p : Pth) (h : Hop) (hh : p.hs.getD 0 Hop.z = h) : ((((((((numK 4 h.to.toNat ++ numK 4 h.sy.toNat) ++ [h.cnt]) ++ [h.fl]) ++ [h.root.1].flatten) ++ [of8 h.ht]) ++ [p.pf]) ++ [of8 p.pl]) ++ numK 8 p.pa.toNat) ++ numK 8 p.pb.toNat = msgB p 0 := by
  rw [msgB, restF, rest0, hh, headB]
  simp
theorem msgS_eq (p : Pth) (m : Nat) (h g : Hop) (hh : p.hs.getD (m + 1) Hop.z = h) (hg : p.hs.getD m Hop.z = g) : (((((numK 4 h.to.toNat ++ numK 4 h.sy.toNat) ++ [h.cnt]) ++ [h.fl]) ++ [h.root.1].flatten) ++ [of8 h.ht]) ++ (sumF (((msgB p m ++ numK 4 (of64 g.ix).toNat) ++ g.chs.flatten) ++ g.ps.flatten)).take 32 = msgB p (m + 1) := by
  subst hh hg
  rw [List.take_of_length_le (by rw [sumF_length]; exact Nat.le_refl _)]
  show _ = headB (p.hs.getD (m + 1) Hop.z) ++ sumF ((headB (p.hs.getD m Hop.z) ++ restF p m) ++ tailH (p.hs.getD m Hop.z))
  have e : (((msgB p m ++ numK 4 (of64 (p.hs.getD m Hop.z).ix).toNat) ++ (p.hs.getD m Hop.z).chs.flatten) ++ (p.hs.getD m Hop.z).ps.flatten) = (headB (p.hs.getD m Hop.z) ++ restF p m) ++ tailH (p.hs.getD m Hop.z) := by
    rw [tailH, msgB]; simp only [List.append_assoc]
  rw [e]
  generalize sumF ((headB (p.hs.getD m Hop.z) ++ restF p m) ++ tailH (p.hs.getD m Hop.z)) = u
  rw [headB]
  simp
theorem a42_len (h : Hop) : (((((numK 4 h.to.toNat ++ numK 4 h.sy.toNat) ++ [h.cnt]) ++ [h.fl]) ++ [h.root.1].flatten) ++ [of8 h.ht]).length = 27 := by simp [numK_len, h.root.2]
theorem take_getDU {l : List UInt8} {i : Nat} (h : i < l.length) : l.take (i + 1) = l.take i ++ [l.getD i 0] := by
  rw [List.take_add_one, List.getD_eq_getElem?_getD, List.getElem?_eq_getElem h]; rfl
theorem q_ldWFN {P : Program} {n : Cx} {R : World → Prop} {L : Slots} {t : TypeId} {x : Operand} {v : Value} {m s' j k : Nat} {xs : List Value} {d : TypeDesc} {z : Value} {sz by_ : Nat} (hu : P.underlying t = some d) (hd : isAggD d = true) (ht : TyI P t z sz by_) (hx : ev L x = some (.pointer (some (((sa v).add j).add k))))
    (hs : ∀ w, R w → Seen w.cell? v m s' xs) (cs : List Value) (hc : (xs.drop (j + k)).take sz = cs) (hl : cs.length = sz) : QOp P n R L (.load t x) (.agg cs.toArray) :=
  q_ldWN hu hd ht (by rw [addr_add_add] at hx; exact hx) hs cs hc hl
instance lenC_sig {h : Hop} : LenC h.sig 3 := ⟨rfl⟩
theorem Hop.sv.sigOne {h : Hop} (hs : h.sv) : OneC h.sig := OneC.cons rfl (OneC.cons (SV.one hs.1) (OneC.cons (SV.one hs.2) oneC_nil))
theorem s16l (r : S16) : r.val.length = 16 := r.2
theorem seen_rowO {w0 w : World} {Ln : List Nat} {M : List Ent} {S : List Fact} (h : Mem w0 Ln M S w) {v : Value} {m : Nat} {e : TypeId} {sz : Nat} {xs : List Value} (hm : Ent.row v m e sz xs ∈ M) {f : Ent} (hap : ∀ k, (Ent.row v m e sz xs).num = some k → f.num ≠ some k) : Seen (rdO (nums [f]) w) v m sz xs := by
  have h2 := (h.own _ hm : w.ownsRow 0 e sz v m xs)
  refine ⟨h2.1, ?_⟩
  rcases h.row_form hm with ⟨rfl, rfl, rfl⟩ | ⟨g, cap, rfl, h3, h4⟩
  · exact ⟨none, 0, rfl, Nat.le_refl _, Nat.zero_le _, .inl ⟨rfl, rfl⟩⟩
  · refine ⟨_, _, rfl, h3, h4, .inr ⟨_, rfl, fun j u hj => ?_⟩⟩
    unfold rdO
    rw [if_neg]
    · exact h2.cells rfl j u hj
    · intro hb
      obtain ⟨f', hf, hn⟩ := mem_nums.1 hb
      rw [List.mem_singleton] at hf
      subst hf
      exact hap g rfl (by rw [hn]; congr 1; unfold Addr.add; split <;> rfl)

end Go.Proofs.YtjpfhkjmjnjggaaDoor

namespace Go.Proofs.YtjpfhkjmjnjggaaDoor
set_option linter.unusedSimpArgs false
set_option linter.unusedVariables false
open Go Go.PL Go.RowKit
set_option maxRecDepth 100000 in
theorem refMessage_step (p : Pth) (j : Nat) (w : World) (hp : p.seen w.cell?) (hj : j < p.hs.length) (hlim : SmP p) (ih : ∀ m, m + 1 = j → ∀ w, p.seen w.cell? → Calls Tryd.prog 39 [.agg p.c.toArray, .int .i64 ((m : Nat) : Int)].toArray w (GivesP w (fun v => SV v (msgB p m).length) (fun v => v) (fun v => [.row v (msgB p m).length 5 1 (v8s (msgB p m))]) (fun _ => []))) :
    Calls Tryd.prog 39 [.agg p.c.toArray, .int .i64 ((j : Nat) : Int)].toArray w (GivesP w (fun v => SV v (msgB p j).length) (fun v => v) (fun v => [.row v (msgB p j).length 5 1 (v8s (msgB p j))]) (fun _ => [])) := by
  obtain ⟨pf, pa, pb, pl, hv, hs⟩ := p
  have hh : Seen w.cell? hv hs.length 24 (hcs hs) := hp.1
  have svh := hh.sv
  have lh := svh.le
  simp only [maxLen] at lh
  refine enter (m := 101) (R := Mem w [] [] []) Tryd.func39 rfl rfl (Nat.le_of_ble_eq_true rfl) (Mem.start w) ?_
  refine wpc_seq ?_
  refine wpc_region ?_
  refine wpl_t (t_box rfl [.int .u8 (pf.toNat : Int), .int .u64 (pa.toNat : Int), .int .u64 (pb.toNat : Int), .int .i64 pl, hv] rfl) rfl (fun b2 => ?_)
  refine wpl_q (q_pure rfl) rfl ?_
  refine wpl_nil ?_
  refine ex_then ?_
  refine wpc_seq ?_
  have hsj := hp.2 _ (getD_memO hj)
  haveI := hsj.sv.one
  refine wpc_region ?_
  refine wpl_q (q_field Tryd.underlying29 rfl Tryd.ti27 rfl rfl _ rfl) rfl ?_
  refine wpl_q (q_ld Tryd.underlying27 rfl rfl rfl) rfl ?_
  refine wpl_q (q_pure rfl) rfl ?_
  refine wpl_q (q_idxW Tryd.underlying27 Tryd.ti68 rfl rfl (by svv_) (by lin_)) rfl ?_
  refine wpl_q (q_ldWN Tryd.underlying68 rfl Tryd.ti68 rfl (fun w h => h.seen_old hh) (hs.getD j Hop.z).c (cat_part Hop.c_length Hop.z hj) (Hop.c_length _)) rfl ?_
  refine wpl_t (t_alloc Tryd.ti68 Hop.z.c rfl) rfl (fun b5 => ?_)
  refine wpl_t0 (t_stA Tryd.ti68 rfl rfl LenC.h OneC.h LenC.h) (fun _ => ?_)
  refine wpl_nil ?_
  refine ex_then ?_
  refine wpc_seq ?_
  refine wpc_draw 99 (by kernel_rfl) (fun _ h => h.drew) ?_
  refine wpd_p 0 rfl (by kernel_rfl) trivial (q_field Tryd.underlying68 rfl Tryd.ti49 rfl rfl _ rfl) rfl sk0 ?_
  refine wpd_q 1 rfl (by kernel_rfl) trivial (q_ld Tryd.underlying49 rfl rfl (Hop.c_to _)) rfl (fun _ h => h) ?_
  refine wpd_p 2 rfl (by kernel_rfl) trivial (q64_conv Tryd.underlying49 Tryd.underlying22 rfl) rfl sk0 ?_
  refine wpd_p 4 rfl (by kernel_rfl) trivial (q_field Tryd.underlying68 rfl Tryd.ti49 rfl rfl _ rfl) rfl sk0 ?_
  refine wpd_q 5 rfl (by kernel_rfl) trivial (q_ld Tryd.underlying49 rfl rfl (Hop.c_sy _)) rfl (fun _ h => h) ?_
  refine wpd_p 6 rfl (by kernel_rfl) trivial (q64_conv Tryd.underlying49 Tryd.underlying22 rfl) rfl sk0 ?_
  refine wpd_p 8 rfl (by kernel_rfl) trivial (q_field Tryd.underlying68 rfl Tryd.ti5 rfl rfl _ rfl) rfl sk0 ?_
  refine wpd_q 9 rfl (by kernel_rfl) trivial (q_ld Tryd.underlying5 rfl rfl (Hop.c_cnt _)) rfl (fun _ h => h) ?_
  refine wpd_p 10 rfl (by kernel_rfl) trivial (q64_conv Tryd.underlying5 Tryd.underlying22 rfl) rfl sk0 ?_
  refine wpd_p 12 rfl (by kernel_rfl) trivial (q_field Tryd.underlying68 rfl Tryd.ti5 rfl rfl _ rfl) rfl sk0 ?_
  refine wpd_q 13 rfl (by kernel_rfl) trivial (q_ld Tryd.underlying5 rfl rfl (Hop.c_fl _)) rfl (fun _ h => h) ?_
  refine wpd_p 14 rfl (by kernel_rfl) trivial (q64_conv Tryd.underlying5 Tryd.underlying22 rfl) rfl sk0 ?_
  refine wpd_tp 3 rfl (by kernel_rfl) trivial (t_callR0 (m' := 0 + 4) (ys := v8s ([] ++ (numK 4 (hs.getD j Hop.z).to.toNat))) 5 1 Tryd.hb56 rfl fun w h hr => numA _ [] (numK 4 (hs.getD j Hop.z).to.toNat) (of64 (((hs.getD j Hop.z).to.toNat : Nat) : Int)) 4 0 w hr rfl SV.nil (by decide) (by decide) (by decide) (hz32 _ 4)) rfl (fun _ => (fun w h => .inr (h.sub SubC.h SubC.h))) (fun b19 p19 => ?_)
  refine wpd_tp 7 rfl (by kernel_rfl) trivial (t_callR (m := 4) (m' := 4 + 4) (xs := v8s (numK 4 (hs.getD j Hop.z).to.toNat)) (ys := v8s ((numK 4 (hs.getD j Hop.z).to.toNat) ++ (numK 4 (hs.getD j Hop.z).sy.toNat))) Tryd.hb56 rfl fun w h hr => numA b19 (numK 4 (hs.getD j Hop.z).to.toNat) (numK 4 (hs.getD j Hop.z).sy.toNat) (of64 (((hs.getD j Hop.z).sy.toNat : Nat) : Int)) 4 (4) w hr (by simp [numK_len, s16l]) p19 (by decide) (by decide) (by omega) (hz32 _ 4)) rfl (fun _ => (fun w h => .inr (h.sub SubC.h SubC.h))) (fun b23 p23 => ?_)
  refine wpd_tp 11 rfl (by kernel_rfl) trivial (t_callR (m := 8) (m' := 8 + 1) (xs := v8s ((numK 4 (hs.getD j Hop.z).to.toNat) ++ numK 4 (hs.getD j Hop.z).sy.toNat)) (ys := v8s (((numK 4 (hs.getD j Hop.z).to.toNat) ++ numK 4 (hs.getD j Hop.z).sy.toNat) ++ [(hs.getD j Hop.z).cnt])) Tryd.hb56 rfl fun w h hr => numA b23 ((numK 4 (hs.getD j Hop.z).to.toNat) ++ numK 4 (hs.getD j Hop.z).sy.toNat) [(hs.getD j Hop.z).cnt] (of64 (((hs.getD j Hop.z).cnt.toNat : Nat) : Int)) 1 (8) w hr (by simp [numK_len, s16l]) p23 (by decide) (by decide) (by omega) (hz8 _)) rfl (fun _ => (fun w h => .inr (h.sub SubC.h SubC.h))) (fun b27 p27 => ?_)
  refine wpd_tp 15 rfl (by kernel_rfl) trivial (t_callR (m := 9) (m' := 9 + 1) (xs := v8s (((numK 4 (hs.getD j Hop.z).to.toNat) ++ numK 4 (hs.getD j Hop.z).sy.toNat) ++ [(hs.getD j Hop.z).cnt])) (ys := v8s ((((numK 4 (hs.getD j Hop.z).to.toNat) ++ numK 4 (hs.getD j Hop.z).sy.toNat) ++ [(hs.getD j Hop.z).cnt]) ++ [(hs.getD j Hop.z).fl])) Tryd.hb56 rfl fun w h hr => numA b27 (((numK 4 (hs.getD j Hop.z).to.toNat) ++ numK 4 (hs.getD j Hop.z).sy.toNat) ++ [(hs.getD j Hop.z).cnt]) [(hs.getD j Hop.z).fl] (of64 (((hs.getD j Hop.z).fl.toNat : Nat) : Int)) 1 (9) w hr (by simp [numK_len, s16l]) p27 (by decide) (by decide) (by omega) (hz8 _)) rfl (fun _ => (fun w h => .inr (h.sub SubC.h SubC.h))) (fun b31 p31 => ?_)
  refine wpd_p 16 rfl (by kernel_rfl) trivial (q_pure rfl) rfl (fun w h => .inr (h.sub SubC.h SubC.h)) ?_
  refine wpd_done (by kernel_rfl) ?_
  refine ex_then ?_
  refine wpc_seq ?_
  refine wpc_drawM [.blk b5 68 (hs.getD j Hop.z).c] 99 (by kernel_rfl) (by subT_) ?_
  refine wpd_p 0 rfl (by kernel_rfl) trivial (q_pure rfl) rfl (fun w h => .inr (h.sub SubC.h SubC.h)) ?_
  refine wpd_p 1 rfl (by kernel_rfl) trivial (q_field Tryd.underlying68 rfl Tryd.ti63 rfl rfl _ rfl) rfl (fun w h => .inr (h.sub SubC.h SubC.h)) ?_
  refine wpd_p 2 rfl (by kernel_rfl) trivial (q_field Tryd.underlying63 rfl Tryd.ti61 rfl rfl _ rfl) rfl (fun w h => .inr (h.sub SubC.h SubC.h)) ?_
  refine wpd_q 3 rfl (by kernel_rfl) trivial (q_ldP Tryd.underlying61 rfl Tryd.ti61 rfl (v8s (hs.getD j Hop.z).root.1) (Hop.c_root _) (S16.len _)) rfl (fun w h => h.sub SubC.h SubC.h) ?_
  refine wpd_p 6 rfl (by kernel_rfl) trivial (q_field Tryd.underlying68 rfl Tryd.ti63 rfl rfl _ rfl) rfl (fun w h => .inr (h.sub SubC.h SubC.h)) ?_
  refine wpd_p 7 rfl (by kernel_rfl) trivial (q_field Tryd.underlying63 rfl Tryd.ti3 rfl rfl _ rfl) rfl (fun w h => .inr (h.sub SubC.h SubC.h)) ?_
  refine wpd_q 8 rfl (by kernel_rfl) trivial (q_ld Tryd.underlying3 rfl rfl (Hop.c_ht _)) rfl (fun w h => h.sub SubC.h SubC.h) ?_
  refine wpd_p 9 rfl (by kernel_rfl) trivial (q64_conv Tryd.underlying3 Tryd.underlying22 rfl) rfl (fun w h => .inr (h.sub SubC.h SubC.h)) ?_
  refine wpd_tp 4 rfl (by kernel_rfl) trivial (t_bsS [(hs.getD j Hop.z).root.1] Tryd.underlying64 Tryd.ti61 rfl (by decide) rfl (by decide) (by decide) rfl (all_one (hs.getD j Hop.z).root.2)) rfl (fun _ => (fun w h => .inr (h.sub SubC.h SubC.h))) (fun b36 p36 => ?_)
  refine wpd_tp 5 rfl (by kernel_rfl) trivial (t_callR (m := 10) (m' := 10 + [(hs.getD j Hop.z).root.1].length * 16) (xs := v8s ((((numK 4 (hs.getD j Hop.z).to.toNat) ++ numK 4 (hs.getD j Hop.z).sy.toNat) ++ [(hs.getD j Hop.z).cnt]) ++ [(hs.getD j Hop.z).fl])) (ys := v8s (((((numK 4 (hs.getD j Hop.z).to.toNat) ++ numK 4 (hs.getD j Hop.z).sy.toNat) ++ [(hs.getD j Hop.z).cnt]) ++ [(hs.getD j Hop.z).fl]) ++ [(hs.getD j Hop.z).root.1].flatten)) Tryd.hb57 rfl fun w h hr => shA b31 ((((numK 4 (hs.getD j Hop.z).to.toNat) ++ numK 4 (hs.getD j Hop.z).sy.toNat) ++ [(hs.getD j Hop.z).cnt]) ++ [(hs.getD j Hop.z).fl]) b36 [(hs.getD j Hop.z).root.1] (10) w hr (by simp [numK_len, s16l]) p31 (seen_rowO h (List.mem_cons_self ..) (fun k hk => (List.pairwise_cons.1 h.apart).1 _ (by simp) k hk)) (all_one (hs.getD j Hop.z).root.2) (show 1 ≤ 1000 by decide) (by omega)) rfl (fun _ => (fun w h => .inr (h.sub SubC.h SubC.h))) (fun b37 p37 => ?_)
  refine wpd_tp 10 rfl (by kernel_rfl) trivial (t_callR (m := 26) (m' := 26 + 1) (xs := v8s (((((numK 4 (hs.getD j Hop.z).to.toNat) ++ numK 4 (hs.getD j Hop.z).sy.toNat) ++ [(hs.getD j Hop.z).cnt]) ++ [(hs.getD j Hop.z).fl]) ++ [(hs.getD j Hop.z).root.1].flatten)) (ys := v8s ((((((numK 4 (hs.getD j Hop.z).to.toNat) ++ numK 4 (hs.getD j Hop.z).sy.toNat) ++ [(hs.getD j Hop.z).cnt]) ++ [(hs.getD j Hop.z).fl]) ++ [(hs.getD j Hop.z).root.1].flatten) ++ [of8 (hs.getD j Hop.z).ht])) Tryd.hb56 rfl fun w h hr => numA b37 (((((numK 4 (hs.getD j Hop.z).to.toNat) ++ numK 4 (hs.getD j Hop.z).sy.toNat) ++ [(hs.getD j Hop.z).cnt]) ++ [(hs.getD j Hop.z).fl]) ++ [(hs.getD j Hop.z).root.1].flatten) [of8 (hs.getD j Hop.z).ht] (of64 (hs.getD j Hop.z).ht) 1 (26) w hr (by simp [numK_len, s16l]) p37 (by decide) (by decide) (by omega) (hzi _)) rfl (fun _ => (fun w h => .inr (h.sub SubC.h SubC.h))) (fun b42 p42 => ?_)
  refine wpd_p 11 rfl (by kernel_rfl) trivial (q_pure rfl) rfl (fun w h => .inr (h.sub SubC.h SubC.h)) ?_
  refine wpd_done (by kernel_rfl) ?_
  refine ex_then ?_
  refine wpc_seq ?_
  refine wpc_seq ?_
  refine wpc_region ?_
  refine wpl_q (q_pure rfl) rfl ?_
  refine wpl_q (q_pure rfl) rfl ?_
  refine wpl_nil ?_
  refine ex_then ?_
  refine wpc_cond rfl (fun hc44 => ?_) (fun hc44 => ?_)
  ·
   obtain rfl : j = 0 := by simpa using hc44
   refine wpc_seq ?_
   refine wpc_drawM [.blk b2 29 [.int .u8 (pf.toNat : Int), .int .u64 (pa.toNat : Int), .int .u64 (pb.toNat : Int), .int .i64 pl, hv]] 99 (by kernel_rfl) (by subT_) ?_
   refine wpd_p 0 rfl (by kernel_rfl) trivial (q_pure rfl) rfl (fun w h => .inr (h.sub SubC.h SubC.h)) ?_
   refine wpd_p 1 rfl (by kernel_rfl) trivial (q_field Tryd.underlying29 rfl Tryd.ti26 rfl rfl _ rfl) rfl (fun w h => .inr (h.sub SubC.h SubC.h)) ?_
   refine wpd_p 2 rfl (by kernel_rfl) trivial (q_field Tryd.underlying26 rfl Tryd.ti5 rfl rfl _ rfl) rfl (fun w h => .inr (h.sub SubC.h SubC.h)) ?_
   refine wpd_q 3 rfl (by kernel_rfl) trivial (q_ld Tryd.underlying5 rfl rfl (by first | exact v8s_get (by len_) | rfl)) rfl (fun w h => h.sub SubC.h SubC.h) ?_
   refine wpd_p 4 rfl (by kernel_rfl) trivial (q64_conv Tryd.underlying5 Tryd.underlying22 rfl) rfl (fun w h => .inr (h.sub SubC.h SubC.h)) ?_
   refine wpd_p 6 rfl (by kernel_rfl) trivial (q_field Tryd.underlying29 rfl Tryd.ti26 rfl rfl _ rfl) rfl (fun w h => .inr (h.sub SubC.h SubC.h)) ?_
   refine wpd_p 7 rfl (by kernel_rfl) trivial (q_field Tryd.underlying26 rfl Tryd.ti3 rfl rfl _ rfl) rfl (fun w h => .inr (h.sub SubC.h SubC.h)) ?_
   refine wpd_q 8 rfl (by kernel_rfl) trivial (q_ld Tryd.underlying3 rfl rfl (by first | exact vns_get (by len_) | rfl)) rfl (fun w h => h.sub SubC.h SubC.h) ?_
   refine wpd_p 9 rfl (by kernel_rfl) trivial (q64_conv Tryd.underlying3 Tryd.underlying22 rfl) rfl (fun w h => .inr (h.sub SubC.h SubC.h)) ?_
   refine wpd_tp 5 rfl (by kernel_rfl) trivial (t_callR (m := 27) (m' := 27 + 1) (xs := v8s ((((((numK 4 (hs.getD 0 Hop.z).to.toNat) ++ numK 4 (hs.getD 0 Hop.z).sy.toNat) ++ [(hs.getD 0 Hop.z).cnt]) ++ [(hs.getD 0 Hop.z).fl]) ++ [(hs.getD 0 Hop.z).root.1].flatten) ++ [of8 (hs.getD 0 Hop.z).ht])) (ys := v8s (((((((numK 4 (hs.getD 0 Hop.z).to.toNat) ++ numK 4 (hs.getD 0 Hop.z).sy.toNat) ++ [(hs.getD 0 Hop.z).cnt]) ++ [(hs.getD 0 Hop.z).fl]) ++ [(hs.getD 0 Hop.z).root.1].flatten) ++ [of8 (hs.getD 0 Hop.z).ht]) ++ [pf])) Tryd.hb56 rfl fun w h hr => numA b42 ((((((numK 4 (hs.getD 0 Hop.z).to.toNat) ++ numK 4 (hs.getD 0 Hop.z).sy.toNat) ++ [(hs.getD 0 Hop.z).cnt]) ++ [(hs.getD 0 Hop.z).fl]) ++ [(hs.getD 0 Hop.z).root.1].flatten) ++ [of8 (hs.getD 0 Hop.z).ht]) [pf] (of64 ((pf.toNat : Nat) : Int)) 1 (27) w hr (by simp [numK_len, s16l]) p42 (by decide) (by decide) (by omega) (hz8 _)) rfl (fun _ => (fun w h => .inr (h.sub SubC.h SubC.h))) (fun b50 p50 => ?_)
   refine wpd_tp 10 rfl (by kernel_rfl) trivial (t_callR (m := 28) (m' := 28 + 1) (xs := v8s (((((((numK 4 (hs.getD 0 Hop.z).to.toNat) ++ numK 4 (hs.getD 0 Hop.z).sy.toNat) ++ [(hs.getD 0 Hop.z).cnt]) ++ [(hs.getD 0 Hop.z).fl]) ++ [(hs.getD 0 Hop.z).root.1].flatten) ++ [of8 (hs.getD 0 Hop.z).ht]) ++ [pf])) (ys := v8s ((((((((numK 4 (hs.getD 0 Hop.z).to.toNat) ++ numK 4 (hs.getD 0 Hop.z).sy.toNat) ++ [(hs.getD 0 Hop.z).cnt]) ++ [(hs.getD 0 Hop.z).fl]) ++ [(hs.getD 0 Hop.z).root.1].flatten) ++ [of8 (hs.getD 0 Hop.z).ht]) ++ [pf]) ++ [of8 pl])) Tryd.hb56 rfl fun w h hr => numA b50 (((((((numK 4 (hs.getD 0 Hop.z).to.toNat) ++ numK 4 (hs.getD 0 Hop.z).sy.toNat) ++ [(hs.getD 0 Hop.z).cnt]) ++ [(hs.getD 0 Hop.z).fl]) ++ [(hs.getD 0 Hop.z).root.1].flatten) ++ [of8 (hs.getD 0 Hop.z).ht]) ++ [pf]) [of8 pl] (of64 pl) 1 (28) w hr (by simp [numK_len, s16l]) p50 (by decide) (by decide) (by omega) (hzi _)) rfl (fun _ => (fun w h => .inr (h.sub SubC.h SubC.h))) (fun b55 p55 => ?_)
   refine wpd_p 11 rfl (by kernel_rfl) trivial (q_pure rfl) rfl (fun w h => .inr (h.sub SubC.h SubC.h)) ?_
   refine wpd_done (by kernel_rfl) ?_
   refine ex_then ?_
   refine wpc_seq ?_
   refine wpc_drawM [.blk b2 29 [.int .u8 (pf.toNat : Int), .int .u64 (pa.toNat : Int), .int .u64 (pb.toNat : Int), .int .i64 pl, hv]] 99 (by kernel_rfl) (by subT_) ?_
   refine wpd_p 0 rfl (by kernel_rfl) trivial (q_pure rfl) rfl (fun w h => .inr (h.sub SubC.h SubC.h)) ?_
   refine wpd_p 1 rfl (by kernel_rfl) trivial (q_field Tryd.underlying29 rfl Tryd.ti26 rfl rfl _ rfl) rfl (fun w h => .inr (h.sub SubC.h SubC.h)) ?_
   refine wpd_p 2 rfl (by kernel_rfl) trivial (q_field Tryd.underlying26 rfl Tryd.ti24 rfl rfl _ rfl) rfl (fun w h => .inr (h.sub SubC.h SubC.h)) ?_
   refine wpd_p 3 rfl (by kernel_rfl) trivial (q_field Tryd.underlying24 rfl Tryd.ti22 rfl rfl _ rfl) rfl (fun w h => .inr (h.sub SubC.h SubC.h)) ?_
   refine wpd_q 4 rfl (by kernel_rfl) trivial (q_ld Tryd.underlying22 rfl rfl (by first | exact v64s_get (by len_) | rfl)) rfl (fun w h => h.sub SubC.h SubC.h) ?_
   refine wpd_p 6 rfl (by kernel_rfl) trivial (q_field Tryd.underlying29 rfl Tryd.ti26 rfl rfl _ rfl) rfl (fun w h => .inr (h.sub SubC.h SubC.h)) ?_
   refine wpd_p 7 rfl (by kernel_rfl) trivial (q_field Tryd.underlying26 rfl Tryd.ti24 rfl rfl _ rfl) rfl (fun w h => .inr (h.sub SubC.h SubC.h)) ?_
   refine wpd_p 8 rfl (by kernel_rfl) trivial (q_field Tryd.underlying24 rfl Tryd.ti22 rfl rfl _ rfl) rfl (fun w h => .inr (h.sub SubC.h SubC.h)) ?_
   refine wpd_q 9 rfl (by kernel_rfl) trivial (q_ld Tryd.underlying22 rfl rfl (by first | exact v64s_get (by len_) | rfl)) rfl (fun w h => h.sub SubC.h SubC.h) ?_
   refine wpd_tp 5 rfl (by kernel_rfl) trivial (t_callR (m := 29) (m' := 29 + 8) (xs := v8s ((((((((numK 4 (hs.getD 0 Hop.z).to.toNat) ++ numK 4 (hs.getD 0 Hop.z).sy.toNat) ++ [(hs.getD 0 Hop.z).cnt]) ++ [(hs.getD 0 Hop.z).fl]) ++ [(hs.getD 0 Hop.z).root.1].flatten) ++ [of8 (hs.getD 0 Hop.z).ht]) ++ [pf]) ++ [of8 pl])) (ys := v8s (((((((((numK 4 (hs.getD 0 Hop.z).to.toNat) ++ numK 4 (hs.getD 0 Hop.z).sy.toNat) ++ [(hs.getD 0 Hop.z).cnt]) ++ [(hs.getD 0 Hop.z).fl]) ++ [(hs.getD 0 Hop.z).root.1].flatten) ++ [of8 (hs.getD 0 Hop.z).ht]) ++ [pf]) ++ [of8 pl]) ++ (numK 8 pa.toNat))) Tryd.hb56 rfl fun w h hr => numA b55 ((((((((numK 4 (hs.getD 0 Hop.z).to.toNat) ++ numK 4 (hs.getD 0 Hop.z).sy.toNat) ++ [(hs.getD 0 Hop.z).cnt]) ++ [(hs.getD 0 Hop.z).fl]) ++ [(hs.getD 0 Hop.z).root.1].flatten) ++ [of8 (hs.getD 0 Hop.z).ht]) ++ [pf]) ++ [of8 pl]) (numK 8 pa.toNat) pa 8 (29) w hr (by simp [numK_len, s16l]) p55 (by decide) (by decide) (by omega) rfl) rfl (fun _ => (fun w h => .inr (h.sub SubC.h SubC.h))) (fun b61 p61 => ?_)
   refine wpd_tp 10 rfl (by kernel_rfl) trivial (t_callR (m := 37) (m' := 37 + 8) (xs := v8s (((((((((numK 4 (hs.getD 0 Hop.z).to.toNat) ++ numK 4 (hs.getD 0 Hop.z).sy.toNat) ++ [(hs.getD 0 Hop.z).cnt]) ++ [(hs.getD 0 Hop.z).fl]) ++ [(hs.getD 0 Hop.z).root.1].flatten) ++ [of8 (hs.getD 0 Hop.z).ht]) ++ [pf]) ++ [of8 pl]) ++ numK 8 pa.toNat)) (ys := v8s ((((((((((numK 4 (hs.getD 0 Hop.z).to.toNat) ++ numK 4 (hs.getD 0 Hop.z).sy.toNat) ++ [(hs.getD 0 Hop.z).cnt]) ++ [(hs.getD 0 Hop.z).fl]) ++ [(hs.getD 0 Hop.z).root.1].flatten) ++ [of8 (hs.getD 0 Hop.z).ht]) ++ [pf]) ++ [of8 pl]) ++ numK 8 pa.toNat) ++ (numK 8 pb.toNat))) Tryd.hb56 rfl fun w h hr => numA b61 (((((((((numK 4 (hs.getD 0 Hop.z).to.toNat) ++ numK 4 (hs.getD 0 Hop.z).sy.toNat) ++ [(hs.getD 0 Hop.z).cnt]) ++ [(hs.getD 0 Hop.z).fl]) ++ [(hs.getD 0 Hop.z).root.1].flatten) ++ [of8 (hs.getD 0 Hop.z).ht]) ++ [pf]) ++ [of8 pl]) ++ numK 8 pa.toNat) (numK 8 pb.toNat) pb 8 (37) w hr (by simp [numK_len, s16l]) p61 (by decide) (by decide) (by omega) rfl) rfl (fun _ => (fun w h => .inr (h.sub SubC.h SubC.h))) (fun b66 p66 => ?_)
   refine wpd_p 11 rfl (by kernel_rfl) trivial (q_pure rfl) rfl (fun w h => .inr (h.sub SubC.h SubC.h)) ?_
   refine wpd_done (by kernel_rfl) ?_
   refine ex_then ?_
   refine wpc_ret ?_
   refine ex_then_ret ?_
   refine ret1 (.inl rfl) rfl rfl ?_
   have hfe := msg0_eq ⟨pf, pa, pb, pl, hv, hs⟩ _ rfl
   have hfl : 45 = (msgB ⟨pf, pa, pb, pl, hv, hs⟩ 0).length := by rw [← hfe]; simp [numK_len, s16l]
   exact fun w h => ⟨b66, hfl ▸ p66, rfl, h.below, by rw [← hfl, ← hfe]; exact h.made SubC.h .nil⟩
  ·
   have hj0 : ¬ j = 0 := by simpa using hc44
   obtain ⟨m, rfl⟩ : ∃ m, j = m + 1 := ⟨j - 1, by omega⟩
   have hjq : m + 1 < hs.length := hj
   have hjm : m < hs.length := by omega
   have hsm : ((hs.getD m Hop.z)).seen w.cell? := hp.2 _ (getD_memO hjm)
   have hlm : (hs.getD m Hop.z).chs.length ≤ 100 ∧ (hs.getD m Hop.z).ps.length ≤ 100 := hlim _ (getD_memO hjm)
   haveI := hsm.sv.sigOne
   have hml := msgB_len ⟨pf, pa, pb, pl, hv, hs⟩ m
   refine wpc_skip ?_
   refine ex_then ?_
   refine wpc_seq ?_
   refine wpc_region ?_
   refine wpl_q (q_field Tryd.underlying29 rfl Tryd.ti27 rfl rfl _ rfl) rfl ?_
   refine wpl_q (q_ld Tryd.underlying27 rfl rfl rfl) rfl ?_
   refine wpl_q (q_pure rfl) rfl ?_
   refine wpl_q (q_subN (b := 1) rfl rfl (by omega) (by lin_)) rfl ?_
   refine wpl_q (q_idxW Tryd.underlying27 Tryd.ti68 rfl rfl (by svv_) (by lin_)) rfl ?_
   refine wpl_q (q_fieldPo 21 Tryd.underlying68 rfl Tryd.ti66 rfl rfl rfl) rfl ?_
   refine wpl_q (q_ldWFN Tryd.underlying66 rfl Tryd.ti66 rfl (fun w h => h.seen_old hh) (hs.getD m Hop.z).sig (hcs_sig hjm) rfl) rfl ?_
   refine wpl_t (t_alloc Tryd.ti66 Hop.z.sig rfl) rfl (fun b7 => ?_)
   refine wpl_t0 (t_stA Tryd.ti66 rfl rfl LenC.h OneC.h LenC.h) (fun _ => ?_)
   refine wpl_nil ?_
   refine ex_then ?_
   refine wpc_seq ?_
   refine wpc_draw 99 (by kernel_rfl) (fun _ h => h.drew) ?_
   refine wpd_q 0 rfl (by kernel_rfl) trivial (q_ldN Tryd.underlying29 rfl Tryd.ti29 rfl LenC.h) rfl (fun _ h => h) ?_
   refine wpd_p 1 rfl (by kernel_rfl) trivial (q_pure rfl) rfl sk0 ?_
   refine wpd_p 2 rfl (by kernel_rfl) trivial (q_subN (b := 1) rfl rfl (by omega) (by lin_)) rfl sk0 ?_
   refine wpd_p 4 rfl (by kernel_rfl) trivial (q_field Tryd.underlying66 rfl Tryd.ti3 rfl rfl _ rfl) rfl sk0 ?_
   refine wpd_q 5 rfl (by kernel_rfl) trivial (q_ld Tryd.underlying3 rfl rfl (by first | exact vns_get (by len_) | rfl)) rfl (fun _ h => h) ?_
   refine wpd_p 6 rfl (by kernel_rfl) trivial (q64_conv Tryd.underlying3 Tryd.underlying22 rfl) rfl sk0 ?_
   refine wpd_tp 3 rfl (by kernel_rfl) trivial (t_callP1 Tryd.hb39 rfl fun w h => ih m rfl w (hp.old h)) rfl (fun _ => (fun w h => .inr (h.sub SubC.h SubC.h))) (fun b77 p77 => ?_)
   refine wpd_tp 7 rfl (by kernel_rfl) trivial (t_callR (m := (msgB ⟨pf, pa, pb, pl, hv, hs⟩ m).length) (m' := (msgB ⟨pf, pa, pb, pl, hv, hs⟩ m).length + 4) (xs := v8s (msgB ⟨pf, pa, pb, pl, hv, hs⟩ m)) (ys := v8s ((msgB ⟨pf, pa, pb, pl, hv, hs⟩ m) ++ (numK 4 (of64 (hs.getD m Hop.z).ix).toNat))) Tryd.hb56 rfl fun w h hr => numA b77 (msgB ⟨pf, pa, pb, pl, hv, hs⟩ m) (numK 4 (of64 (hs.getD m Hop.z).ix).toNat) (of64 (hs.getD m Hop.z).ix) 4 ((msgB ⟨pf, pa, pb, pl, hv, hs⟩ m).length) w hr rfl p77 (by decide) (by decide) (by omega) rfl) rfl (fun _ => (fun w h => .inr (h.sub SubC.h SubC.h))) (fun b81 p81 => ?_)
   refine wpd_p 8 rfl (by kernel_rfl) trivial (q_pure rfl) rfl (fun w h => .inr (h.sub SubC.h SubC.h)) ?_
   refine wpd_done (by kernel_rfl) ?_
   refine ex_then ?_
   refine wpc_seq ?_
   refine wpc_drawM [.blk b7 66 (hs.getD m Hop.z).sig] 9 (by kernel_rfl) (by subT_) ?_
   refine wpd_p 0 rfl (by kernel_rfl) trivial (q_pure rfl) rfl (fun w h => .inr (h.sub SubC.h SubC.h)) ?_
   refine wpd_p 1 rfl (by kernel_rfl) trivial (q_field Tryd.underlying66 rfl Tryd.ti64 rfl rfl _ rfl) rfl (fun w h => .inr (h.sub SubC.h SubC.h)) ?_
   refine wpd_q 2 rfl (by kernel_rfl) trivial (q_ld Tryd.underlying64 rfl rfl rfl) rfl (fun w h => h.sub SubC.h SubC.h) ?_
   refine wpd_p 4 rfl (by kernel_rfl) trivial (q_field Tryd.underlying66 rfl Tryd.ti64 rfl rfl _ rfl) rfl (fun w h => .inr (h.sub SubC.h SubC.h)) ?_
   refine wpd_q 5 rfl (by kernel_rfl) trivial (q_ld Tryd.underlying64 rfl rfl rfl) rfl (fun w h => h.sub SubC.h SubC.h) ?_
   refine wpd_two 3 8 (by kernel_rfl) ?_ ?_
   ·
    refine wpa_tp 3 rfl trivial (t_callR (m := (msgB ⟨pf, pa, pb, pl, hv, hs⟩ m).length + 4) (m' := (msgB ⟨pf, pa, pb, pl, hv, hs⟩ m).length + 4 + (hs.getD m Hop.z).chs.length * 16) (xs := v8s ((msgB ⟨pf, pa, pb, pl, hv, hs⟩ m) ++ numK 4 (of64 (hs.getD m Hop.z).ix).toNat)) (ys := v8s (((msgB ⟨pf, pa, pb, pl, hv, hs⟩ m) ++ numK 4 (of64 (hs.getD m Hop.z).ix).toNat) ++ (hs.getD m Hop.z).chs.flatten)) Tryd.hb57 rfl fun w h hr => shA b81 ((msgB ⟨pf, pa, pb, pl, hv, hs⟩ m) ++ numK 4 (of64 (hs.getD m Hop.z).ix).toNat) (hs.getD m Hop.z).cv (hs.getD m Hop.z).chs ((msgB ⟨pf, pa, pb, pl, hv, hs⟩ m).length + 4) w hr (by rw [List.length_append, numK_len]) p81 (hsm.1.mono (rdo_nil h (by simp))) hsm.2.1 (by omega) (by omega)) rfl (fun _ => (fun w h => .inr (h.sub SubC.h SubC.h))) (fun b85 p85 => ?_)
    refine wpd_two 6 8 (by kernel_rfl) ?_ ?_
    ·
     refine wpa_tp 6 rfl trivial (t_callR (m := (msgB ⟨pf, pa, pb, pl, hv, hs⟩ m).length + 4 + (hs.getD m Hop.z).chs.length * 16) (m' := (msgB ⟨pf, pa, pb, pl, hv, hs⟩ m).length + 4 + (hs.getD m Hop.z).chs.length * 16 + (hs.getD m Hop.z).ps.length * 16) (xs := v8s (((msgB ⟨pf, pa, pb, pl, hv, hs⟩ m) ++ numK 4 (of64 (hs.getD m Hop.z).ix).toNat) ++ (hs.getD m Hop.z).chs.flatten)) (ys := v8s ((((msgB ⟨pf, pa, pb, pl, hv, hs⟩ m) ++ numK 4 (of64 (hs.getD m Hop.z).ix).toNat) ++ (hs.getD m Hop.z).chs.flatten) ++ (hs.getD m Hop.z).ps.flatten)) Tryd.hb57 rfl fun w h hr => shA b85 (((msgB ⟨pf, pa, pb, pl, hv, hs⟩ m) ++ numK 4 (of64 (hs.getD m Hop.z).ix).toNat) ++ (hs.getD m Hop.z).chs.flatten) (hs.getD m Hop.z).pv (hs.getD m Hop.z).ps ((msgB ⟨pf, pa, pb, pl, hv, hs⟩ m).length + 4 + (hs.getD m Hop.z).chs.length * 16) w hr (by rw [List.length_append, List.length_append, numK_len, flat_len16 hsm.2.1]) p85 (hsm.2.2.1.mono (rdo_nil h (by simp))) hsm.2.2.2 (by omega) (by omega)) rfl (fun _ => (fun w h => .inr (h.sub SubC.h SubC.h))) (fun b88 p88 => ?_)
     refine wpd_two 7 8 (by kernel_rfl) ?_ ?_
     ·
      refine wpa_t 7 rfl trivial (t_pur Tryd.hb58 rfl fun w h => refSum b88 ((((msgB ⟨pf, pa, pb, pl, hv, hs⟩ m) ++ numK 4 (of64 (hs.getD m Hop.z).ix).toNat) ++ (hs.getD m Hop.z).chs.flatten) ++ (hs.getD m Hop.z).ps.flatten) w (Seen.re8 (show Seen w.cell? b88 ((msgB ⟨pf, pa, pb, pl, hv, hs⟩ m).length + 4 + (hs.getD m Hop.z).chs.length * 16 + (hs.getD m Hop.z).ps.length * 16) 1 (v8s ((((msgB ⟨pf, pa, pb, pl, hv, hs⟩ m) ++ numK 4 (of64 (hs.getD m Hop.z).ix).toNat) ++ (hs.getD m Hop.z).chs.flatten) ++ (hs.getD m Hop.z).ps.flatten)) from h.seen_row (by mem_))) (by rw [List.length_append, List.length_append, List.length_append, numK_len, flat_len16 hsm.2.1, flat_len16 hsm.2.2.2]; omega)) rfl (fun _ => (fun w h => .inr (h.sub SubC.h SubC.h))) (fun b89 => ?_)
      refine wpd_t 8 rfl (by kernel_rfl) trivial (t_alloc Tryd.ti113 (v8s (List.replicate 32 0)) rfl) rfl (fun _ => (fun w h => .inr (h.sub SubC.h SubC.h))) (fun b9 => ?_)
      refine wpd_t0 9 rfl (by kernel_rfl) trivial (t_stA Tryd.ti113 rfl rfl (by rw [v8s_length]; exact sumF_length _) (v8s_one _) (by rw [v8s_length, List.length_replicate])) (fun _ => skk rfl) (fun _ => ?_)
      refine wpd_done (by kernel_rfl) ?_
      refine ex_then ?_
      refine wpc_seq ?_
      refine wpc_seq ?_
      refine wpc_region ?_
      refine wpl_q (q_pure rfl) rfl ?_
      refine wpl_nil ?_
      refine ex_then ?_
      refine wpc_block ?_
      refine wpc_loopc (ι := { x : Nat × Value // (x.1 ≤ 32) ∧ (SV x.2 (27 + x.1)) }) [(9, _)] (fun x Lc => (10, .int .i64 ((x.1.1 : Nat) : Int)) :: (6, x.1.2) :: Lc) (fun x => Mem w [] [.row x.1.2 (27 + x.1.1) 5 1 (v8s (((((((numK 4 (hs.getD (m + 1) Hop.z).to.toNat) ++ numK 4 (hs.getD (m + 1) Hop.z).sy.toNat) ++ [(hs.getD (m + 1) Hop.z).cnt]) ++ [(hs.getD (m + 1) Hop.z).fl]) ++ [(hs.getD (m + 1) Hop.z).root.1].flatten) ++ [of8 (hs.getD (m + 1) Hop.z).ht]) ++ (sumF ((((msgB ⟨pf, pa, pb, pl, hv, hs⟩ m) ++ numK 4 (of64 (hs.getD m Hop.z).ix).toNat) ++ (hs.getD m Hop.z).chs.flatten) ++ (hs.getD m Hop.z).ps.flatten)).take x.1.1)), .blk b9 113 (v8s (sumF ((((msgB ⟨pf, pa, pb, pl, hv, hs⟩ m) ++ numK 4 (of64 (hs.getD m Hop.z).ix).toNat) ++ (hs.getD m Hop.z).chs.flatten) ++ (hs.getD m Hop.z).ps.flatten)))] []) (fun x => 32 - x.1.1) ⟨(0, b42), ⟨Nat.zero_le _, p42⟩⟩ (by subs_) ?_ ?_
      ·
       exact fun w h => by
         dsimp only
         rw [List.take_zero, List.append_nil]
         exact h.sel
      ·
       rintro ⟨⟨i, v6⟩, ⟨hi0, hi1⟩⟩; try dsimp only
       have hi0 : i ≤ 32 := hi0; have hi1 : SV v6 (27 + i) := hi1
       refine wpc_seq ?_
       refine wpc_seq ?_
       refine wpc_region ?_
       refine wpl_q (q_pure rfl) rfl ?_
       refine wpl_q (q_pure rfl) rfl ?_
       refine wpl_nil ?_
       refine ex_then ?_
       refine wpc_cond rfl (fun hc91 => ?_) (fun hc91 => ?_)
       ·
        simp only [decide_eq_true_eq] at hc91
        have hi32 : i < 32 := by omega
        have hsl := sumF_length ((((msgB ⟨pf, pa, pb, pl, hv, hs⟩ m) ++ numK 4 (of64 (hs.getD m Hop.z).ix).toNat) ++ (hs.getD m Hop.z).chs.flatten) ++ (hs.getD m Hop.z).ps.flatten)
        refine wpc_skip ?_
        refine ex_then ?_
        refine wpc_seq ?_
        refine wpc_block ?_
        refine wpc_region ?_
        refine wpl_q (q_pure rfl) rfl ?_
        refine wpl_q (q_pure rfl) rfl ?_
        refine wpl_q (q_idxA1 Tryd.underlying113 Tryd.ti5 rfl rfl (by omega)) rfl ?_
        refine wpl_q (q_ld Tryd.underlying5 rfl rfl (v8s_get (by rw [hsl]; exact hi32))) rfl ?_
        refine wpl_tp (t_bsV (v8s [_]) Tryd.underlying32 Tryd.ti5 rfl rfl (by decide) (by decide) rfl (v8s_one _)) rfl (fun b98 p98 => ?_)
        refine wpl_tp (t_apW Tryd.underlying32 Tryd.ti5 rfl (by decide) rfl rfl (fun w h => by seen_) OneC.h (by lin_) (by lin_) (v8s (((((((numK 4 (hs.getD (m + 1) Hop.z).to.toNat) ++ numK 4 (hs.getD (m + 1) Hop.z).sy.toNat) ++ [(hs.getD (m + 1) Hop.z).cnt]) ++ [(hs.getD (m + 1) Hop.z).fl]) ++ [(hs.getD (m + 1) Hop.z).root.1].flatten) ++ [of8 (hs.getD (m + 1) Hop.z).ht]) ++ (sumF ((((msgB ⟨pf, pa, pb, pl, hv, hs⟩ m) ++ numK 4 (of64 (hs.getD m Hop.z).ix).toNat) ++ (hs.getD m Hop.z).chs.flatten) ++ (hs.getD m Hop.z).ps.flatten)).take (i + 1))) (by rw [take_getDU (by rw [hsl]; exact hi32), ← List.append_assoc]; exact (v8s_append _ _).symm)) rfl (fun b99 p99 => ?_)
        refine wpl_q (q_pure rfl) rfl ?_
        refine wpl_nil ?_
        refine ex_block ?_
        refine ex_then ?_
        refine wpc_region ?_
        refine wpl_q (q_pure rfl) rfl ?_
        refine wpl_q (q_addN (b := 1) rfl rfl (by lin_)) rfl ?_
        refine wpl_q (q_pure rfl) rfl ?_
        refine wpl_nil ?_
        refine ex_again ⟨(i + 1, b99), ⟨by dsimp only; omega, p99⟩⟩ ?_ ?_ ?_
        ·
         exact (by subs_)
        ·
         exact fun w h => h.sel
        ·
         (show 32 - (i + 1) < 32 - i); omega
       ·
        simp only [decide_eq_false_iff_not] at hc91
        obtain rfl : i = 32 := by omega
        have hsl := sumF_length ((((msgB ⟨pf, pa, pb, pl, hv, hs⟩ m) ++ numK 4 (of64 (hs.getD m Hop.z).ix).toNat) ++ (hs.getD m Hop.z).chs.flatten) ++ (hs.getD m Hop.z).ps.flatten)
        refine wpc_exit ?_
        refine ex_then_exit ?_
        refine ex_then_exit ?_
        refine ex_block_hit ?_
        refine ex_then ?_
        refine wpc_seq ?_
        refine wpc_region ?_
        refine wpl_q (q_pure rfl) rfl ?_
        refine wpl_q (q_pure rfl) rfl ?_
        refine wpl_nil ?_
        refine ex_then ?_
        refine wpc_ret ?_
        refine ret1 (.inl rfl) rfl rfl ?_
        have hfe := msgS_eq ⟨pf, pa, pb, pl, hv, hs⟩ m _ _ rfl rfl
        have hfl : 59 = (msgB ⟨pf, pa, pb, pl, hv, hs⟩ (m + 1)).length := by rw [← hfe, List.length_append, a42_len, List.length_take, hsl]; rfl
        exact fun w h => ⟨v6, hfl ▸ hi1, rfl, h.below, by rw [← hfl, ← hfe]; exact h.made SubC.h .nil⟩
     ·
      refine wpa_t 8 rfl trivial (t_alloc Tryd.ti113 (v8s (List.replicate 32 0)) rfl) rfl (fun _ => (fun w h => .inr (h.sub SubC.h SubC.h))) (fun b9 => ?_)
      refine wpd_t 7 rfl (by kernel_rfl) trivial (t_pur Tryd.hb58 rfl fun w h => refSum b88 ((((msgB ⟨pf, pa, pb, pl, hv, hs⟩ m) ++ numK 4 (of64 (hs.getD m Hop.z).ix).toNat) ++ (hs.getD m Hop.z).chs.flatten) ++ (hs.getD m Hop.z).ps.flatten) w (Seen.re8 (show Seen w.cell? b88 ((msgB ⟨pf, pa, pb, pl, hv, hs⟩ m).length + 4 + (hs.getD m Hop.z).chs.length * 16 + (hs.getD m Hop.z).ps.length * 16) 1 (v8s ((((msgB ⟨pf, pa, pb, pl, hv, hs⟩ m) ++ numK 4 (of64 (hs.getD m Hop.z).ix).toNat) ++ (hs.getD m Hop.z).chs.flatten) ++ (hs.getD m Hop.z).ps.flatten)) from h.seen_row (by mem_))) (by rw [List.length_append, List.length_append, List.length_append, numK_len, flat_len16 hsm.2.1, flat_len16 hsm.2.2.2]; omega)) rfl (fun _ => (fun w h => .inr (h.sub SubC.h SubC.h))) (fun b89 => ?_)
      refine wpd_t0 9 rfl (by kernel_rfl) trivial (t_stA Tryd.ti113 rfl rfl (by rw [v8s_length]; exact sumF_length _) (v8s_one _) (by rw [v8s_length, List.length_replicate])) (fun _ => skk rfl) (fun _ => ?_)
      refine wpd_done (by kernel_rfl) ?_
      refine ex_then ?_
      refine wpc_seq ?_
      refine wpc_seq ?_
      refine wpc_region ?_
      refine wpl_q (q_pure rfl) rfl ?_
      refine wpl_nil ?_
      refine ex_then ?_
      refine wpc_block ?_
      refine wpc_loopc (ι := { x : Nat × Value // (x.1 ≤ 32) ∧ (SV x.2 (27 + x.1)) }) [(9, _)] (fun x Lc => (10, .int .i64 ((x.1.1 : Nat) : Int)) :: (6, x.1.2) :: Lc) (fun x => Mem w [] [.row x.1.2 (27 + x.1.1) 5 1 (v8s (((((((numK 4 (hs.getD (m + 1) Hop.z).to.toNat) ++ numK 4 (hs.getD (m + 1) Hop.z).sy.toNat) ++ [(hs.getD (m + 1) Hop.z).cnt]) ++ [(hs.getD (m + 1) Hop.z).fl]) ++ [(hs.getD (m + 1) Hop.z).root.1].flatten) ++ [of8 (hs.getD (m + 1) Hop.z).ht]) ++ (sumF ((((msgB ⟨pf, pa, pb, pl, hv, hs⟩ m) ++ numK 4 (of64 (hs.getD m Hop.z).ix).toNat) ++ (hs.getD m Hop.z).chs.flatten) ++ (hs.getD m Hop.z).ps.flatten)).take x.1.1)), .blk b9 113 (v8s (sumF ((((msgB ⟨pf, pa, pb, pl, hv, hs⟩ m) ++ numK 4 (of64 (hs.getD m Hop.z).ix).toNat) ++ (hs.getD m Hop.z).chs.flatten) ++ (hs.getD m Hop.z).ps.flatten)))] []) (fun x => 32 - x.1.1) ⟨(0, b42), ⟨Nat.zero_le _, p42⟩⟩ (by subs_) ?_ ?_
      ·
       exact fun w h => by
         dsimp only
         rw [List.take_zero, List.append_nil]
         exact h.sel
      ·
       rintro ⟨⟨i, v6⟩, ⟨hi0, hi1⟩⟩; try dsimp only
       have hi0 : i ≤ 32 := hi0; have hi1 : SV v6 (27 + i) := hi1
       refine wpc_seq ?_
       refine wpc_seq ?_
       refine wpc_region ?_
       refine wpl_q (q_pure rfl) rfl ?_
       refine wpl_q (q_pure rfl) rfl ?_
       refine wpl_nil ?_
       refine ex_then ?_
       refine wpc_cond rfl (fun hc91 => ?_) (fun hc91 => ?_)
       ·
        simp only [decide_eq_true_eq] at hc91
        have hi32 : i < 32 := by omega
        have hsl := sumF_length ((((msgB ⟨pf, pa, pb, pl, hv, hs⟩ m) ++ numK 4 (of64 (hs.getD m Hop.z).ix).toNat) ++ (hs.getD m Hop.z).chs.flatten) ++ (hs.getD m Hop.z).ps.flatten)
        refine wpc_skip ?_
        refine ex_then ?_
        refine wpc_seq ?_
        refine wpc_block ?_
        refine wpc_region ?_
        refine wpl_q (q_pure rfl) rfl ?_
        refine wpl_q (q_pure rfl) rfl ?_
        refine wpl_q (q_idxA1 Tryd.underlying113 Tryd.ti5 rfl rfl (by omega)) rfl ?_
        refine wpl_q (q_ld Tryd.underlying5 rfl rfl (v8s_get (by rw [hsl]; exact hi32))) rfl ?_
        refine wpl_tp (t_bsV (v8s [_]) Tryd.underlying32 Tryd.ti5 rfl rfl (by decide) (by decide) rfl (v8s_one _)) rfl (fun b98 p98 => ?_)
        refine wpl_tp (t_apW Tryd.underlying32 Tryd.ti5 rfl (by decide) rfl rfl (fun w h => by seen_) OneC.h (by lin_) (by lin_) (v8s (((((((numK 4 (hs.getD (m + 1) Hop.z).to.toNat) ++ numK 4 (hs.getD (m + 1) Hop.z).sy.toNat) ++ [(hs.getD (m + 1) Hop.z).cnt]) ++ [(hs.getD (m + 1) Hop.z).fl]) ++ [(hs.getD (m + 1) Hop.z).root.1].flatten) ++ [of8 (hs.getD (m + 1) Hop.z).ht]) ++ (sumF ((((msgB ⟨pf, pa, pb, pl, hv, hs⟩ m) ++ numK 4 (of64 (hs.getD m Hop.z).ix).toNat) ++ (hs.getD m Hop.z).chs.flatten) ++ (hs.getD m Hop.z).ps.flatten)).take (i + 1))) (by rw [take_getDU (by rw [hsl]; exact hi32), ← List.append_assoc]; exact (v8s_append _ _).symm)) rfl (fun b99 p99 => ?_)
        refine wpl_q (q_pure rfl) rfl ?_
        refine wpl_nil ?_
        refine ex_block ?_
        refine ex_then ?_
        refine wpc_region ?_
        refine wpl_q (q_pure rfl) rfl ?_
        refine wpl_q (q_addN (b := 1) rfl rfl (by lin_)) rfl ?_
        refine wpl_q (q_pure rfl) rfl ?_
        refine wpl_nil ?_
        refine ex_again ⟨(i + 1, b99), ⟨by dsimp only; omega, p99⟩⟩ ?_ ?_ ?_
        ·
         exact (by subs_)
        ·
         exact fun w h => h.sel
        ·
         (show 32 - (i + 1) < 32 - i); omega
       ·
        simp only [decide_eq_false_iff_not] at hc91
        obtain rfl : i = 32 := by omega
        have hsl := sumF_length ((((msgB ⟨pf, pa, pb, pl, hv, hs⟩ m) ++ numK 4 (of64 (hs.getD m Hop.z).ix).toNat) ++ (hs.getD m Hop.z).chs.flatten) ++ (hs.getD m Hop.z).ps.flatten)
        refine wpc_exit ?_
        refine ex_then_exit ?_
        refine ex_then_exit ?_
        refine ex_block_hit ?_
        refine ex_then ?_
        refine wpc_seq ?_
        refine wpc_region ?_
        refine wpl_q (q_pure rfl) rfl ?_
        refine wpl_q (q_pure rfl) rfl ?_
        refine wpl_nil ?_
        refine ex_then ?_
        refine wpc_ret ?_
        refine ret1 (.inl rfl) rfl rfl ?_
        have hfe := msgS_eq ⟨pf, pa, pb, pl, hv, hs⟩ m _ _ rfl rfl
        have hfl : 59 = (msgB ⟨pf, pa, pb, pl, hv, hs⟩ (m + 1)).length := by rw [← hfe, List.length_append, a42_len, List.length_take, hsl]; rfl
        exact fun w h => ⟨v6, hfl ▸ hi1, rfl, h.below, by rw [← hfl, ← hfe]; exact h.made SubC.h .nil⟩
    ·
     refine wpa_t 8 rfl trivial (t_alloc Tryd.ti113 (v8s (List.replicate 32 0)) rfl) rfl (fun _ => (fun w h => .inr (h.sub SubC.h SubC.h))) (fun b9 => ?_)
     refine wpd_tp 6 rfl (by kernel_rfl) trivial (t_callR (m := (msgB ⟨pf, pa, pb, pl, hv, hs⟩ m).length + 4 + (hs.getD m Hop.z).chs.length * 16) (m' := (msgB ⟨pf, pa, pb, pl, hv, hs⟩ m).length + 4 + (hs.getD m Hop.z).chs.length * 16 + (hs.getD m Hop.z).ps.length * 16) (xs := v8s (((msgB ⟨pf, pa, pb, pl, hv, hs⟩ m) ++ numK 4 (of64 (hs.getD m Hop.z).ix).toNat) ++ (hs.getD m Hop.z).chs.flatten)) (ys := v8s ((((msgB ⟨pf, pa, pb, pl, hv, hs⟩ m) ++ numK 4 (of64 (hs.getD m Hop.z).ix).toNat) ++ (hs.getD m Hop.z).chs.flatten) ++ (hs.getD m Hop.z).ps.flatten)) Tryd.hb57 rfl fun w h hr => shA b85 (((msgB ⟨pf, pa, pb, pl, hv, hs⟩ m) ++ numK 4 (of64 (hs.getD m Hop.z).ix).toNat) ++ (hs.getD m Hop.z).chs.flatten) (hs.getD m Hop.z).pv (hs.getD m Hop.z).ps ((msgB ⟨pf, pa, pb, pl, hv, hs⟩ m).length + 4 + (hs.getD m Hop.z).chs.length * 16) w hr (by rw [List.length_append, List.length_append, numK_len, flat_len16 hsm.2.1]) p85 (hsm.2.2.1.mono (rdo_nil h (by simp))) hsm.2.2.2 (by omega) (by omega)) rfl (fun _ => (fun w h => .inr (h.sub SubC.h SubC.h))) (fun b88 p88 => ?_)
     refine wpd_t 7 rfl (by kernel_rfl) trivial (t_pur Tryd.hb58 rfl fun w h => refSum b88 ((((msgB ⟨pf, pa, pb, pl, hv, hs⟩ m) ++ numK 4 (of64 (hs.getD m Hop.z).ix).toNat) ++ (hs.getD m Hop.z).chs.flatten) ++ (hs.getD m Hop.z).ps.flatten) w (Seen.re8 (show Seen w.cell? b88 ((msgB ⟨pf, pa, pb, pl, hv, hs⟩ m).length + 4 + (hs.getD m Hop.z).chs.length * 16 + (hs.getD m Hop.z).ps.length * 16) 1 (v8s ((((msgB ⟨pf, pa, pb, pl, hv, hs⟩ m) ++ numK 4 (of64 (hs.getD m Hop.z).ix).toNat) ++ (hs.getD m Hop.z).chs.flatten) ++ (hs.getD m Hop.z).ps.flatten)) from h.seen_row (by mem_))) (by rw [List.length_append, List.length_append, List.length_append, numK_len, flat_len16 hsm.2.1, flat_len16 hsm.2.2.2]; omega)) rfl (fun _ => (fun w h => .inr (h.sub SubC.h SubC.h))) (fun b89 => ?_)
     refine wpd_t0 9 rfl (by kernel_rfl) trivial (t_stA Tryd.ti113 rfl rfl (by rw [v8s_length]; exact sumF_length _) (v8s_one _) (by rw [v8s_length, List.length_replicate])) (fun _ => skk rfl) (fun _ => ?_)
     refine wpd_done (by kernel_rfl) ?_
     refine ex_then ?_
     refine wpc_seq ?_
     refine wpc_seq ?_
     refine wpc_region ?_
     refine wpl_q (q_pure rfl) rfl ?_
     refine wpl_nil ?_
     refine ex_then ?_
     refine wpc_block ?_
     refine wpc_loopc (ι := { x : Nat × Value // (x.1 ≤ 32) ∧ (SV x.2 (27 + x.1)) }) [(9, _)] (fun x Lc => (10, .int .i64 ((x.1.1 : Nat) : Int)) :: (6, x.1.2) :: Lc) (fun x => Mem w [] [.row x.1.2 (27 + x.1.1) 5 1 (v8s (((((((numK 4 (hs.getD (m + 1) Hop.z).to.toNat) ++ numK 4 (hs.getD (m + 1) Hop.z).sy.toNat) ++ [(hs.getD (m + 1) Hop.z).cnt]) ++ [(hs.getD (m + 1) Hop.z).fl]) ++ [(hs.getD (m + 1) Hop.z).root.1].flatten) ++ [of8 (hs.getD (m + 1) Hop.z).ht]) ++ (sumF ((((msgB ⟨pf, pa, pb, pl, hv, hs⟩ m) ++ numK 4 (of64 (hs.getD m Hop.z).ix).toNat) ++ (hs.getD m Hop.z).chs.flatten) ++ (hs.getD m Hop.z).ps.flatten)).take x.1.1)), .blk b9 113 (v8s (sumF ((((msgB ⟨pf, pa, pb, pl, hv, hs⟩ m) ++ numK 4 (of64 (hs.getD m Hop.z).ix).toNat) ++ (hs.getD m Hop.z).chs.flatten) ++ (hs.getD m Hop.z).ps.flatten)))] []) (fun x => 32 - x.1.1) ⟨(0, b42), ⟨Nat.zero_le _, p42⟩⟩ (by subs_) ?_ ?_
     ·
      exact fun w h => by
        dsimp only
        rw [List.take_zero, List.append_nil]
        exact h.sel
     ·
      rintro ⟨⟨i, v6⟩, ⟨hi0, hi1⟩⟩; try dsimp only
      have hi0 : i ≤ 32 := hi0; have hi1 : SV v6 (27 + i) := hi1
      refine wpc_seq ?_
      refine wpc_seq ?_
      refine wpc_region ?_
      refine wpl_q (q_pure rfl) rfl ?_
      refine wpl_q (q_pure rfl) rfl ?_
      refine wpl_nil ?_
      refine ex_then ?_
      refine wpc_cond rfl (fun hc91 => ?_) (fun hc91 => ?_)
      ·
       simp only [decide_eq_true_eq] at hc91
       have hi32 : i < 32 := by omega
       have hsl := sumF_length ((((msgB ⟨pf, pa, pb, pl, hv, hs⟩ m) ++ numK 4 (of64 (hs.getD m Hop.z).ix).toNat) ++ (hs.getD m Hop.z).chs.flatten) ++ (hs.getD m Hop.z).ps.flatten)
       refine wpc_skip ?_
       refine ex_then ?_
       refine wpc_seq ?_
       refine wpc_block ?_
       refine wpc_region ?_
       refine wpl_q (q_pure rfl) rfl ?_
       refine wpl_q (q_pure rfl) rfl ?_
       refine wpl_q (q_idxA1 Tryd.underlying113 Tryd.ti5 rfl rfl (by omega)) rfl ?_
       refine wpl_q (q_ld Tryd.underlying5 rfl rfl (v8s_get (by rw [hsl]; exact hi32))) rfl ?_
       refine wpl_tp (t_bsV (v8s [_]) Tryd.underlying32 Tryd.ti5 rfl rfl (by decide) (by decide) rfl (v8s_one _)) rfl (fun b98 p98 => ?_)
       refine wpl_tp (t_apW Tryd.underlying32 Tryd.ti5 rfl (by decide) rfl rfl (fun w h => by seen_) OneC.h (by lin_) (by lin_) (v8s (((((((numK 4 (hs.getD (m + 1) Hop.z).to.toNat) ++ numK 4 (hs.getD (m + 1) Hop.z).sy.toNat) ++ [(hs.getD (m + 1) Hop.z).cnt]) ++ [(hs.getD (m + 1) Hop.z).fl]) ++ [(hs.getD (m + 1) Hop.z).root.1].flatten) ++ [of8 (hs.getD (m + 1) Hop.z).ht]) ++ (sumF ((((msgB ⟨pf, pa, pb, pl, hv, hs⟩ m) ++ numK 4 (of64 (hs.getD m Hop.z).ix).toNat) ++ (hs.getD m Hop.z).chs.flatten) ++ (hs.getD m Hop.z).ps.flatten)).take (i + 1))) (by rw [take_getDU (by rw [hsl]; exact hi32), ← List.append_assoc]; exact (v8s_append _ _).symm)) rfl (fun b99 p99 => ?_)
       refine wpl_q (q_pure rfl) rfl ?_
       refine wpl_nil ?_
       refine ex_block ?_
       refine ex_then ?_
       refine wpc_region ?_
       refine wpl_q (q_pure rfl) rfl ?_
       refine wpl_q (q_addN (b := 1) rfl rfl (by lin_)) rfl ?_
       refine wpl_q (q_pure rfl) rfl ?_
       refine wpl_nil ?_
       refine ex_again ⟨(i + 1, b99), ⟨by dsimp only; omega, p99⟩⟩ ?_ ?_ ?_
       ·
        exact (by subs_)
       ·
        exact fun w h => h.sel
       ·
        (show 32 - (i + 1) < 32 - i); omega
      ·
       simp only [decide_eq_false_iff_not] at hc91
       obtain rfl : i = 32 := by omega
       have hsl := sumF_length ((((msgB ⟨pf, pa, pb, pl, hv, hs⟩ m) ++ numK 4 (of64 (hs.getD m Hop.z).ix).toNat) ++ (hs.getD m Hop.z).chs.flatten) ++ (hs.getD m Hop.z).ps.flatten)
       refine wpc_exit ?_
       refine ex_then_exit ?_
       refine ex_then_exit ?_
       refine ex_block_hit ?_
       refine ex_then ?_
       refine wpc_seq ?_
       refine wpc_region ?_
       refine wpl_q (q_pure rfl) rfl ?_
       refine wpl_q (q_pure rfl) rfl ?_
       refine wpl_nil ?_
       refine ex_then ?_
       refine wpc_ret ?_
       refine ret1 (.inl rfl) rfl rfl ?_
       have hfe := msgS_eq ⟨pf, pa, pb, pl, hv, hs⟩ m _ _ rfl rfl
       have hfl : 59 = (msgB ⟨pf, pa, pb, pl, hv, hs⟩ (m + 1)).length := by rw [← hfe, List.length_append, a42_len, List.length_take, hsl]; rfl
       exact fun w h => ⟨v6, hfl ▸ hi1, rfl, h.below, by rw [← hfl, ← hfe]; exact h.made SubC.h .nil⟩
   ·
    refine wpa_t 8 rfl trivial (t_alloc Tryd.ti113 (v8s (List.replicate 32 0)) rfl) rfl (fun _ => (fun w h => .inr (h.sub SubC.h SubC.h))) (fun b9 => ?_)
    refine wpd_tp 3 rfl (by kernel_rfl) trivial (t_callR (m := (msgB ⟨pf, pa, pb, pl, hv, hs⟩ m).length + 4) (m' := (msgB ⟨pf, pa, pb, pl, hv, hs⟩ m).length + 4 + (hs.getD m Hop.z).chs.length * 16) (xs := v8s ((msgB ⟨pf, pa, pb, pl, hv, hs⟩ m) ++ numK 4 (of64 (hs.getD m Hop.z).ix).toNat)) (ys := v8s (((msgB ⟨pf, pa, pb, pl, hv, hs⟩ m) ++ numK 4 (of64 (hs.getD m Hop.z).ix).toNat) ++ (hs.getD m Hop.z).chs.flatten)) Tryd.hb57 rfl fun w h hr => shA b81 ((msgB ⟨pf, pa, pb, pl, hv, hs⟩ m) ++ numK 4 (of64 (hs.getD m Hop.z).ix).toNat) (hs.getD m Hop.z).cv (hs.getD m Hop.z).chs ((msgB ⟨pf, pa, pb, pl, hv, hs⟩ m).length + 4) w hr (by rw [List.length_append, numK_len]) p81 (hsm.1.mono (rdo_nil h (by simp))) hsm.2.1 (by omega) (by omega)) rfl (fun _ => (fun w h => .inr (h.sub SubC.h SubC.h))) (fun b85 p85 => ?_)
    refine wpd_tp 6 rfl (by kernel_rfl) trivial (t_callR (m := (msgB ⟨pf, pa, pb, pl, hv, hs⟩ m).length + 4 + (hs.getD m Hop.z).chs.length * 16) (m' := (msgB ⟨pf, pa, pb, pl, hv, hs⟩ m).length + 4 + (hs.getD m Hop.z).chs.length * 16 + (hs.getD m Hop.z).ps.length * 16) (xs := v8s (((msgB ⟨pf, pa, pb, pl, hv, hs⟩ m) ++ numK 4 (of64 (hs.getD m Hop.z).ix).toNat) ++ (hs.getD m Hop.z).chs.flatten)) (ys := v8s ((((msgB ⟨pf, pa, pb, pl, hv, hs⟩ m) ++ numK 4 (of64 (hs.getD m Hop.z).ix).toNat) ++ (hs.getD m Hop.z).chs.flatten) ++ (hs.getD m Hop.z).ps.flatten)) Tryd.hb57 rfl fun w h hr => shA b85 (((msgB ⟨pf, pa, pb, pl, hv, hs⟩ m) ++ numK 4 (of64 (hs.getD m Hop.z).ix).toNat) ++ (hs.getD m Hop.z).chs.flatten) (hs.getD m Hop.z).pv (hs.getD m Hop.z).ps ((msgB ⟨pf, pa, pb, pl, hv, hs⟩ m).length + 4 + (hs.getD m Hop.z).chs.length * 16) w hr (by rw [List.length_append, List.length_append, numK_len, flat_len16 hsm.2.1]) p85 (hsm.2.2.1.mono (rdo_nil h (by simp))) hsm.2.2.2 (by omega) (by omega)) rfl (fun _ => (fun w h => .inr (h.sub SubC.h SubC.h))) (fun b88 p88 => ?_)
    refine wpd_t 7 rfl (by kernel_rfl) trivial (t_pur Tryd.hb58 rfl fun w h => refSum b88 ((((msgB ⟨pf, pa, pb, pl, hv, hs⟩ m) ++ numK 4 (of64 (hs.getD m Hop.z).ix).toNat) ++ (hs.getD m Hop.z).chs.flatten) ++ (hs.getD m Hop.z).ps.flatten) w (Seen.re8 (show Seen w.cell? b88 ((msgB ⟨pf, pa, pb, pl, hv, hs⟩ m).length + 4 + (hs.getD m Hop.z).chs.length * 16 + (hs.getD m Hop.z).ps.length * 16) 1 (v8s ((((msgB ⟨pf, pa, pb, pl, hv, hs⟩ m) ++ numK 4 (of64 (hs.getD m Hop.z).ix).toNat) ++ (hs.getD m Hop.z).chs.flatten) ++ (hs.getD m Hop.z).ps.flatten)) from h.seen_row (by mem_))) (by rw [List.length_append, List.length_append, List.length_append, numK_len, flat_len16 hsm.2.1, flat_len16 hsm.2.2.2]; omega)) rfl (fun _ => (fun w h => .inr (h.sub SubC.h SubC.h))) (fun b89 => ?_)
    refine wpd_t0 9 rfl (by kernel_rfl) trivial (t_stA Tryd.ti113 rfl rfl (by rw [v8s_length]; exact sumF_length _) (v8s_one _) (by rw [v8s_length, List.length_replicate])) (fun _ => skk rfl) (fun _ => ?_)
    refine wpd_done (by kernel_rfl) ?_
    refine ex_then ?_
    refine wpc_seq ?_
    refine wpc_seq ?_
    refine wpc_region ?_
    refine wpl_q (q_pure rfl) rfl ?_
    refine wpl_nil ?_
    refine ex_then ?_
    refine wpc_block ?_
    refine wpc_loopc (ι := { x : Nat × Value // (x.1 ≤ 32) ∧ (SV x.2 (27 + x.1)) }) [(9, _)] (fun x Lc => (10, .int .i64 ((x.1.1 : Nat) : Int)) :: (6, x.1.2) :: Lc) (fun x => Mem w [] [.row x.1.2 (27 + x.1.1) 5 1 (v8s (((((((numK 4 (hs.getD (m + 1) Hop.z).to.toNat) ++ numK 4 (hs.getD (m + 1) Hop.z).sy.toNat) ++ [(hs.getD (m + 1) Hop.z).cnt]) ++ [(hs.getD (m + 1) Hop.z).fl]) ++ [(hs.getD (m + 1) Hop.z).root.1].flatten) ++ [of8 (hs.getD (m + 1) Hop.z).ht]) ++ (sumF ((((msgB ⟨pf, pa, pb, pl, hv, hs⟩ m) ++ numK 4 (of64 (hs.getD m Hop.z).ix).toNat) ++ (hs.getD m Hop.z).chs.flatten) ++ (hs.getD m Hop.z).ps.flatten)).take x.1.1)), .blk b9 113 (v8s (sumF ((((msgB ⟨pf, pa, pb, pl, hv, hs⟩ m) ++ numK 4 (of64 (hs.getD m Hop.z).ix).toNat) ++ (hs.getD m Hop.z).chs.flatten) ++ (hs.getD m Hop.z).ps.flatten)))] []) (fun x => 32 - x.1.1) ⟨(0, b42), ⟨Nat.zero_le _, p42⟩⟩ (by subs_) ?_ ?_
    ·
     exact fun w h => by
       dsimp only
       rw [List.take_zero, List.append_nil]
       exact h.sel
    ·
     rintro ⟨⟨i, v6⟩, ⟨hi0, hi1⟩⟩; try dsimp only
     have hi0 : i ≤ 32 := hi0; have hi1 : SV v6 (27 + i) := hi1
     refine wpc_seq ?_
     refine wpc_seq ?_
     refine wpc_region ?_
     refine wpl_q (q_pure rfl) rfl ?_
     refine wpl_q (q_pure rfl) rfl ?_
     refine wpl_nil ?_
     refine ex_then ?_
     refine wpc_cond rfl (fun hc91 => ?_) (fun hc91 => ?_)
     ·
      simp only [decide_eq_true_eq] at hc91
      have hi32 : i < 32 := by omega
      have hsl := sumF_length ((((msgB ⟨pf, pa, pb, pl, hv, hs⟩ m) ++ numK 4 (of64 (hs.getD m Hop.z).ix).toNat) ++ (hs.getD m Hop.z).chs.flatten) ++ (hs.getD m Hop.z).ps.flatten)
      refine wpc_skip ?_
      refine ex_then ?_
      refine wpc_seq ?_
      refine wpc_block ?_
      refine wpc_region ?_
      refine wpl_q (q_pure rfl) rfl ?_
      refine wpl_q (q_pure rfl) rfl ?_
      refine wpl_q (q_idxA1 Tryd.underlying113 Tryd.ti5 rfl rfl (by omega)) rfl ?_
      refine wpl_q (q_ld Tryd.underlying5 rfl rfl (v8s_get (by rw [hsl]; exact hi32))) rfl ?_
      refine wpl_tp (t_bsV (v8s [_]) Tryd.underlying32 Tryd.ti5 rfl rfl (by decide) (by decide) rfl (v8s_one _)) rfl (fun b98 p98 => ?_)
      refine wpl_tp (t_apW Tryd.underlying32 Tryd.ti5 rfl (by decide) rfl rfl (fun w h => by seen_) OneC.h (by lin_) (by lin_) (v8s (((((((numK 4 (hs.getD (m + 1) Hop.z).to.toNat) ++ numK 4 (hs.getD (m + 1) Hop.z).sy.toNat) ++ [(hs.getD (m + 1) Hop.z).cnt]) ++ [(hs.getD (m + 1) Hop.z).fl]) ++ [(hs.getD (m + 1) Hop.z).root.1].flatten) ++ [of8 (hs.getD (m + 1) Hop.z).ht]) ++ (sumF ((((msgB ⟨pf, pa, pb, pl, hv, hs⟩ m) ++ numK 4 (of64 (hs.getD m Hop.z).ix).toNat) ++ (hs.getD m Hop.z).chs.flatten) ++ (hs.getD m Hop.z).ps.flatten)).take (i + 1))) (by rw [take_getDU (by rw [hsl]; exact hi32), ← List.append_assoc]; exact (v8s_append _ _).symm)) rfl (fun b99 p99 => ?_)
      refine wpl_q (q_pure rfl) rfl ?_
      refine wpl_nil ?_
      refine ex_block ?_
      refine ex_then ?_
      refine wpc_region ?_
      refine wpl_q (q_pure rfl) rfl ?_
      refine wpl_q (q_addN (b := 1) rfl rfl (by lin_)) rfl ?_
      refine wpl_q (q_pure rfl) rfl ?_
      refine wpl_nil ?_
      refine ex_again ⟨(i + 1, b99), ⟨by dsimp only; omega, p99⟩⟩ ?_ ?_ ?_
      ·
       exact (by subs_)
      ·
       exact fun w h => h.sel
      ·
       (show 32 - (i + 1) < 32 - i); omega
     ·
      simp only [decide_eq_false_iff_not] at hc91
      obtain rfl : i = 32 := by omega
      have hsl := sumF_length ((((msgB ⟨pf, pa, pb, pl, hv, hs⟩ m) ++ numK 4 (of64 (hs.getD m Hop.z).ix).toNat) ++ (hs.getD m Hop.z).chs.flatten) ++ (hs.getD m Hop.z).ps.flatten)
      refine wpc_exit ?_
      refine ex_then_exit ?_
      refine ex_then_exit ?_
      refine ex_block_hit ?_
      refine ex_then ?_
      refine wpc_seq ?_
      refine wpc_region ?_
      refine wpl_q (q_pure rfl) rfl ?_
      refine wpl_q (q_pure rfl) rfl ?_
      refine wpl_nil ?_
      refine ex_then ?_
      refine wpc_ret ?_
      refine ret1 (.inl rfl) rfl rfl ?_
      have hfe := msgS_eq ⟨pf, pa, pb, pl, hv, hs⟩ m _ _ rfl rfl
      have hfl : 59 = (msgB ⟨pf, pa, pb, pl, hv, hs⟩ (m + 1)).length := by rw [← hfe, List.length_append, a42_len, List.length_take, hsl]; rfl
      exact fun w h => ⟨v6, hfl ▸ hi1, rfl, h.below, by rw [← hfl, ← hfe]; exact h.made SubC.h .nil⟩

end Go.Proofs.YtjpfhkjmjnjggaaDoor

namespace Go.Proofs.YtjpfhkjmjnjggaaDoor
set_option linter.unusedSimpArgs false
set_option linter.unusedVariables false
open Go Go.PL Go.RowKit

theorem refMessage (p : Pth) (hlim : SmP p) : ∀ (j : Nat) (w : World) (hp : p.seen w.cell?) (hj : j < p.hs.length), Calls Tryd.prog 39 [.agg p.c.toArray, .int .i64 ((j : Nat) : Int)].toArray w (GivesP w (fun v => SV v (msgB p j).length) (fun v => v) (fun v => [.row v (msgB p j).length 5 1 (v8s (msgB p j))]) (fun _ => []))
  | 0, w, hp, hj => refMessage_step p 0 w hp hj hlim fun m hm => by cases hm
  | j + 1, w, hp, hj => refMessage_step p (j + 1) w hp hj hlim fun m hm w hp => by
    cases hm
    exact refMessage p hlim j w hp (by omega)

end Go.Proofs.YtjpfhkjmjnjggaaDoor

namespace Go.Proofs.YtjpfhkjmjnjggaaDoor
set_option linter.unusedSimpArgs false
set_option linter.unusedVariables false
open Go Go.PL Go.RowKit

/-- A hop whose handles can be read. -/
abbrev HopS := { h : Hop // h.sv }
def HopS.z : HopS := ⟨Hop.z, SV.nil, SV.nil⟩
def HopS.c (h : HopS) : List Value := h.1.c
end Go.Proofs.YtjpfhkjmjnjggaaDoor

namespace Go.Proofs.YtjpfhkjmjnjggaaDoor
set_option linter.unusedSimpArgs false
set_option linter.unusedVariables false
open Go Go.PL Go.RowKit
set_option maxRecDepth 100000 in
theorem eqk : EqC Tryd.prog 3 63 true 17 (fun cs => cs.length = 17 ∧ ((((cs.drop 0).take 16).length = 16 ∧ ∀ i, i < 16 → IntCell .u8 ((((cs.drop 0).take 16).drop (i * 1)).take 1)) ∧ (IntCell .i64 ((cs.drop (0 + 16)).take 1) ∧ True))) :=
by
  refine eqc_struct Tryd.underlying63 Tryd.ti63 (by kernel_rfl) ?_
  refine EqFs.cons (sz := 16) (W := fun c => c.length = 16 ∧ ∀ i, i < 16 → IntCell .u8 ((c.drop (i * 1)).take 1)) (W' := fun cs => IntCell .i64 ((cs.drop (0 + 16)).take 1) ∧ True) (by kernel_rfl) rfl eq8_61 ?_
  refine EqFs.cons (sz := 1) (W := IntCell .i64) (W' := fun _ => True) (by kernel_rfl) rfl (eqc_up (dp' := 2) (eqc_int Tryd.underlying3 Tryd.ti3) (by decide)) ?_
  exact EqFs.nil _
theorem wkey {xs : List UInt8} (a : Int) (h : xs.length = 16) : (v8s xs ++ [Value.int .i64 a]).length = 17 ∧ (((((v8s xs ++ [Value.int .i64 a]).drop 0).take 16).length = 16 ∧ ∀ i, i < 16 → IntCell .u8 (((((v8s xs ++ [Value.int .i64 a]).drop 0).take 16).drop (i * 1)).take 1)) ∧ (IntCell .i64 (((v8s xs ++ [Value.int .i64 a]).drop (0 + 16)).take 1) ∧ True)) := by
  refine ⟨key_len xs a h, ?_, ⟨a, ?_⟩, trivial⟩
  · rw [key_root xs a h]; exact w8s h
  · rw [List.drop_left' (by rw [v8s_length, h])]; rfl
theorem q_neK {n : Cx} {R : World → Prop} {L : Slots} {t' : TypeId} {x y : Operand} {xs ys : List UInt8} {a b : Int} (hx : ev L x = some (.agg (v8s xs ++ [Value.int .i64 a]).toArray)) (hy : ev L y = some (.agg (v8s ys ++ [Value.int .i64 b]).toArray)) (h1 : xs.length = 16) (h2 : ys.length = 16) :
    QOp Tryd.prog n R L (.binOp .neq 63 x y t') (.bool (!decide (xs = ys ∧ a = b))) :=
  q_neA eqk (by decide) (by kernel_rfl) hx hy (wkey a h1) (wkey b h2) _ (by
    simp only [Bool.not_eq_true', decide_eq_false_iff_not]
    constructor
    · intro h e
      obtain ⟨e1, e2⟩ := List.append_inj e (by rw [v8s_length, v8s_length, h1, h2])
      exact h ⟨v8s_inj e1, by simpa using e2⟩
    · rintro h ⟨rfl, rfl⟩; exact h rfl)
def Hop.eqv (a b : Hop) : Prop := a.sy = b.sy ∧ a.cnt = b.cnt ∧ a.fl = b.fl ∧ a.to = b.to ∧ (a.root.1 = b.root.1 ∧ a.ht = b.ht) ∧ (a.ix = b.ix ∧ a.chs = b.chs ∧ a.ps = b.ps)
instance {a b : Hop} : Decidable (a.eqv b) := by unfold Hop.eqv; exact inferInstance
def HsEqv (l k : List Hop) : Prop := l.length = k.length ∧ ∀ i, i < l.length → Hop.eqv (l.getD i Hop.z) (k.getD i Hop.z)
instance {a b : List Hop} : Decidable (HsEqv a b) := by unfold HsEqv; exact inferInstance
/-- Two paths are the same but for their handles. -/
def Pth.eqv (p q : Pth) : Prop := (p.pf = q.pf ∧ p.pa = q.pa ∧ p.pb = q.pb ∧ p.pl = q.pl) ∧ HsEqv p.hs q.hs
instance {a b : Pth} : Decidable (a.eqv b) := by unfold Pth.eqv; exact inferInstance
def bigH (h : Hop) : Prop := 100 < h.chs.length ∨ 100 < h.ps.length
instance {h : Hop} : Decidable (bigH h) := by unfold bigH; exact inferInstance
def GreatP (p : Pth) : Prop := (4 < p.hs.length ∧ p.hs.length ≤ 30) ∨ 35 < p.hs.length ∨ ¬ (∀ i, i < p.hs.length → ¬ bigH (p.hs.getD i Hop.z))
instance {p : Pth} : Decidable (GreatP p) := by unfold GreatP; exact inferInstance
theorem great_1 {p : Pth} (h : 4 < p.hs.length) (h2 : p.hs.length ≤ 30) : GreatP p := .inl ⟨h, h2⟩
theorem great_2 {p : Pth} (h : 35 < p.hs.length) : GreatP p := .inr (.inl h)
theorem great_3 {p : Pth} {i : Nat} (h : i < p.hs.length) (h2 : bigH (p.hs.getD i Hop.z)) : GreatP p := .inr (.inr fun f => f i h h2)
theorem great_4 {p : Pth} (h : ¬ (4 < p.hs.length ∧ p.hs.length ≤ 30)) (h2 : ¬ 35 < p.hs.length) (h3 : ∀ i, i < p.hs.length → ¬ bigH (p.hs.getD i Hop.z)) : ¬ GreatP p := by
  rintro (h1 | h1 | h1)
  · exact h h1
  · exact h2 h1
  · exact h1 h3
theorem great_no {p : Pth} (h : ¬ GreatP p) : SmP p ∧ p.hs.length ≤ 35 := by
  unfold GreatP at h
  rw [not_or, not_or, Decidable.not_not] at h
  refine ⟨fun x hx => ?_, by omega⟩
  obtain ⟨i, hi, rfl⟩ := List.mem_iff_getElem.1 hx
  have := h.2.2 i hi
  rw [List.getD_eq_getElem?_getD, List.getElem?_eq_getElem hi] at this
  unfold bigH at this
  rw [not_or] at this
  exact ⟨Nat.not_lt.1 this.1, Nat.not_lt.1 this.2⟩
set_option maxRecDepth 100000 in
theorem refGreat42 (p : Pth) (w : World) (hp : p.seen w.cell?)  :
    Calls Tryd.prog 11 [.agg p.c.toArray].toArray w (Pur w (.bool (decide (GreatP p)))) := by
  obtain ⟨pf, pa, pb, pl, hv, hs⟩ := p
  have hh : Seen w.cell? hv hs.length 24 (hcs hs) := hp.1
  have hq : ∀ h ∈ hs, h.seen w.cell? := hp.2
  have svh := hh.sv
  have lh := svh.le
  simp only [maxLen] at lh
  refine enter (m := 34) (R := Mem w [] [] []) Tryd.func11 rfl rfl (Nat.le_of_ble_eq_true rfl) (Mem.start w) ?_
  refine wpc_seq ?_
  refine wpc_region ?_
  refine wpl_t (t_box rfl [.int .u8 (pf.toNat : Int), .int .u64 (pa.toNat : Int), .int .u64 (pb.toNat : Int), .int .i64 pl, hv] rfl) rfl (fun b1 => ?_)
  refine wpl_q (q_pure rfl) rfl ?_
  refine wpl_nil ?_
  refine ex_then ?_
  refine wpc_seq ?_
  refine wpc_seq ?_
  refine wpc_region ?_
  refine wpl_q (q_field Tryd.underlying29 rfl Tryd.ti27 rfl rfl _ rfl) rfl ?_
  refine wpl_q (q_ld Tryd.underlying27 rfl rfl rfl) rfl ?_
  refine wpl_q (q_lenW Tryd.underlying27 rfl (by svv_)) rfl ?_
  refine wpl_q (q_pure rfl) rfl ?_
  refine wpl_q (q_pure rfl) rfl ?_
  refine wpl_bool2 8 7 rfl rfl (fun hb8 => ?_) (fun hb8 => ?_)
  ·
   try simp only [decide_eq_true_eq] at hb8
   have h4 : 4 < hs.length := by omega
   refine wpl_on rfl rfl ?_
   refine wpl_q (q_field Tryd.underlying29 rfl Tryd.ti27 rfl rfl _ rfl) rfl ?_
   refine wpl_on rfl rfl ?_
   refine wpl_q (q_ld Tryd.underlying27 rfl rfl rfl) rfl ?_
   refine wpl_on rfl rfl ?_
   refine wpl_q (q_lenW Tryd.underlying27 rfl (by svv_)) rfl ?_
   refine wpl_on rfl rfl ?_
   refine wpl_q (q_pure rfl) rfl ?_
   refine wpl_q (q_pure rfl) rfl ?_
   refine wpl_q (q_pure rfl) rfl ?_
   refine wpl_bool2 14 12 rfl rfl (fun hb14 => ?_) (fun hb14 => ?_)
   ·
    try simp only [decide_eq_true_eq] at hb14
    have hR : GreatP ⟨pf, pa, pb, pl, hv, hs⟩ := great_1 (p := ⟨pf, pa, pb, pl, hv, hs⟩) h4 (by show hs.length ≤ 30; omega)
    refine wpl_off rfl rfl rfl rfl ?_
    refine wpl_off rfl rfl rfl rfl ?_
    refine wpl_off rfl rfl rfl rfl ?_
    refine wpl_off rfl rfl rfl rfl ?_
    refine wpl_q (q_pure rfl) rfl ?_
    refine wpl_nil ?_
    refine ex_then ?_
    refine wpc_cond_t rfl ?_
    refine wpc_seq ?_
    refine wpc_region ?_
    refine wpl_q (q_pure rfl) rfl ?_
    refine wpl_nil ?_
    refine ex_then ?_
    refine wpc_ret ?_
    refine ex_then_ret ?_
    refine ret1 (.inl rfl) rfl rfl ?_
    exact fun w h => ⟨by rw [decide_eq_true hR], h.below⟩
   ·
    try simp only [decide_eq_false_iff_not] at hb14
    have h4 : ¬ (4 < hs.length ∧ hs.length ≤ 30) := by omega
    refine wpl_on rfl rfl ?_
    refine wpl_q (q_field Tryd.underlying29 rfl Tryd.ti27 rfl rfl _ rfl) rfl ?_
    refine wpl_on rfl rfl ?_
    refine wpl_q (q_ld Tryd.underlying27 rfl rfl rfl) rfl ?_
    refine wpl_on rfl rfl ?_
    refine wpl_q (q_lenW Tryd.underlying27 rfl (by svv_)) rfl ?_
    refine wpl_on rfl rfl ?_
    refine wpl_q (q_pure rfl) rfl ?_
    refine wpl_q (q_pure rfl) rfl ?_
    refine wpl_nil ?_
    refine ex_then ?_
    refine wpc_cond rfl (fun hc19 => ?_) (fun hc19 => ?_)
    ·
     simp only [decide_eq_true_eq] at hc19
     have hR : GreatP ⟨pf, pa, pb, pl, hv, hs⟩ := great_2 (p := ⟨pf, pa, pb, pl, hv, hs⟩) (by show 35 < hs.length; omega)
     refine wpc_seq ?_
     refine wpc_region ?_
     refine wpl_q (q_pure rfl) rfl ?_
     refine wpl_nil ?_
     refine ex_then ?_
     refine wpc_ret ?_
     refine ex_then_ret ?_
     refine ret1 (.inl rfl) rfl rfl ?_
     exact fun w h => ⟨by rw [decide_eq_true hR], h.below⟩
    ·
     simp only [decide_eq_false_iff_not] at hc19
     have h35 : ¬ 35 < hs.length := by omega
     refine wpc_skip ?_
     refine ex_then ?_
     refine wpc_seq ?_
     refine wpc_seq ?_
     refine wpc_region ?_
     refine wpl_q (q_pure rfl) rfl ?_
     refine wpl_nil ?_
     refine ex_then ?_
     refine wpc_block ?_
     refine wpc_loopc (ι := { x : Nat // (x ≤ hs.length) ∧ (∀ j, j < x → ¬ bigH (hs.getD j Hop.z)) }) [(1, _)] (fun x Lc => (3, .int .i64 ((x.1 : Nat) : Int)) :: Lc) (fun x => Mem w [] [.blk b1 29 [.int .u8 (pf.toNat : Int), .int .u64 (pa.toNat : Int), .int .u64 (pb.toNat : Int), .int .i64 pl, hv]] []) (fun x => hs.length - x.1) ⟨0, ⟨Nat.zero_le _, fun j hj => by omega⟩⟩ (by subs_) ?_ ?_
     ·
      exact fun w h => h
     ·
      rintro ⟨i, ⟨hi0, hi1⟩⟩; try dsimp only
      have hi0 : i ≤ hs.length := hi0; have hi1 : ∀ j, j < i → ¬ bigH (hs.getD j Hop.z) := hi1
      refine wpc_seq ?_
      refine wpc_seq ?_
      refine wpc_region ?_
      refine wpl_q (q_pure rfl) rfl ?_
      refine wpl_q (q_field Tryd.underlying29 rfl Tryd.ti27 rfl rfl _ rfl) rfl ?_
      refine wpl_q (q_ld Tryd.underlying27 rfl rfl rfl) rfl ?_
      refine wpl_q (q_lenW Tryd.underlying27 rfl (by svv_)) rfl ?_
      refine wpl_q (q_pure rfl) rfl ?_
      refine wpl_nil ?_
      refine ex_then ?_
      refine wpc_cond rfl (fun hc24 => ?_) (fun hc24 => ?_)
      ·
       simp only [decide_eq_true_eq] at hc24
       have hil : i < hs.length := by omega
       have hsi := hq _ (getD_memO hil)
       refine wpc_skip ?_
       refine ex_then ?_
       refine wpc_seq ?_
       refine wpc_block ?_
       refine wpc_seq ?_
       refine wpc_region ?_
       refine wpl_q (q_field Tryd.underlying29 rfl Tryd.ti27 rfl rfl _ rfl) rfl ?_
       refine wpl_q (q_ld Tryd.underlying27 rfl rfl rfl) rfl ?_
       refine wpl_q (q_pure rfl) rfl ?_
       refine wpl_q (q_idxW Tryd.underlying27 Tryd.ti68 rfl rfl (by svv_) (by lin_)) rfl ?_
       refine wpl_q (q_fieldPo 21 Tryd.underlying68 rfl Tryd.ti66 rfl rfl rfl) rfl ?_
       refine wpl_q (q_ldWFN Tryd.underlying66 rfl Tryd.ti66 rfl (fun w h => h.seen_old hh) (hs.getD i Hop.z).sig (hcs_sig hil) rfl) rfl ?_
       refine wpl_t (t_pur Tryd.hb36 rfl fun w h => refGreat7 _ _ _ _ _ w (hsi.old h).1 (hsi.old h).2.1 (hsi.old h).2.2.1 (hsi.old h).2.2.2) rfl (fun b33 => ?_)
       refine wpl_nil ?_
       refine ex_then ?_
       refine wpc_cond rfl (fun hc33 => ?_) (fun hc33 => ?_)
       ·
        have hbg : bigH (hs.getD i Hop.z) := of_decide_eq_true hc33
        have hR : GreatP ⟨pf, pa, pb, pl, hv, hs⟩ := great_3 (p := ⟨pf, pa, pb, pl, hv, hs⟩) hil hbg
        refine wpc_seq ?_
        refine wpc_region ?_
        refine wpl_q (q_pure rfl) rfl ?_
        refine wpl_nil ?_
        refine ex_then ?_
        refine wpc_ret ?_
        refine ex_block_ret ?_
        refine ex_then_ret ?_
        refine ex_then_ret ?_
        refine ex_block_ret ?_
        refine ex_then_ret ?_
        refine ret1 (.inl rfl) rfl rfl ?_
        exact fun w h => ⟨by rw [decide_eq_true hR], h.below⟩
       ·
        have hok : ¬ bigH (hs.getD i Hop.z) := of_decide_eq_false hc33
        refine wpc_skip ?_
        refine ex_block ?_
        refine ex_then ?_
        refine wpc_region ?_
        refine wpl_q (q_pure rfl) rfl ?_
        refine wpl_q (q_addN (b := 1) rfl rfl (by lin_)) rfl ?_
        refine wpl_q (q_pure rfl) rfl ?_
        refine wpl_nil ?_
        refine ex_again ⟨i + 1, ⟨by show i + 1 ≤ hs.length; omega, fun j hj => by rcases Nat.lt_or_ge j i with h | h; exact hi1 j h; obtain rfl : j = i := (by have hj : j < i + 1 := hj; omega); exact hok⟩⟩ ?_ ?_ ?_
        ·
         exact (by subs_)
        ·
         exact fun w h => by first | exact h | exact h.sub SubC.h SubC.h | exact h.sub (by subT_) (by subT_)
        ·
         (show hs.length - (i + 1) < hs.length - i); omega
      ·
       simp only [decide_eq_false_iff_not] at hc24
       obtain rfl : i = hs.length := by omega
       have hR : ¬ GreatP ⟨pf, pa, pb, pl, hv, hs⟩ := great_4 (p := ⟨pf, pa, pb, pl, hv, hs⟩) h4 h35 hi1
       refine wpc_exit ?_
       refine ex_then_exit ?_
       refine ex_then_exit ?_
       refine ex_block_hit ?_
       refine ex_then ?_
       refine wpc_seq ?_
       refine wpc_region ?_
       refine wpl_q (q_pure rfl) rfl ?_
       refine wpl_nil ?_
       refine ex_then ?_
       refine wpc_ret ?_
       refine ret1 (.inl rfl) rfl rfl ?_
       exact fun w h => ⟨by rw [decide_eq_false hR], h.below⟩
  ·
   try simp only [decide_eq_false_iff_not] at hb8
   have h4 : ¬ (4 < hs.length ∧ hs.length ≤ 30) := by omega
   refine wpl_off rfl rfl rfl rfl ?_
   refine wpl_off rfl rfl rfl rfl ?_
   refine wpl_off rfl rfl rfl rfl ?_
   refine wpl_off rfl rfl rfl rfl ?_
   refine wpl_q (q_pure rfl) rfl ?_
   refine wpl_q (q_pure rfl) rfl ?_
   refine wpl_on rfl rfl ?_
   refine wpl_q (q_field Tryd.underlying29 rfl Tryd.ti27 rfl rfl _ rfl) rfl ?_
   refine wpl_on rfl rfl ?_
   refine wpl_q (q_ld Tryd.underlying27 rfl rfl rfl) rfl ?_
   refine wpl_on rfl rfl ?_
   refine wpl_q (q_lenW Tryd.underlying27 rfl (by svv_)) rfl ?_
   refine wpl_on rfl rfl ?_
   refine wpl_q (q_pure rfl) rfl ?_
   refine wpl_q (q_pure rfl) rfl ?_
   refine wpl_nil ?_
   refine ex_then ?_
   refine wpc_cond rfl (fun hc19 => ?_) (fun hc19 => ?_)
   ·
    simp only [decide_eq_true_eq] at hc19
    have hR : GreatP ⟨pf, pa, pb, pl, hv, hs⟩ := great_2 (p := ⟨pf, pa, pb, pl, hv, hs⟩) (by show 35 < hs.length; omega)
    refine wpc_seq ?_
    refine wpc_region ?_
    refine wpl_q (q_pure rfl) rfl ?_
    refine wpl_nil ?_
    refine ex_then ?_
    refine wpc_ret ?_
    refine ex_then_ret ?_
    refine ret1 (.inl rfl) rfl rfl ?_
    exact fun w h => ⟨by rw [decide_eq_true hR], h.below⟩
   ·
    simp only [decide_eq_false_iff_not] at hc19
    have h35 : ¬ 35 < hs.length := by omega
    refine wpc_skip ?_
    refine ex_then ?_
    refine wpc_seq ?_
    refine wpc_seq ?_
    refine wpc_region ?_
    refine wpl_q (q_pure rfl) rfl ?_
    refine wpl_nil ?_
    refine ex_then ?_
    refine wpc_block ?_
    refine wpc_loopc (ι := { x : Nat // (x ≤ hs.length) ∧ (∀ j, j < x → ¬ bigH (hs.getD j Hop.z)) }) [(1, _)] (fun x Lc => (3, .int .i64 ((x.1 : Nat) : Int)) :: Lc) (fun x => Mem w [] [.blk b1 29 [.int .u8 (pf.toNat : Int), .int .u64 (pa.toNat : Int), .int .u64 (pb.toNat : Int), .int .i64 pl, hv]] []) (fun x => hs.length - x.1) ⟨0, ⟨Nat.zero_le _, fun j hj => by omega⟩⟩ (by subs_) ?_ ?_
    ·
     exact fun w h => h
    ·
     rintro ⟨i, ⟨hi0, hi1⟩⟩; try dsimp only
     have hi0 : i ≤ hs.length := hi0; have hi1 : ∀ j, j < i → ¬ bigH (hs.getD j Hop.z) := hi1
     refine wpc_seq ?_
     refine wpc_seq ?_
     refine wpc_region ?_
     refine wpl_q (q_pure rfl) rfl ?_
     refine wpl_q (q_field Tryd.underlying29 rfl Tryd.ti27 rfl rfl _ rfl) rfl ?_
     refine wpl_q (q_ld Tryd.underlying27 rfl rfl rfl) rfl ?_
     refine wpl_q (q_lenW Tryd.underlying27 rfl (by svv_)) rfl ?_
     refine wpl_q (q_pure rfl) rfl ?_
     refine wpl_nil ?_
     refine ex_then ?_
     refine wpc_cond rfl (fun hc24 => ?_) (fun hc24 => ?_)
     ·
      simp only [decide_eq_true_eq] at hc24
      have hil : i < hs.length := by omega
      have hsi := hq _ (getD_memO hil)
      refine wpc_skip ?_
      refine ex_then ?_
      refine wpc_seq ?_
      refine wpc_block ?_
      refine wpc_seq ?_
      refine wpc_region ?_
      refine wpl_q (q_field Tryd.underlying29 rfl Tryd.ti27 rfl rfl _ rfl) rfl ?_
      refine wpl_q (q_ld Tryd.underlying27 rfl rfl rfl) rfl ?_
      refine wpl_q (q_pure rfl) rfl ?_
      refine wpl_q (q_idxW Tryd.underlying27 Tryd.ti68 rfl rfl (by svv_) (by lin_)) rfl ?_
      refine wpl_q (q_fieldPo 21 Tryd.underlying68 rfl Tryd.ti66 rfl rfl rfl) rfl ?_
      refine wpl_q (q_ldWFN Tryd.underlying66 rfl Tryd.ti66 rfl (fun w h => h.seen_old hh) (hs.getD i Hop.z).sig (hcs_sig hil) rfl) rfl ?_
      refine wpl_t (t_pur Tryd.hb36 rfl fun w h => refGreat7 _ _ _ _ _ w (hsi.old h).1 (hsi.old h).2.1 (hsi.old h).2.2.1 (hsi.old h).2.2.2) rfl (fun b33 => ?_)
      refine wpl_nil ?_
      refine ex_then ?_
      refine wpc_cond rfl (fun hc33 => ?_) (fun hc33 => ?_)
      ·
       have hbg : bigH (hs.getD i Hop.z) := of_decide_eq_true hc33
       have hR : GreatP ⟨pf, pa, pb, pl, hv, hs⟩ := great_3 (p := ⟨pf, pa, pb, pl, hv, hs⟩) hil hbg
       refine wpc_seq ?_
       refine wpc_region ?_
       refine wpl_q (q_pure rfl) rfl ?_
       refine wpl_nil ?_
       refine ex_then ?_
       refine wpc_ret ?_
       refine ex_block_ret ?_
       refine ex_then_ret ?_
       refine ex_then_ret ?_
       refine ex_block_ret ?_
       refine ex_then_ret ?_
       refine ret1 (.inl rfl) rfl rfl ?_
       exact fun w h => ⟨by rw [decide_eq_true hR], h.below⟩
      ·
       have hok : ¬ bigH (hs.getD i Hop.z) := of_decide_eq_false hc33
       refine wpc_skip ?_
       refine ex_block ?_
       refine ex_then ?_
       refine wpc_region ?_
       refine wpl_q (q_pure rfl) rfl ?_
       refine wpl_q (q_addN (b := 1) rfl rfl (by lin_)) rfl ?_
       refine wpl_q (q_pure rfl) rfl ?_
       refine wpl_nil ?_
       refine ex_again ⟨i + 1, ⟨by show i + 1 ≤ hs.length; omega, fun j hj => by rcases Nat.lt_or_ge j i with h | h; exact hi1 j h; obtain rfl : j = i := (by have hj : j < i + 1 := hj; omega); exact hok⟩⟩ ?_ ?_ ?_
       ·
        exact (by subs_)
       ·
        exact fun w h => by first | exact h | exact h.sub SubC.h SubC.h | exact h.sub (by subT_) (by subT_)
       ·
        (show hs.length - (i + 1) < hs.length - i); omega
     ·
      simp only [decide_eq_false_iff_not] at hc24
      obtain rfl : i = hs.length := by omega
      have hR : ¬ GreatP ⟨pf, pa, pb, pl, hv, hs⟩ := great_4 (p := ⟨pf, pa, pb, pl, hv, hs⟩) h4 h35 hi1
      refine wpc_exit ?_
      refine ex_then_exit ?_
      refine ex_then_exit ?_
      refine ex_block_hit ?_
      refine ex_then ?_
      refine wpc_seq ?_
      refine wpc_region ?_
      refine wpl_q (q_pure rfl) rfl ?_
      refine wpl_nil ?_
      refine ex_then ?_
      refine wpc_ret ?_
      refine ret1 (.inl rfl) rfl rfl ?_
      exact fun w h => ⟨by rw [decide_eq_false hR], h.below⟩

end Go.Proofs.YtjpfhkjmjnjggaaDoor

namespace Go.Proofs.YtjpfhkjmjnjggaaDoor
set_option linter.unusedSimpArgs false
set_option linter.unusedVariables false
open Go Go.PL Go.RowKit
set_option maxRecDepth 100000 in
theorem refSame42 (p : Pth) (q : Pth) (w : World) (hp : p.seen w.cell?) (hqp : q.seen w.cell?)  :
    Calls Tryd.prog 21 [.agg p.c.toArray, .agg q.c.toArray].toArray w (Pur w (.bool (decide (Pth.eqv p q)))) := by
  obtain ⟨pf, pa, pb, pl, hv, hs⟩ := p
  have hh : Seen w.cell? hv hs.length 24 (hcs hs) := hp.1
  have hq : ∀ h ∈ hs, h.seen w.cell? := hp.2
  have svh := hh.sv
  have lh := svh.le
  simp only [maxLen] at lh
  obtain ⟨pf2, pa2, pb2, pl2, hv2, hs2⟩ := q
  have hh2 : Seen w.cell? hv2 hs2.length 24 (hcs hs2) := hqp.1
  have hq2 : ∀ h ∈ hs2, h.seen w.cell? := hqp.2
  have svh2 := hh2.sv
  have lh2 := svh2.le
  simp only [maxLen] at lh2
  refine enter (m := 80) (R := Mem w [] [] []) Tryd.func21 rfl rfl (Nat.le_of_ble_eq_true rfl) (Mem.start w) ?_
  refine wpc_seq ?_
  refine wpc_region ?_
  refine wpl_t (t_box rfl [.int .u8 (pf.toNat : Int), .int .u64 (pa.toNat : Int), .int .u64 (pb.toNat : Int), .int .i64 pl, hv] rfl) rfl (fun b2 => ?_)
  refine wpl_t (t_box rfl [.int .u8 (pf2.toNat : Int), .int .u64 (pa2.toNat : Int), .int .u64 (pb2.toNat : Int), .int .i64 pl2, hv2] rfl) rfl (fun b3 => ?_)
  refine wpl_q (q_pure rfl) rfl ?_
  refine wpl_nil ?_
  refine ex_then ?_
  refine wpc_seq ?_
  refine wpc_seq ?_
  refine wpc_region ?_
  refine wpl_q (q_field Tryd.underlying29 rfl Tryd.ti26 rfl rfl _ rfl) rfl ?_
  refine wpl_q (q_ldP Tryd.underlying26 rfl Tryd.ti26 rfl (pfL pf pa pb pl) rfl (by lens_)) rfl ?_
  refine wpl_q (q_field Tryd.underlying29 rfl Tryd.ti26 rfl rfl _ rfl) rfl ?_
  refine wpl_q (q_ldP Tryd.underlying26 rfl Tryd.ti26 rfl (pfL pf2 pa2 pb2 pl2) rfl (by lens_)) rfl ?_
  refine wpl_q (q_nePfx rfl rfl) rfl ?_
  refine wpl_q (q_pure rfl) rfl ?_
  refine wpl_bool2 13 12 rfl rfl (fun hb13 => ?_) (fun hb13 => ?_)
  ·
   have hdd : ¬ (pf = pf2 ∧ pa = pa2 ∧ pb = pb2 ∧ pl = pl2) := by simpa only [Bool.not_eq_true', decide_eq_false_iff_not] using hb13
   have hne : ¬ Pth.eqv ⟨pf, pa, pb, pl, hv, hs⟩ ⟨pf2, pa2, pb2, pl2, hv2, hs2⟩ := fun e => hdd e.1
   refine wpl_off rfl rfl rfl rfl ?_
   refine wpl_off rfl rfl rfl rfl ?_
   refine wpl_off rfl rfl rfl rfl ?_
   refine wpl_off rfl rfl rfl rfl ?_
   refine wpl_off rfl rfl rfl rfl ?_
   refine wpl_off rfl rfl rfl rfl ?_
   refine wpl_off rfl rfl rfl rfl ?_
   refine wpl_q (q_pure rfl) rfl ?_
   refine wpl_nil ?_
   refine ex_then ?_
   refine wpc_cond_t rfl ?_
   refine wpc_seq ?_
   refine wpc_region ?_
   refine wpl_q (q_pure rfl) rfl ?_
   refine wpl_nil ?_
   refine ex_then ?_
   refine wpc_ret ?_
   refine ex_then_ret ?_
   refine ret1 (.inl rfl) rfl rfl ?_
   first | exact fun w h => ⟨by rw [decide_eq_false hne], h.below⟩ | exact fun w h => ⟨by rw [decide_eq_true hR], h.below⟩
  ·
   have hpx : pf = pf2 ∧ pa = pa2 ∧ pb = pb2 ∧ pl = pl2 := by simpa only [Bool.not_eq_false', decide_eq_true_eq] using hb13
   refine wpl_on rfl rfl ?_
   refine wpl_q (q_field Tryd.underlying29 rfl Tryd.ti27 rfl rfl _ rfl) rfl ?_
   refine wpl_on rfl rfl ?_
   refine wpl_q (q_ld Tryd.underlying27 rfl rfl rfl) rfl ?_
   refine wpl_on rfl rfl ?_
   refine wpl_q (q_lenW Tryd.underlying27 rfl (by svv_)) rfl ?_
   refine wpl_on rfl rfl ?_
   refine wpl_q (q_field Tryd.underlying29 rfl Tryd.ti27 rfl rfl _ rfl) rfl ?_
   refine wpl_on rfl rfl ?_
   refine wpl_q (q_ld Tryd.underlying27 rfl rfl rfl) rfl ?_
   refine wpl_on rfl rfl ?_
   refine wpl_q (q_lenW Tryd.underlying27 rfl (by svv_)) rfl ?_
   refine wpl_on rfl rfl ?_
   refine wpl_q (q_pure rfl) rfl ?_
   refine wpl_q (q_pure rfl) rfl ?_
   refine wpl_nil ?_
   refine ex_then ?_
   refine wpc_cond rfl (fun hc21 => ?_) (fun hc21 => ?_)
   ·
    have hdd : ¬ ((hs.length : Nat) : Int) = ((hs2.length : Nat) : Int) := by simpa using hc21
    have hne : ¬ Pth.eqv ⟨pf, pa, pb, pl, hv, hs⟩ ⟨pf2, pa2, pb2, pl2, hv2, hs2⟩ := fun e => hdd (congrArg _ e.2.1)
    refine wpc_seq ?_
    refine wpc_region ?_
    refine wpl_q (q_pure rfl) rfl ?_
    refine wpl_nil ?_
    refine ex_then ?_
    refine wpc_ret ?_
    refine ex_then_ret ?_
    refine ret1 (.inl rfl) rfl rfl ?_
    first | exact fun w h => ⟨by rw [decide_eq_false hne], h.below⟩ | exact fun w h => ⟨by rw [decide_eq_true hR], h.below⟩
   ·
    have hdd : ((hs.length : Nat) : Int) = ((hs2.length : Nat) : Int) := by simpa using hc21
    have hl : hs.length = hs2.length := by omega
    refine wpc_skip ?_
    refine ex_then ?_
    refine wpc_seq ?_
    refine wpc_seq ?_
    refine wpc_region ?_
    refine wpl_q (q_pure rfl) rfl ?_
    refine wpl_nil ?_
    refine ex_then ?_
    refine wpc_block ?_
    refine wpc_loopc (ι := { x : Nat // (x ≤ hs.length) ∧ (∀ j, j < x → Hop.eqv (hs.getD j Hop.z) (hs2.getD j Hop.z)) }) [(2, _), (3, _)] (fun x Lc => (5, .int .i64 ((x.1 : Nat) : Int)) :: Lc) (fun x => Mem w [] [.blk b3 29 [.int .u8 (pf2.toNat : Int), .int .u64 (pa2.toNat : Int), .int .u64 (pb2.toNat : Int), .int .i64 pl2, hv2], .blk b2 29 [.int .u8 (pf.toNat : Int), .int .u64 (pa.toNat : Int), .int .u64 (pb.toNat : Int), .int .i64 pl, hv]] []) (fun x => hs.length - x.1) ⟨0, ⟨Nat.zero_le _, fun j hj => by omega⟩⟩ (by subs_) ?_ ?_
    ·
     exact fun w h => h
    ·
     rintro ⟨i, ⟨hi0, hi1⟩⟩; try dsimp only
     have hi0 : i ≤ hs.length := hi0; have hi1 : ∀ j, j < i → Hop.eqv (hs.getD j Hop.z) (hs2.getD j Hop.z) := hi1
     refine wpc_seq ?_
     refine wpc_seq ?_
     refine wpc_region ?_
     refine wpl_q (q_pure rfl) rfl ?_
     refine wpl_q (q_field Tryd.underlying29 rfl Tryd.ti27 rfl rfl _ rfl) rfl ?_
     refine wpl_q (q_ld Tryd.underlying27 rfl rfl rfl) rfl ?_
     refine wpl_q (q_lenW Tryd.underlying27 rfl (by svv_)) rfl ?_
     refine wpl_q (q_pure rfl) rfl ?_
     refine wpl_nil ?_
     refine ex_then ?_
     refine wpc_cond rfl (fun hc26 => ?_) (fun hc26 => ?_)
     ·
      simp only [decide_eq_true_eq] at hc26
      have hil : i < hs.length := by omega
      have hil2 : i < hs2.length := by omega
      have hsi := hq _ (getD_memO hil)
      have hsi2 := hq2 _ (getD_memO hil2)
      haveI := hsi.sv.one
      haveI := hsi2.sv.one
      refine wpc_skip ?_
      refine ex_then ?_
      refine wpc_seq ?_
      refine wpc_block ?_
      refine wpc_cutc ({ x : Nat × Nat // True }) [(2, .pointer (some ⟨b2, 0, none⟩)), (3, .pointer (some ⟨b3, 0, none⟩)), (5, .int .i64 ((i : Nat) : Int))] (fun x Lc => (6, .pointer (some ⟨x.1.1, 0, none⟩)) :: (7, .pointer (some ⟨x.1.2, 0, none⟩)) :: Lc) (fun x => Mem w [] [.blk x.1.1 68 (hs.getD i Hop.z).c, .blk x.1.2 68 (hs2.getD i Hop.z).c, .blk b3 29 [.int .u8 (pf2.toNat : Int), .int .u64 (pa2.toNat : Int), .int .u64 (pb2.toNat : Int), .int .i64 pl2, hv2], .blk b2 29 [.int .u8 (pf.toNat : Int), .int .u64 (pa.toNat : Int), .int .u64 (pb.toNat : Int), .int .i64 pl, hv]] []) ?_ ?_
      ·
       refine wpc_draw 99 (by kernel_rfl) (fun _ h => h.drew) ?_
       refine wpd_p 0 rfl (by kernel_rfl) trivial (q_field Tryd.underlying29 rfl Tryd.ti27 rfl rfl _ rfl) rfl sk0 ?_
       refine wpd_q 1 rfl (by kernel_rfl) trivial (q_ld Tryd.underlying27 rfl rfl rfl) rfl (fun _ h => h) ?_
       refine wpd_p 2 rfl (by kernel_rfl) trivial (q_pure rfl) rfl sk0 ?_
       refine wpd_p 3 rfl (by kernel_rfl) trivial (q_idxW Tryd.underlying27 Tryd.ti68 rfl rfl (by svv_) (by lin_)) rfl sk0 ?_
       refine wpd_q 4 rfl (by kernel_rfl) trivial (q_ldWN Tryd.underlying68 rfl Tryd.ti68 rfl (fun w h => h.seen_old hh) (hs.getD i Hop.z).c (cat_part Hop.c_length Hop.z hil) (Hop.c_length _)) rfl (fun _ h => h) ?_
       refine wpd_p 5 rfl (by kernel_rfl) trivial (q_field Tryd.underlying29 rfl Tryd.ti27 rfl rfl _ rfl) rfl sk0 ?_
       refine wpd_q 6 rfl (by kernel_rfl) trivial (q_ld Tryd.underlying27 rfl rfl rfl) rfl (fun _ h => h) ?_
       refine wpd_p 7 rfl (by kernel_rfl) trivial (q_pure rfl) rfl sk0 ?_
       refine wpd_p 8 rfl (by kernel_rfl) trivial (q_idxW Tryd.underlying27 Tryd.ti68 rfl rfl (by svv_) (by lin_)) rfl sk0 ?_
       refine wpd_q 9 rfl (by kernel_rfl) trivial (q_ldWN Tryd.underlying68 rfl Tryd.ti68 rfl (fun w h => h.seen_old hh2) (hs2.getD i Hop.z).c (cat_part Hop.c_length Hop.z hil2) (Hop.c_length _)) rfl (fun _ h => h) ?_
       refine wpd_two 10 11 (by kernel_rfl) ?_ ?_
       ·
        refine wpa_t 10 rfl trivial (t_alloc Tryd.ti68 Hop.z.c rfl) rfl (fun _ => (fun w h => .inr (h.sub SubC.h SubC.h))) (fun b6 => ?_)
        refine wpd_t 11 rfl (by kernel_rfl) trivial (t_alloc Tryd.ti68 Hop.z.c rfl) rfl (fun _ => (fun w h => .inr (h.sub SubC.h SubC.h))) (fun b7 => ?_)
        refine wpd_t0 12 rfl (by kernel_rfl) trivial (t_stA Tryd.ti68 rfl rfl LenC.h OneC.h LenC.h) (fun _ => (fun w h => .inr (h.sub SubC.h SubC.h))) (fun _ => ?_)
        refine wpd_t0 13 rfl (by kernel_rfl) trivial (t_stA Tryd.ti68 rfl rfl LenC.h OneC.h LenC.h) (fun _ => (fun w h => .inr (h.sub SubC.h SubC.h))) (fun _ => ?_)
        refine wpd_done (by kernel_rfl) ?_
        refine ex_mid ⟨(b6, b7), trivial⟩ ?_ ?_
        ·
         exact (by subs_)
        ·
         exact fun w h => h.sel
       ·
        refine wpa_t 11 rfl trivial (t_alloc Tryd.ti68 Hop.z.c rfl) rfl (fun _ => (fun w h => .inr (h.sub SubC.h SubC.h))) (fun b7 => ?_)
        refine wpd_t 10 rfl (by kernel_rfl) trivial (t_alloc Tryd.ti68 Hop.z.c rfl) rfl (fun _ => (fun w h => .inr (h.sub SubC.h SubC.h))) (fun b6 => ?_)
        refine wpd_t0 12 rfl (by kernel_rfl) trivial (t_stA Tryd.ti68 rfl rfl LenC.h OneC.h LenC.h) (fun _ => (fun w h => .inr (h.sub SubC.h SubC.h))) (fun _ => ?_)
        refine wpd_t0 13 rfl (by kernel_rfl) trivial (t_stA Tryd.ti68 rfl rfl LenC.h OneC.h LenC.h) (fun _ => (fun w h => .inr (h.sub SubC.h SubC.h))) (fun _ => ?_)
        refine wpd_done (by kernel_rfl) ?_
        refine ex_mid ⟨(b6, b7), trivial⟩ ?_ ?_
        ·
         exact (by subs_)
        ·
         exact fun w h => h.sel
      ·
       rintro ⟨⟨a6, a7⟩, _⟩; try dsimp only
       refine wpc_seq ?_
       refine wpc_region ?_
       refine wpl_q (q_field Tryd.underlying68 rfl Tryd.ti49 rfl rfl _ rfl) rfl ?_
       refine wpl_q (q_ld Tryd.underlying49 rfl rfl (Hop.c_sy _)) rfl ?_
       refine wpl_q (q_field Tryd.underlying68 rfl Tryd.ti49 rfl rfl _ rfl) rfl ?_
       refine wpl_q (q_ld Tryd.underlying49 rfl rfl (Hop.c_sy _)) rfl ?_
       refine wpl_q (q32_neq rfl rfl) rfl ?_
       refine wpl_q (q_pure rfl) rfl ?_
       refine wpl_bool2 44 43 rfl rfl (fun hb44 => ?_) (fun hb44 => ?_)
       ·
        have hdd : ¬ (hs.getD i Hop.z).sy = (hs2.getD i Hop.z).sy := by simpa using hb44
        have hne : ¬ Pth.eqv ⟨pf, pa, pb, pl, hv, hs⟩ ⟨pf2, pa2, pb2, pl2, hv2, hs2⟩ := fun e => hdd (e.2.2 i hil).1
        refine wpl_off rfl rfl rfl rfl ?_
        refine wpl_off rfl rfl rfl rfl ?_
        refine wpl_off rfl rfl rfl rfl ?_
        refine wpl_off rfl rfl rfl rfl ?_
        refine wpl_off rfl rfl rfl rfl ?_
        refine wpl_q (q_pure rfl) rfl ?_
        refine wpl_q (q_pure rfl) rfl ?_
        refine wpl_off rfl rfl rfl rfl ?_
        refine wpl_off rfl rfl rfl rfl ?_
        refine wpl_off rfl rfl rfl rfl ?_
        refine wpl_off rfl rfl rfl rfl ?_
        refine wpl_off rfl rfl rfl rfl ?_
        refine wpl_q (q_pure rfl) rfl ?_
        refine wpl_q (q_pure rfl) rfl ?_
        refine wpl_off rfl rfl rfl rfl ?_
        refine wpl_off rfl rfl rfl rfl ?_
        refine wpl_off rfl rfl rfl rfl ?_
        refine wpl_off rfl rfl rfl rfl ?_
        refine wpl_off rfl rfl rfl rfl ?_
        refine wpl_q (q_pure rfl) rfl ?_
        refine wpl_q (q_pure rfl) rfl ?_
        refine wpl_off rfl rfl rfl rfl ?_
        refine wpl_off rfl rfl rfl rfl ?_
        refine wpl_off rfl rfl rfl rfl ?_
        refine wpl_off rfl rfl rfl rfl ?_
        refine wpl_off rfl rfl rfl rfl ?_
        refine wpl_q (q_pure rfl) rfl ?_
        refine wpl_q (q_pure rfl) rfl ?_
        refine wpl_off rfl rfl rfl rfl ?_
        refine wpl_off rfl rfl rfl rfl ?_
        refine wpl_off rfl rfl rfl rfl ?_
        refine wpl_off rfl rfl rfl rfl ?_
        refine wpl_off rfl rfl rfl rfl ?_
        refine wpl_off rfl rfl rfl rfl ?_
        refine wpl_q (q_pure rfl) rfl ?_
        refine wpl_nil ?_
        refine ex_then ?_
        refine wpc_cond_t rfl ?_
        refine wpc_seq ?_
        refine wpc_region ?_
        refine wpl_q (q_pure rfl) rfl ?_
        refine wpl_nil ?_
        refine ex_then ?_
        refine wpc_ret ?_
        refine ex_block_ret ?_
        refine ex_then_ret ?_
        refine ex_then_ret ?_
        refine ex_block_ret ?_
        refine ex_then_ret ?_
        refine ret1 (.inl rfl) rfl rfl ?_
        first | exact fun w h => ⟨by rw [decide_eq_false hne], h.below⟩ | exact fun w h => ⟨by rw [decide_eq_true hR], h.below⟩
       ·
        have hd44 : (hs.getD i Hop.z).sy = (hs2.getD i Hop.z).sy := by simpa using hb44
        refine wpl_on rfl rfl ?_
        refine wpl_q (q_field Tryd.underlying68 rfl Tryd.ti5 rfl rfl _ rfl) rfl ?_
        refine wpl_on rfl rfl ?_
        refine wpl_q (q_ld Tryd.underlying5 rfl rfl (Hop.c_cnt _)) rfl ?_
        refine wpl_on rfl rfl ?_
        refine wpl_q (q_field Tryd.underlying68 rfl Tryd.ti5 rfl rfl _ rfl) rfl ?_
        refine wpl_on rfl rfl ?_
        refine wpl_q (q_ld Tryd.underlying5 rfl rfl (Hop.c_cnt _)) rfl ?_
        refine wpl_on rfl rfl ?_
        refine wpl_q (q8_neq rfl rfl) rfl ?_
        refine wpl_q (q_pure rfl) rfl ?_
        refine wpl_q (q_pure rfl) rfl ?_
        refine wpl_bool2 51 49 rfl rfl (fun hb51 => ?_) (fun hb51 => ?_)
        ·
         have hdd : ¬ (hs.getD i Hop.z).cnt = (hs2.getD i Hop.z).cnt := by simpa using hb51
         have hne : ¬ Pth.eqv ⟨pf, pa, pb, pl, hv, hs⟩ ⟨pf2, pa2, pb2, pl2, hv2, hs2⟩ := fun e => hdd (e.2.2 i hil).2.1
         refine wpl_off rfl rfl rfl rfl ?_
         refine wpl_off rfl rfl rfl rfl ?_
         refine wpl_off rfl rfl rfl rfl ?_
         refine wpl_off rfl rfl rfl rfl ?_
         refine wpl_off rfl rfl rfl rfl ?_
         refine wpl_q (q_pure rfl) rfl ?_
         refine wpl_q (q_pure rfl) rfl ?_
         refine wpl_off rfl rfl rfl rfl ?_
         refine wpl_off rfl rfl rfl rfl ?_
         refine wpl_off rfl rfl rfl rfl ?_
         refine wpl_off rfl rfl rfl rfl ?_
         refine wpl_off rfl rfl rfl rfl ?_
         refine wpl_q (q_pure rfl) rfl ?_
         refine wpl_q (q_pure rfl) rfl ?_
         refine wpl_off rfl rfl rfl rfl ?_
         refine wpl_off rfl rfl rfl rfl ?_
         refine wpl_off rfl rfl rfl rfl ?_
         refine wpl_off rfl rfl rfl rfl ?_
         refine wpl_off rfl rfl rfl rfl ?_
         refine wpl_q (q_pure rfl) rfl ?_
         refine wpl_q (q_pure rfl) rfl ?_
         refine wpl_off rfl rfl rfl rfl ?_
         refine wpl_off rfl rfl rfl rfl ?_
         refine wpl_off rfl rfl rfl rfl ?_
         refine wpl_off rfl rfl rfl rfl ?_
         refine wpl_off rfl rfl rfl rfl ?_
         refine wpl_off rfl rfl rfl rfl ?_
         refine wpl_q (q_pure rfl) rfl ?_
         refine wpl_nil ?_
         refine ex_then ?_
         refine wpc_cond_t rfl ?_
         refine wpc_seq ?_
         refine wpc_region ?_
         refine wpl_q (q_pure rfl) rfl ?_
         refine wpl_nil ?_
         refine ex_then ?_
         refine wpc_ret ?_
         refine ex_block_ret ?_
         refine ex_then_ret ?_
         refine ex_then_ret ?_
         refine ex_block_ret ?_
         refine ex_then_ret ?_
         refine ret1 (.inl rfl) rfl rfl ?_
         first | exact fun w h => ⟨by rw [decide_eq_false hne], h.below⟩ | exact fun w h => ⟨by rw [decide_eq_true hR], h.below⟩
        ·
         have hd51 : (hs.getD i Hop.z).cnt = (hs2.getD i Hop.z).cnt := by simpa using hb51
         refine wpl_on rfl rfl ?_
         refine wpl_q (q_field Tryd.underlying68 rfl Tryd.ti5 rfl rfl _ rfl) rfl ?_
         refine wpl_on rfl rfl ?_
         refine wpl_q (q_ld Tryd.underlying5 rfl rfl (Hop.c_fl _)) rfl ?_
         refine wpl_on rfl rfl ?_
         refine wpl_q (q_field Tryd.underlying68 rfl Tryd.ti5 rfl rfl _ rfl) rfl ?_
         refine wpl_on rfl rfl ?_
         refine wpl_q (q_ld Tryd.underlying5 rfl rfl (Hop.c_fl _)) rfl ?_
         refine wpl_on rfl rfl ?_
         refine wpl_q (q8_neq rfl rfl) rfl ?_
         refine wpl_q (q_pure rfl) rfl ?_
         refine wpl_q (q_pure rfl) rfl ?_
         refine wpl_bool2 58 56 rfl rfl (fun hb58 => ?_) (fun hb58 => ?_)
         ·
          have hdd : ¬ (hs.getD i Hop.z).fl = (hs2.getD i Hop.z).fl := by simpa using hb58
          have hne : ¬ Pth.eqv ⟨pf, pa, pb, pl, hv, hs⟩ ⟨pf2, pa2, pb2, pl2, hv2, hs2⟩ := fun e => hdd (e.2.2 i hil).2.2.1
          refine wpl_off rfl rfl rfl rfl ?_
          refine wpl_off rfl rfl rfl rfl ?_
          refine wpl_off rfl rfl rfl rfl ?_
          refine wpl_off rfl rfl rfl rfl ?_
          refine wpl_off rfl rfl rfl rfl ?_
          refine wpl_q (q_pure rfl) rfl ?_
          refine wpl_q (q_pure rfl) rfl ?_
          refine wpl_off rfl rfl rfl rfl ?_
          refine wpl_off rfl rfl rfl rfl ?_
          refine wpl_off rfl rfl rfl rfl ?_
          refine wpl_off rfl rfl rfl rfl ?_
          refine wpl_off rfl rfl rfl rfl ?_
          refine wpl_q (q_pure rfl) rfl ?_
          refine wpl_q (q_pure rfl) rfl ?_
          refine wpl_off rfl rfl rfl rfl ?_
          refine wpl_off rfl rfl rfl rfl ?_
          refine wpl_off rfl rfl rfl rfl ?_
          refine wpl_off rfl rfl rfl rfl ?_
          refine wpl_off rfl rfl rfl rfl ?_
          refine wpl_off rfl rfl rfl rfl ?_
          refine wpl_q (q_pure rfl) rfl ?_
          refine wpl_nil ?_
          refine ex_then ?_
          refine wpc_cond_t rfl ?_
          refine wpc_seq ?_
          refine wpc_region ?_
          refine wpl_q (q_pure rfl) rfl ?_
          refine wpl_nil ?_
          refine ex_then ?_
          refine wpc_ret ?_
          refine ex_block_ret ?_
          refine ex_then_ret ?_
          refine ex_then_ret ?_
          refine ex_block_ret ?_
          refine ex_then_ret ?_
          refine ret1 (.inl rfl) rfl rfl ?_
          first | exact fun w h => ⟨by rw [decide_eq_false hne], h.below⟩ | exact fun w h => ⟨by rw [decide_eq_true hR], h.below⟩
         ·
          have hd58 : (hs.getD i Hop.z).fl = (hs2.getD i Hop.z).fl := by simpa using hb58
          refine wpl_on rfl rfl ?_
          refine wpl_q (q_field Tryd.underlying68 rfl Tryd.ti49 rfl rfl _ rfl) rfl ?_
          refine wpl_on rfl rfl ?_
          refine wpl_q (q_ld Tryd.underlying49 rfl rfl (Hop.c_to _)) rfl ?_
          refine wpl_on rfl rfl ?_
          refine wpl_q (q_field Tryd.underlying68 rfl Tryd.ti49 rfl rfl _ rfl) rfl ?_
          refine wpl_on rfl rfl ?_
          refine wpl_q (q_ld Tryd.underlying49 rfl rfl (Hop.c_to _)) rfl ?_
          refine wpl_on rfl rfl ?_
          refine wpl_q (q32_neq rfl rfl) rfl ?_
          refine wpl_q (q_pure rfl) rfl ?_
          refine wpl_q (q_pure rfl) rfl ?_
          refine wpl_bool2 65 63 rfl rfl (fun hb65 => ?_) (fun hb65 => ?_)
          ·
           have hdd : ¬ (hs.getD i Hop.z).to = (hs2.getD i Hop.z).to := by simpa using hb65
           have hne : ¬ Pth.eqv ⟨pf, pa, pb, pl, hv, hs⟩ ⟨pf2, pa2, pb2, pl2, hv2, hs2⟩ := fun e => hdd (e.2.2 i hil).2.2.2.1
           refine wpl_off rfl rfl rfl rfl ?_
           refine wpl_off rfl rfl rfl rfl ?_
           refine wpl_off rfl rfl rfl rfl ?_
           refine wpl_off rfl rfl rfl rfl ?_
           refine wpl_off rfl rfl rfl rfl ?_
           refine wpl_q (q_pure rfl) rfl ?_
           refine wpl_q (q_pure rfl) rfl ?_
           refine wpl_off rfl rfl rfl rfl ?_
           refine wpl_off rfl rfl rfl rfl ?_
           refine wpl_off rfl rfl rfl rfl ?_
           refine wpl_off rfl rfl rfl rfl ?_
           refine wpl_off rfl rfl rfl rfl ?_
           refine wpl_off rfl rfl rfl rfl ?_
           refine wpl_q (q_pure rfl) rfl ?_
           refine wpl_nil ?_
           refine ex_then ?_
           refine wpc_cond_t rfl ?_
           refine wpc_seq ?_
           refine wpc_region ?_
           refine wpl_q (q_pure rfl) rfl ?_
           refine wpl_nil ?_
           refine ex_then ?_
           refine wpc_ret ?_
           refine ex_block_ret ?_
           refine ex_then_ret ?_
           refine ex_then_ret ?_
           refine ex_block_ret ?_
           refine ex_then_ret ?_
           refine ret1 (.inl rfl) rfl rfl ?_
           first | exact fun w h => ⟨by rw [decide_eq_false hne], h.below⟩ | exact fun w h => ⟨by rw [decide_eq_true hR], h.below⟩
          ·
           have hd65 : (hs.getD i Hop.z).to = (hs2.getD i Hop.z).to := by simpa using hb65
           refine wpl_on rfl rfl ?_
           refine wpl_q (q_field Tryd.underlying68 rfl Tryd.ti63 rfl rfl _ rfl) rfl ?_
           refine wpl_on rfl rfl ?_
           refine wpl_q (q_ldP Tryd.underlying63 rfl Tryd.ti63 rfl (hs.getD i Hop.z).key (Hop.c_key _) (Hop.key_length _)) rfl ?_
           refine wpl_on rfl rfl ?_
           refine wpl_q (q_field Tryd.underlying68 rfl Tryd.ti63 rfl rfl _ rfl) rfl ?_
           refine wpl_on rfl rfl ?_
           refine wpl_q (q_ldP Tryd.underlying63 rfl Tryd.ti63 rfl (hs2.getD i Hop.z).key (Hop.c_key _) (Hop.key_length _)) rfl ?_
           refine wpl_on rfl rfl ?_
           refine wpl_q (q_neK rfl rfl (hs.getD i Hop.z).root.2 (hs2.getD i Hop.z).root.2) rfl ?_
           refine wpl_q (q_pure rfl) rfl ?_
           refine wpl_q (q_pure rfl) rfl ?_
           refine wpl_bool2 72 70 rfl rfl (fun hb72 => ?_) (fun hb72 => ?_)
           ·
            have hdd : ¬ ((hs.getD i Hop.z).root.1 = (hs2.getD i Hop.z).root.1 ∧ (hs.getD i Hop.z).ht = (hs2.getD i Hop.z).ht) := by simpa only [Bool.not_eq_true', decide_eq_false_iff_not] using hb72
            have hne : ¬ Pth.eqv ⟨pf, pa, pb, pl, hv, hs⟩ ⟨pf2, pa2, pb2, pl2, hv2, hs2⟩ := fun e => hdd (e.2.2 i hil).2.2.2.2.1
            refine wpl_off rfl rfl rfl rfl ?_
            refine wpl_off rfl rfl rfl rfl ?_
            refine wpl_off rfl rfl rfl rfl ?_
            refine wpl_off rfl rfl rfl rfl ?_
            refine wpl_off rfl rfl rfl rfl ?_
            refine wpl_off rfl rfl rfl rfl ?_
            refine wpl_q (q_pure rfl) rfl ?_
            refine wpl_nil ?_
            refine ex_then ?_
            refine wpc_cond_t rfl ?_
            refine wpc_seq ?_
            refine wpc_region ?_
            refine wpl_q (q_pure rfl) rfl ?_
            refine wpl_nil ?_
            refine ex_then ?_
            refine wpc_ret ?_
            refine ex_block_ret ?_
            refine ex_then_ret ?_
            refine ex_then_ret ?_
            refine ex_block_ret ?_
            refine ex_then_ret ?_
            refine ret1 (.inl rfl) rfl rfl ?_
            first | exact fun w h => ⟨by rw [decide_eq_false hne], h.below⟩ | exact fun w h => ⟨by rw [decide_eq_true hR], h.below⟩
           ·
            have hd72 : (hs.getD i Hop.z).root.1 = (hs2.getD i Hop.z).root.1 ∧ (hs.getD i Hop.z).ht = (hs2.getD i Hop.z).ht := by simpa only [Bool.not_eq_false', decide_eq_true_eq] using hb72
            refine wpl_on rfl rfl ?_
            refine wpl_q (q_field Tryd.underlying68 rfl Tryd.ti66 rfl rfl _ rfl) rfl ?_
            refine wpl_on rfl rfl ?_
            refine wpl_q (q_ldP Tryd.underlying66 rfl Tryd.ti66 rfl (hs.getD i Hop.z).sig (Hop.c_sig _) rfl) rfl ?_
            refine wpl_on rfl rfl ?_
            refine wpl_q (q_field Tryd.underlying68 rfl Tryd.ti66 rfl rfl _ rfl) rfl ?_
            refine wpl_on rfl rfl ?_
            refine wpl_q (q_ldP Tryd.underlying66 rfl Tryd.ti66 rfl (hs2.getD i Hop.z).sig (Hop.c_sig _) rfl) rfl ?_
            refine wpl_on rfl rfl ?_
            refine wpl_t (t_pur Tryd.hb46 rfl fun w h => refSame7 _ _ _ _ _ _ _ _ _ _ w (hsi.old h).1 (hsi.old h).2.1 (hsi.old h).2.2.1 (hsi.old h).2.2.2 (hsi2.old h).1 (hsi2.old h).2.1 (hsi2.old h).2.2.1 (hsi2.old h).2.2.2) rfl (fun b77 => ?_)
            refine wpl_on rfl rfl ?_
            refine wpl_q (q_pure rfl) rfl ?_
            refine wpl_q (q_pure rfl) rfl ?_
            refine wpl_nil ?_
            refine ex_then ?_
            refine wpc_cond rfl (fun hc79 => ?_) (fun hc79 => ?_)
            ·
             have hdd : ¬ ((hs.getD i Hop.z).ix = (hs2.getD i Hop.z).ix ∧ (hs.getD i Hop.z).chs = (hs2.getD i Hop.z).chs ∧ (hs.getD i Hop.z).ps = (hs2.getD i Hop.z).ps) := by simpa only [Bool.not_eq_true', decide_eq_false_iff_not] using hc79
             have hne : ¬ Pth.eqv ⟨pf, pa, pb, pl, hv, hs⟩ ⟨pf2, pa2, pb2, pl2, hv2, hs2⟩ := fun e => hdd (e.2.2 i hil).2.2.2.2.2
             refine wpc_seq ?_
             refine wpc_region ?_
             refine wpl_q (q_pure rfl) rfl ?_
             refine wpl_nil ?_
             refine ex_then ?_
             refine wpc_ret ?_
             refine ex_block_ret ?_
             refine ex_then_ret ?_
             refine ex_then_ret ?_
             refine ex_block_ret ?_
             refine ex_then_ret ?_
             refine ret1 (.inl rfl) rfl rfl ?_
             first | exact fun w h => ⟨by rw [decide_eq_false hne], h.below⟩ | exact fun w h => ⟨by rw [decide_eq_true hR], h.below⟩
            ·
             have hd79 : (hs.getD i Hop.z).ix = (hs2.getD i Hop.z).ix ∧ (hs.getD i Hop.z).chs = (hs2.getD i Hop.z).chs ∧ (hs.getD i Hop.z).ps = (hs2.getD i Hop.z).ps := by simpa only [Bool.not_eq_false', decide_eq_true_eq] using hc79
             have hok : Hop.eqv (hs.getD i Hop.z) (hs2.getD i Hop.z) := ⟨hd44, hd51, hd58, hd65, hd72, hd79⟩
             refine wpc_skip ?_
             refine ex_block ?_
             refine ex_then ?_
             refine wpc_region ?_
             refine wpl_q (q_pure rfl) rfl ?_
             refine wpl_q (q_addN (b := 1) rfl rfl (by lin_)) rfl ?_
             refine wpl_q (q_pure rfl) rfl ?_
             refine wpl_nil ?_
             refine ex_again ⟨i + 1, ⟨by show i + 1 ≤ hs.length; omega, fun j hj => by rcases Nat.lt_or_ge j i with h | h; exact hi1 j h; obtain rfl : j = i := (by have hj : j < i + 1 := hj; omega); exact hok⟩⟩ ?_ ?_ ?_
             ·
              exact (by subs_)
             ·
              exact fun w h => h.sel
             ·
              (show hs.length - (i + 1) < hs.length - i); omega
     ·
      simp only [decide_eq_false_iff_not] at hc26
      obtain rfl : i = hs.length := by omega
      have hR : Pth.eqv ⟨pf, pa, pb, pl, hv, hs⟩ ⟨pf2, pa2, pb2, pl2, hv2, hs2⟩ := ⟨hpx, hl, hi1⟩
      refine wpc_exit ?_
      refine ex_then_exit ?_
      refine ex_then_exit ?_
      refine ex_block_hit ?_
      refine ex_then ?_
      refine wpc_seq ?_
      refine wpc_region ?_
      refine wpl_q (q_pure rfl) rfl ?_
      refine wpl_nil ?_
      refine ex_then ?_
      refine wpc_ret ?_
      refine ret1 (.inl rfl) rfl rfl ?_
      first | exact fun w h => ⟨by rw [decide_eq_false hne], h.below⟩ | exact fun w h => ⟨by rw [decide_eq_true hR], h.below⟩

end Go.Proofs.YtjpfhkjmjnjggaaDoor

namespace Go.Proofs.YtjpfhkjmjnjggaaDoor
set_option linter.unusedSimpArgs false
set_option linter.unusedVariables false
open Go Go.PL Go.RowKit

instance lenC_pthz : LenC Pth.z.c 5 := ⟨rfl⟩
def hopsF (qs : List Hop) : Fact := ⟨fun r => ∀ h ∈ qs, h.seen r, fun _ _ hr h q hq => (h q hq).mono hr⟩
theorem hopsF_at {w0 w : World} {Ln : List Nat} {M : List Ent} {S : List Fact} (h : Mem w0 Ln M S w) {qs : List Hop} (hs : hopsF qs ∈ S) : ∀ q ∈ qs, q.seen w.cell? := h.fact hs
/-- The copy of a hop with other handles. -/
def Hop.re (h : Hop) (x : Value × Value) : Hop := { h with cv := x.1, pv := x.2 }
theorem Hop.re_set (h : Hop) (x : Value × Value) : h.c.take 21 ++ [.int .i64 h.ix, x.1, x.2] ++ h.c.drop (21 + 3) = (h.re x).c := by
  have e : h.c = (.int .u32 (h.sy.toNat : Int) :: .int .u8 (h.cnt.toNat : Int) :: .int .u8 (h.fl.toNat : Int) :: .int .u32 (h.to.toNat : Int) :: (v8s h.root.1 ++ [.int .i64 h.ht])) ++ [.int .i64 h.ix, h.cv, h.pv] := by simp [Hop.c]
  have l : (.int .u32 (h.sy.toNat : Int) :: .int .u8 (h.cnt.toNat : Int) :: .int .u8 (h.fl.toNat : Int) :: .int .u32 (h.to.toNat : Int) :: (v8s h.root.1 ++ [Value.int .i64 h.ht])).length = 21 := by simp [v8s_length, h.root.2]
  rw [e, List.take_left' l, List.drop_of_length_le (by rw [List.length_append, l]; exact Nat.le_refl _)]
  simp [Hop.c, Hop.re]
theorem twin_fact {r : Rd} {qs : List Hop} {h : Hop} {x : Value × Value} (h1 : ∀ q ∈ qs, q.seen r) (h2 : Seen r x.1 h.chs.length 16 (v8s h.chs.flatten)) (h3 : Seen r x.2 h.ps.length 16 (v8s h.ps.flatten)) (ha : ∀ y ∈ h.chs, y.length = 16) (hb : ∀ y ∈ h.ps, y.length = 16) : ∀ q ∈ qs ++ [h.re x], q.seen r := fun q hq => by
  rcases List.mem_append.1 hq with hq | hq
  · exact h1 q hq
  · rw [List.mem_singleton] at hq; subst hq
    exact ⟨h2, ha, h3, hb⟩
theorem eqv_re (h : Hop) (x : Value × Value) : h.eqv (h.re x) := ⟨rfl, rfl, rfl, rfl, ⟨rfl, rfl⟩, rfl, rfl, rfl⟩
theorem getD_app {qs : List Hop} {a : Hop} {i : Nat} (h : qs.length = i) : (qs ++ [a]).getD i Hop.z = a := by
  rw [List.getD_eq_getElem?_getD, List.getElem?_append_right (by omega), h, Nat.sub_self]; rfl
theorem getD_left {qs : List Hop} {a : Hop} {i j : Nat} (h : qs.length = i) (hj : j < i) : (qs ++ [a]).getD j Hop.z = qs.getD j Hop.z := by
  rw [List.getD_eq_getElem?_getD, List.getD_eq_getElem?_getD, List.getElem?_append_left (by omega)]
theorem hcs_snoc (qs : List Hop) (a : Hop) : hcs qs ++ a.c = hcs (qs ++ [a]) := cat_snoc Hop.c qs a
theorem built_pre (f : UInt8) (a b : UInt64) (n : Int) : Tryd.prog.built 29 [(0, .agg (pfL f a b n).toArray)] = some #[.int .u8 (f.toNat : Int), .int .u64 (a.toNat : Int), .int .u64 (b.toNat : Int), .int .i64 n, .slice none 0 0] := by kernel_rfl

set_option maxRecDepth 100000 in
theorem refTwin42 (p : Pth) (w : World) (hp : p.seen w.cell?) (hlim : SmP p) (hn35 : p.hs.length ≤ 35) :
    Calls Tryd.prog 12 [.agg p.c.toArray].toArray w (GivesP w (fun x : Value × List Hop => SV x.1 p.hs.length ∧ HsEqv p.hs x.2) (fun x => .agg (Pth.mk p.pf p.pa p.pb p.pl x.1 x.2).c.toArray) (fun x => [.row x.1 p.hs.length 68 24 (hcs x.2)]) (fun x => [hopsF x.2])) := by
  obtain ⟨pf, pa, pb, pl, hv, hs⟩ := p
  have hh : Seen w.cell? hv hs.length 24 (hcs hs) := hp.1
  have hq : ∀ h ∈ hs, h.seen w.cell? := hp.2
  have svh := hh.sv
  have lh := svh.le
  simp only [maxLen] at lh
  have hn35 : hs.length ≤ 35 := hn35
  refine enter (m := 32) (R := Mem w [] [] []) Tryd.func12 rfl rfl (Nat.le_of_ble_eq_true rfl) (Mem.start w) ?_
  refine wpc_seq ?_
  refine wpc_region ?_
  refine wpl_t (t_box rfl [.int .u8 (pf.toNat : Int), .int .u64 (pa.toNat : Int), .int .u64 (pb.toNat : Int), .int .i64 pl, hv] rfl) rfl (fun b1 => ?_)
  refine wpl_t (t_alloc Tryd.ti29 Pth.z.c rfl) rfl (fun b2 => ?_)
  refine wpl_nil ?_
  refine ex_then ?_
  refine wpc_seq ?_
  refine wpc_region ?_
  refine wpl_q (q_field Tryd.underlying29 rfl Tryd.ti26 rfl rfl _ rfl) rfl ?_
  refine wpl_q (q_ldP Tryd.underlying26 rfl Tryd.ti26 rfl (pfL pf pa pb pl) rfl (by lens_)) rfl ?_
  refine wpl_q (q_build (cs := [.int .u8 (pf.toNat : Int), .int .u64 (pa.toNat : Int), .int .u64 (pb.toNat : Int), .int .i64 pl, .slice none 0 0]) rfl (built_pre pf pa pb pl)) rfl ?_
  refine wpl_t (t_alloc Tryd.ti29 Pth.z.c rfl) rfl (fun b3 => ?_)
  refine wpl_t0 (t_stA Tryd.ti29 rfl rfl LenC.h OneC.h LenC.h) (fun _ => ?_)
  refine wpl_nil ?_
  refine ex_then ?_
  refine wpc_seq ?_
  refine wpc_seq ?_
  refine wpc_region ?_
  refine wpl_q (q_pure rfl) rfl ?_
  refine wpl_nil ?_
  refine ex_then ?_
  refine wpc_block ?_
  refine wpc_loopc (ι := { x : Nat × Value × List Hop // (x.1 ≤ hs.length) ∧ (SV x.2.1 x.1) ∧ (x.2.2.length = x.1) ∧ (∀ j, j < x.1 → Hop.eqv (hs.getD j Hop.z) (x.2.2.getD j Hop.z)) }) [(1, _), (2, _), (3, _)] (fun x Lc => (4, .int .i64 ((x.1.1 : Nat) : Int)) :: Lc) (fun x => Mem w [] [.row x.1.2.1 x.1.1 68 24 (hcs x.1.2.2), .blk b3 29 [.int .u8 (pf.toNat : Int), .int .u64 (pa.toNat : Int), .int .u64 (pb.toNat : Int), .int .i64 pl, x.1.2.1], .blk b2 29 Pth.z.c, .blk b1 29 [.int .u8 (pf.toNat : Int), .int .u64 (pa.toNat : Int), .int .u64 (pb.toNat : Int), .int .i64 pl, hv]] [hopsF x.1.2.2]) (fun x => hs.length - x.1.1) ⟨(0, .slice none 0 0, []), ⟨Nat.zero_le _, SV.nil, rfl, fun j hj => by omega⟩⟩ (by subs_) ?_ ?_
  ·
   exact fun w h => Mem.imp (h.nilRow 68 24) (fun r _ t ht => by rw [List.mem_singleton] at ht; subst ht; exact fun q hq => by cases hq)
  ·
   rintro ⟨⟨i, v, qs⟩, ⟨hi0, hi1, hi2, hi3⟩⟩; try dsimp only
   have hi0 : i ≤ hs.length := hi0; have hi1 : SV v i := hi1; have hi2 : qs.length = i := hi2; have hi3 : ∀ j, j < i → Hop.eqv (hs.getD j Hop.z) (qs.getD j Hop.z) := hi3
   refine wpc_seq ?_
   refine wpc_seq ?_
   refine wpc_region ?_
   refine wpl_q (q_pure rfl) rfl ?_
   refine wpl_q (q_field Tryd.underlying29 rfl Tryd.ti27 rfl rfl _ rfl) rfl ?_
   refine wpl_q (q_ld Tryd.underlying27 rfl rfl rfl) rfl ?_
   refine wpl_q (q_lenW Tryd.underlying27 rfl (by svv_)) rfl ?_
   refine wpl_q (q_pure rfl) rfl ?_
   refine wpl_nil ?_
   refine ex_then ?_
   refine wpc_cond rfl (fun hc13 => ?_) (fun hc13 => ?_)
   ·
    simp only [decide_eq_true_eq] at hc13
    have hil : i < hs.length := by omega
    have hsi := hq _ (getD_memO hil)
    haveI := hsi.sv.one
    have hlm : (hs.getD i Hop.z).chs.length ≤ 100 ∧ (hs.getD i Hop.z).ps.length ≤ 100 := hlim _ (getD_memO hil)
    refine wpc_skip ?_
    refine ex_then ?_
    refine wpc_seq ?_
    refine wpc_block ?_
    refine wpc_seq ?_
    refine wpc_region ?_
    refine wpl_q (q_field Tryd.underlying29 rfl Tryd.ti27 rfl rfl _ rfl) rfl ?_
    refine wpl_q (q_ld Tryd.underlying27 rfl rfl rfl) rfl ?_
    refine wpl_q (q_pure rfl) rfl ?_
    refine wpl_q (q_idxW Tryd.underlying27 Tryd.ti68 rfl rfl (by svv_) (by lin_)) rfl ?_
    refine wpl_q (q_ldWN Tryd.underlying68 rfl Tryd.ti68 rfl (fun w h => h.seen_old hh) (hs.getD i Hop.z).c (cat_part Hop.c_length Hop.z hil) (Hop.c_length _)) rfl ?_
    refine wpl_t (t_alloc Tryd.ti68 Hop.z.c rfl) rfl (fun b5 => ?_)
    refine wpl_t0 (t_stA Tryd.ti68 rfl rfl LenC.h OneC.h LenC.h) (fun _ => ?_)
    refine wpl_nil ?_
    refine ex_then ?_
    refine wpc_seq ?_
    refine wpc_region ?_
    refine wpl_q (q_field Tryd.underlying68 rfl Tryd.ti66 rfl rfl _ rfl) rfl ?_
    refine wpl_q (q_ldP Tryd.underlying66 rfl Tryd.ti66 rfl (hs.getD i Hop.z).sig (Hop.c_sig _) rfl) rfl ?_
    refine wpl_tp (t_callP2 Tryd.hb37 rfl fun w h => refTwin7 (hs.getD i Hop.z).cv (hs.getD i Hop.z).pv (hs.getD i Hop.z).chs (hs.getD i Hop.z).ps (hs.getD i Hop.z).ix w (hsi.old h).1 (hsi.old h).2.1 (hsi.old h).2.2.1 (hsi.old h).2.2.2 (by omega) (by omega)) rfl (fun b23 p23 => ?_)
    haveI : OneC (((hs.getD i Hop.z).re b23)).c := Hop.sv.one ⟨p23.1, p23.2⟩
    refine wpl_q (q_field Tryd.underlying68 rfl Tryd.ti66 rfl rfl _ rfl) rfl ?_
    refine wpl_t0 (t_stP Tryd.ti66 rfl rfl (by lens_) (OneC.cons rfl (OneC.cons (SV.one p23.1) (OneC.cons (SV.one p23.2) oneC_nil))).h (by rw [Hop.c_length]; exact Nat.le_refl _) ((hs.getD i Hop.z).re b23).c (Hop.re_set _ _)) (fun _ => ?_)
    refine wpl_nil ?_
    refine ex_then ?_
    refine wpc_region ?_
    refine wpl_q (q_field Tryd.underlying29 rfl Tryd.ti27 rfl rfl _ rfl) rfl ?_
    refine wpl_q (q_ld Tryd.underlying27 rfl rfl rfl) rfl ?_
    refine wpl_q (q_ldN Tryd.underlying68 rfl Tryd.ti68 rfl LenC.h) rfl ?_
    refine wpl_tp (t_bsG [.agg ((hs.getD i Hop.z).re b23).c.toArray] ((hs.getD i Hop.z).re b23).c Tryd.underlying27 Tryd.ti68 rfl (by decide) rfl (by decide) (by decide) rfl (by intro v hv; rw [List.mem_singleton] at hv; subst hv; exact Hop.c_length _) (List.append_nil _)) rfl (fun b28 p28 => ?_)
    refine wpl_tp (t_apW Tryd.underlying27 Tryd.ti68 rfl (by decide) rfl rfl (fun w h => by seen_) OneC.h (by lin_) (by lin_) (hcs (qs ++ [((hs.getD i Hop.z).re b23)])) (hcs_snoc _ _)) rfl (fun b29 p29 => ?_)
    refine wpl_q (q_field Tryd.underlying29 rfl Tryd.ti27 rfl rfl _ rfl) rfl ?_
    refine wpl_t0 (t_st1 Tryd.ti27 rfl rfl (SV.one (by svv_)) (by len_) [.int .u8 (pf.toNat : Int), .int .u64 (pa.toNat : Int), .int .u64 (pb.toNat : Int), .int .i64 pl, b29] rfl) (fun _ => ?_)
    refine wpl_nil ?_
    refine ex_block ?_
    refine ex_then ?_
    refine wpc_region ?_
    refine wpl_q (q_pure rfl) rfl ?_
    refine wpl_q (q_addN (b := 1) rfl rfl (by lin_)) rfl ?_
    refine wpl_q (q_pure rfl) rfl ?_
    refine wpl_nil ?_
    refine ex_again ⟨(i + 1, b29, qs ++ [((hs.getD i Hop.z).re b23)]), ⟨by show i + 1 ≤ hs.length; omega, p29, by show (qs ++ [((hs.getD i Hop.z).re b23)]).length = i + 1; rw [List.length_append, hi2]; rfl, fun j hj => by
      dsimp only
      rcases Nat.lt_or_ge j i with h | h
      · rw [getD_left hi2 h]; exact hi3 j h
      · obtain rfl : j = i := (by have hj : j < i + 1 := hj; omega)
        rw [getD_app hi2]; exact eqv_re _ _⟩⟩ ?_ ?_ ?_
    ·
     exact (by subs_)
    ·
     exact fun w h => by
       have h1 := h.sel (M' := .row b23.1 (hs.getD i Hop.z).chs.length 61 16 (v8s (hs.getD i Hop.z).chs.flatten) :: .row b23.2 (hs.getD i Hop.z).ps.length 61 16 (v8s (hs.getD i Hop.z).ps.flatten) :: [.row b29 (i + 1) 68 24 (hcs (qs ++ [((hs.getD i Hop.z).re b23)])), .blk b3 29 [.int .u8 (pf.toNat : Int), .int .u64 (pa.toNat : Int), .int .u64 (pb.toNat : Int), .int .i64 pl, b29], .blk b2 29 Pth.z.c, .blk b1 29 [.int .u8 (pf.toNat : Int), .int .u64 (pa.toNat : Int), .int .u64 (pb.toNat : Int), .int .i64 pl, hv]])
       have h2 := (h1.freezeRow .here).freezeRow .here
       exact h2.imp fun r hr t ht => by
         rw [List.mem_singleton] at ht
         subst ht
         exact twin_fact (hr (hopsF qs) (by simp)) (hr (Go.PL.seen b23.1 (hs.getD i Hop.z).chs.length 16 (v8s (hs.getD i Hop.z).chs.flatten)) (by simp)) (hr (Go.PL.seen b23.2 (hs.getD i Hop.z).ps.length 16 (v8s (hs.getD i Hop.z).ps.flatten)) (by simp)) hsi.2.1 hsi.2.2.2
    ·
     (show hs.length - (i + 1) < hs.length - i); omega
   ·
    simp only [decide_eq_false_iff_not] at hc13
    obtain rfl : i = hs.length := by omega
    have svv := hi1
    haveI : OneC [.int .u8 (pf.toNat : Int), .int .u64 (pa.toNat : Int), .int .u64 (pb.toNat : Int), .int .i64 pl, v] := Pth.sv.one (p := ⟨pf, pa, pb, pl, v, hs⟩) svv
    refine wpc_exit ?_
    refine ex_then_exit ?_
    refine ex_then_exit ?_
    refine ex_block_hit ?_
    refine ex_then ?_
    refine wpc_seq ?_
    refine wpc_region ?_
    refine wpl_q (q_ldN Tryd.underlying29 rfl Tryd.ti29 rfl LenC.h) rfl ?_
    refine wpl_t0 (t_stA Tryd.ti29 rfl rfl LenC.h OneC.h LenC.h) (fun _ => ?_)
    refine wpl_nil ?_
    refine ex_then ?_
    refine wpc_ret ?_
    refine retv1 (.inl rfl) rfl (rv_agg Tryd.underlying29 rfl Tryd.ti29 rfl (fun w h => h.atB) (by lens_)) ?_
    exact fun w h => ⟨(v, qs), ⟨svv, hi2.symm, hi3⟩, rfl, h.below, h.made (by subT_) (by subT_)⟩

end Go.Proofs.YtjpfhkjmjnjggaaDoor

namespace Go.Proofs.YtjpfhkjmjnjggaaDoor
set_option linter.unusedSimpArgs false
set_option linter.unusedVariables false
open Go Go.PL Go.RowKit
theorem cl_nil {a : Option Addr} {cap : Nat} {sz : Nat} {n : Nat} {cs : List Value} {r : Rd} (h : Seen r (.slice a n cap) n sz cs) (hn : a.isNone = true) : n = 0 := by
  obtain ⟨a', cap', e, h1, h2, h3⟩ := h.sv
  simp only [Value.slice.injEq] at e
  obtain ⟨rfl, _, rfl⟩ := e
  have := h3 (by simpa using hn)
  omega

set_option maxRecDepth 100000 in
theorem cloneS0 (a : Option Addr) (cap : Nat) (l : List (List UInt8)) (w : World) (hav : Seen w.cell? (.slice a l.length cap) l.length 16 (v8s l.flatten)) (hll : ∀ x ∈ l, x.length = 16) (hl : l.length ≤ 1000) :
    Calls Tryd.prog 96 [.slice a l.length cap].toArray w (GivesP w (fun v => SV v l.length) (fun v => v) (fun v => [.row v l.length 61 16 (v8s l.flatten)]) (fun _ => [])) := by
  have sav := hav.sv
  refine enter (m := 8) (R := Mem w [] [] []) Tryd.func96 rfl rfl (Nat.le_of_ble_eq_true rfl) (Mem.start w) ?_
  refine wpc_seq ?_
  refine wpc_region ?_
  refine wpl_q (q_pure rfl) rfl ?_
  refine wpl_nil ?_
  refine ex_then ?_
  refine wpc_seq ?_
  refine wpc_seq ?_
  refine wpc_region ?_
  refine wpl_q (q_pure rfl) rfl ?_
  refine wpl_q (q_slNil Tryd.underlying64 rfl rfl (by kernel_rfl)) rfl ?_
  refine wpl_nil ?_
  refine ex_then ?_
  refine wpc_cond rfl (fun hc4 => ?_) (fun hc4 => ?_)
  ·
   have h0 := cl_nil hav hc4
   have hx0 := List.eq_nil_of_length_eq_zero h0
   subst hx0
   refine wpc_seq ?_
   refine wpc_region ?_
   refine wpl_q (q_pure rfl) rfl ?_
   refine wpl_nil ?_
   refine ex_then ?_
   refine wpc_ret ?_
   refine ex_then_ret ?_
   refine ret1 (.inl rfl) rfl rfl ?_
   exact fun w h => ⟨.slice none 0 0, SV.nil, rfl, h.below, (h.nilRow 61 16).made (by subT_) .nil⟩
  ·
   refine wpc_skip ?_
   refine ex_then ?_
   refine wpc_seq ?_
   refine wpc_region ?_
   refine wpl_tp (t_bs0W Tryd.underlying64 Tryd.ti61) rfl (fun b5 p5 => ?_)
   refine wpl_q (q_pure rfl) rfl ?_
   refine wpl_tp (t_ap0 Tryd.underlying64 Tryd.ti61 rfl (by decide) rfl rfl (fun w h => h.seen_old hav) (v8s_one _) (by lin_) (by lin_)) rfl (fun b7 p7 => ?_)
   refine wpl_q (q_pure rfl) rfl ?_
   refine wpl_nil ?_
   refine ex_then ?_
   refine wpc_ret ?_
   refine ret1 (.inl rfl) rfl rfl ?_
   exact fun w h => ⟨b7, p7, rfl, h.below, h.made SubC.h .nil⟩


theorem cloneS (v : Value) (l : List (List UInt8)) (w : World) (h : Seen w.cell? v l.length 16 (v8s l.flatten)) (hll : ∀ x ∈ l, x.length = 16) (hl : l.length ≤ 1000) : Calls Tryd.prog 96 [v].toArray w (GivesP w (fun v => SV v l.length) (fun v => v) (fun v => [.row v l.length 61 16 (v8s l.flatten)]) (fun _ => [])) := by
  obtain ⟨a, cap, rfl, _⟩ := h.sv
  exact cloneS0 a cap l w h hll hl
def Hop.wc (h : Hop) (v : Value) : Hop := { h with cv := v }
def Hop.wp (h : Hop) (v : Value) : Hop := { h with pv := v }
theorem Hop.c_split (h : Hop) : h.c = (.int .u32 (h.sy.toNat : Int) :: .int .u8 (h.cnt.toNat : Int) :: .int .u8 (h.fl.toNat : Int) :: .int .u32 (h.to.toNat : Int) :: (v8s h.root.1 ++ [.int .i64 h.ht])) ++ [.int .i64 h.ix, h.cv, h.pv] := by simp [Hop.c]
theorem Hop.c_pre (h : Hop) : (.int .u32 (h.sy.toNat : Int) :: .int .u8 (h.cnt.toNat : Int) :: .int .u8 (h.fl.toNat : Int) :: .int .u32 (h.to.toNat : Int) :: (v8s h.root.1 ++ [Value.int .i64 h.ht])).length = 21 := by simp [v8s_length, h.root.2]
theorem Hop.c_set22 (h : Hop) (v : Value) : h.c.set 22 v = (h.wc v).c := by
  rw [h.c_split, List.set_append_right _ _ (by rw [h.c_pre]; decide), h.c_pre, (h.wc v).c_split]; rfl
theorem Hop.c_set23 (h : Hop) (v : Value) : h.c.set 23 v = (h.wp v).c := by
  rw [h.c_split, List.set_append_right _ _ (by rw [h.c_pre]; decide), h.c_pre, (h.wp v).c_split]; rfl
set_option maxRecDepth 100000 in
theorem twin (hp : Hop) (w : World) (hs : hp.seen w.cell?) (hlc : hp.chs.length ≤ 1000) (hlp : hp.ps.length ≤ 1000) :
    Calls Tryd.prog 79 [.agg hp.c.toArray].toArray w (GivesP w (fun x : Value × Value => SV x.1 hp.chs.length ∧ SV x.2 hp.ps.length) (fun x => .agg (hp.re x).c.toArray) (fun x => [.row x.1 hp.chs.length 61 16 (v8s hp.chs.flatten), .row x.2 hp.ps.length 61 16 (v8s hp.ps.flatten)]) (fun _ => [])) := by
  haveI := hs.sv.one
  refine enter (m := 16) (R := Mem w [] [] []) Tryd.func79 rfl rfl (Nat.le_of_ble_eq_true rfl) (Mem.start w) ?_
  refine wpc_seq ?_
  refine wpc_region ?_
  refine wpl_t (t_box rfl hp.c rfl) rfl (fun b1 => ?_)
  refine wpl_t (t_alloc Tryd.ti68 Hop.z.c rfl) rfl (fun b2 => ?_)
  refine wpl_nil ?_
  refine ex_then ?_
  refine wpc_seq ?_
  refine wpc_draw 10 (by kernel_rfl) (fun _ h => h.drew) ?_
  refine wpd_p 0 rfl (by kernel_rfl) trivial (q_field Tryd.underlying68 rfl Tryd.ti66 rfl rfl _ rfl) rfl sk0 ?_
  refine wpd_p 1 rfl (by kernel_rfl) trivial (q_field Tryd.underlying66 rfl Tryd.ti64 rfl rfl _ rfl) rfl sk0 ?_
  refine wpd_q 2 rfl (by kernel_rfl) trivial (q_ld Tryd.underlying64 rfl rfl hp.c_cv) rfl (fun _ h => h) ?_
  refine wpd_p 4 rfl (by kernel_rfl) trivial (q_field Tryd.underlying68 rfl Tryd.ti66 rfl rfl _ rfl) rfl sk0 ?_
  refine wpd_p 5 rfl (by kernel_rfl) trivial (q_field Tryd.underlying66 rfl Tryd.ti64 rfl rfl _ rfl) rfl sk0 ?_
  refine wpd_q 6 rfl (by kernel_rfl) trivial (q_ld Tryd.underlying64 rfl rfl hp.c_pv) rfl (fun _ h => h) ?_
  refine wpd_tp 3 rfl (by kernel_rfl) trivial (t_callP1 Tryd.hb96 rfl fun w h => cloneS hp.cv hp.chs w (hs.old h).1 hs.2.1 (by omega)) rfl (fun _ => (fun w h => .inr (h.sub SubC.h SubC.h))) (fun b6 p6 => ?_)
  refine wpd_p 8 rfl (by kernel_rfl) trivial (q_field Tryd.underlying68 rfl Tryd.ti66 rfl rfl _ rfl) rfl (fun w h => .inr (h.sub SubC.h SubC.h)) ?_
  refine wpd_p 9 rfl (by kernel_rfl) trivial (q_field Tryd.underlying66 rfl Tryd.ti64 rfl rfl _ rfl) rfl (fun w h => .inr (h.sub SubC.h SubC.h)) ?_
  refine wpd_tp 7 rfl (by kernel_rfl) trivial (t_callP1 Tryd.hb96 rfl fun w h => cloneS hp.pv hp.ps w (hs.old h).2.2.1 hs.2.2.2 (by omega)) rfl (fun _ => (fun w h => .inr (h.sub SubC.h SubC.h))) (fun b10 p10 => ?_)
  refine wpd_t0 10 rfl (by kernel_rfl) trivial (t_st1 Tryd.ti64 rfl rfl (SV.one p6) (by rw [Hop.c_length]; decide) _ (Hop.c_set22 _ _)) (fun _ => skk rfl) (fun _ => ?_)
  refine wpd_p 11 rfl (by kernel_rfl) trivial (q_field Tryd.underlying68 rfl Tryd.ti66 rfl rfl _ rfl) rfl (skk rfl) ?_
  refine wpd_p 12 rfl (by kernel_rfl) trivial (q_field Tryd.underlying66 rfl Tryd.ti64 rfl rfl _ rfl) rfl (skk rfl) ?_
  refine wpd_t0 13 rfl (by kernel_rfl) trivial (t_st1 Tryd.ti64 rfl rfl (SV.one p10) (by rw [Hop.c_length]; decide) _ (Hop.c_set23 _ _)) (fun _ => skk rfl) (fun _ => ?_)
  refine wpd_done (by kernel_rfl) ?_
  refine ex_then ?_
  refine wpc_seq ?_
  haveI : OneC ((hp.wc b6).wp b10).c := Hop.sv.one ⟨p6, p10⟩
  haveI : OneC ((hp.wp b10).wc b6).c := Hop.sv.one ⟨p6, p10⟩
  refine wpc_region ?_
  refine wpl_q (q_ldN Tryd.underlying68 rfl Tryd.ti68 rfl LenC.h) rfl ?_
  refine wpl_t0 (t_stA Tryd.ti68 rfl rfl LenC.h OneC.h LenC.h) (fun _ => ?_)
  refine wpl_nil ?_
  refine ex_then ?_
  refine wpc_ret ?_
  refine retv1 (.inl rfl) rfl (rv_agg Tryd.underlying68 rfl Tryd.ti68 rfl (fun w h => h.atB) (Hop.c_length _)) ?_
  exact fun w1 h => ⟨(b6, b10), ⟨p6, p10⟩, rfl, h.below, (h.sel : Mem w [] [.row b6 hp.chs.length 61 16 (v8s hp.chs.flatten), .row b10 hp.ps.length 61 16 (v8s hp.ps.flatten)] [] w1).made (Sub.refl _) .nil⟩


theorem headB_eqv {a b : Hop} (h : a.eqv b) : headB a = headB b := by
  obtain ⟨h1, h2, h3, h4, ⟨h5, h6⟩, _⟩ := h
  unfold headB
  rw [h1, h2, h3, h4, h5, h6]
theorem tailH_eqv {a b : Hop} (h : a.eqv b) : tailH a = tailH b := by
  obtain ⟨_, _, _, _, _, h7, h8, h9⟩ := h
  unfold tailH
  rw [h7, h8, h9]
theorem restF_eqv {p q : Pth} (h : p.eqv q) : ∀ i, i ≤ p.hs.length → restF p i = restF q i
  | 0, _ => by
    obtain ⟨⟨h1, h2, h3, h4⟩, _⟩ := h
    show rest0 p = rest0 q
    unfold rest0
    rw [h1, h2, h3, h4]
  | i + 1, hi => by
    have e := h.2.2 i (by omega)
    show sumF ((headB (p.hs.getD i Hop.z) ++ restF p i) ++ tailH (p.hs.getD i Hop.z)) = sumF ((headB (q.hs.getD i Hop.z) ++ restF q i) ++ tailH (q.hs.getD i Hop.z))
    rw [headB_eqv e, tailH_eqv e, restF_eqv h i (by omega)]
theorem msgB_eqv {p q : Pth} (h : p.eqv q) {i : Nat} (hi : i < p.hs.length) : msgB p i = msgB q i := by
  unfold msgB
  rw [headB_eqv (h.2.2 i hi), restF_eqv h i (by omega)]

end Go.Proofs.YtjpfhkjmjnjggaaDoor

namespace Go.Proofs.YtjpfhkjmjnjggaaDoor
set_option linter.unusedSimpArgs false
set_option linter.unusedVariables false
open Go Go.PL Go.RowKit

theorem t_stWFN {P : Program} {Q : Exit → Act → World → Prop} {n : Cx} {L : Slots} {w0 : World} {Ln : List Nat} {M : List Ent} {S : List Fact} {t : TypeId} {x y : Operand} {v u : Value} {m j k : Nat} {e : TypeId} {s' : Nat} {xs vs : List Value} {f : Ent → List Ent} {z : Value} {sz by_ : Nat} (ht : TyI P t z sz by_)
    (hx : ev L x = some (.pointer (some (((sa v).add j).add k)))) (hy : ev L y = some u) [hr : ReplV M v m e s' xs f] (hu : u.cells.toList = vs) (hl : vs.length = sz) (h1 : ∀ u ∈ vs, u.oneCell' = true) (hin : j + k + vs.length ≤ xs.length) (hpos : 0 < xs.length) (ys : List Value)
    (hys : xs.take (j + k) ++ vs ++ xs.drop (j + k + vs.length) = ys) :
    TOp P Q n (Mem w0 Ln M S) L (.store t x y) Unit (fun _ => undef) (fun _ => Mem w0 Ln (f (.row v m e s' ys)) S) := by
  rw [addr_add_add] at hx
  exact t_stWN ht hx hy hu hl h1 hin hpos ys hys
theorem keyR_l (s : S16) (ht : Int) : (keyR s.1 ht).length = 16 := keyR_length _ _
/-- The hop that is signed, without its signature. -/
def newH (h : Hop) (s : S16) (ht : Int) : Hop := ⟨h.sy, h.cnt, h.fl, h.to, ⟨keyR s.1 ht, keyR_l s ht⟩, keyH ht, 0, .slice none 0 0, [], .slice none 0 0, []⟩
def newO (p : Pth) (h : Hop) (s : S16) (ht : Int) : Pth := ⟨p.pf, p.pa, p.pb, p.pl, .slice none 0 0, p.hs ++ [newH h s ht]⟩
/-- What is signed. -/
def sgM (p : Pth) (h : Hop) (s : S16) (ht : Int) : List UInt8 := msgB (newO p h s ht) p.hs.length
def newS (p : Pth) (h : Hop) (s : S16) (ht idx : Int) (x : Value × Value) : Hop := ⟨h.sy, h.cnt, h.fl, h.to, ⟨keyR s.1 ht, keyR_l s ht⟩, keyH ht, sigI ht idx, x.1, sigC s.1 ht idx (sgM p h s ht), x.2, sigP s.1 ht idx⟩
def nl2 : Value × Value := (.slice none 0 0, .slice none 0 0)
def sgE (h : Hop) (ht idx : Int) : Int := if 1 < h.fl.toNat then 2 else if keyE ht ≠ 0 then keyE ht else sigE ht idx
def sgP (p : Pth) (h : Hop) (s : S16) (ht idx : Int) : Pth := if sgE h ht idx = 0 then ⟨p.pf, p.pa, p.pb, p.pl, .slice none 0 0, p.hs ++ [newS p h s ht idx nl2]⟩ else Pth.z
theorem sgE_fl {h : Hop} {ht idx : Int} (h1 : 1 < h.fl.toNat) : sgE h ht idx = 2 := if_pos h1
theorem sgE_key {h : Hop} {ht idx : Int} (h1 : ¬ 1 < h.fl.toNat) (h2 : keyE ht ≠ 0) : sgE h ht idx = keyE ht := (if_neg h1).trans (if_pos h2)
theorem sgE_sig {h : Hop} {ht idx : Int} (h1 : ¬ 1 < h.fl.toNat) (h2 : ¬ keyE ht ≠ 0) : sgE h ht idx = sigE ht idx := (if_neg h1).trans (if_neg h2)
theorem sgP_no {p : Pth} {h : Hop} {s : S16} {ht idx : Int} (h1 : sgE h ht idx ≠ 0) : sgP p h s ht idx = Pth.z := if_neg h1
theorem sgP_ok {p : Pth} {h : Hop} {s : S16} {ht idx : Int} (h1 : sgE h ht idx = 0) : sgP p h s ht idx = ⟨p.pf, p.pa, p.pb, p.pl, .slice none 0 0, p.hs ++ [newS p h s ht idx nl2]⟩ := if_pos h1
theorem newO_eqv {p : Pth} {h : Hop} {s : S16} {ht : Int} {qs : List Hop} {v : Value} (hl : qs.length = p.hs.length) (hq : ∀ j, j < p.hs.length → Hop.eqv (p.hs.getD j Hop.z) (qs.getD j Hop.z)) : (newO p h s ht).eqv ⟨p.pf, p.pa, p.pb, p.pl, v, qs ++ [newH h s ht]⟩ := by
  refine ⟨⟨rfl, rfl, rfl, rfl⟩, by show (p.hs ++ [newH h s ht]).length = (qs ++ [newH h s ht]).length; rw [List.length_append, List.length_append, hl], fun i hi => ?_⟩
  show Hop.eqv ((p.hs ++ [newH h s ht]).getD i Hop.z) ((qs ++ [newH h s ht]).getD i Hop.z)
  have hi : i < (p.hs ++ [newH h s ht]).length := hi
  rw [List.length_append, List.length_singleton] at hi
  rcases Nat.lt_or_ge i p.hs.length with h1 | h1
  · rw [getD_left rfl h1, getD_left hl h1]; exact hq i h1
  · obtain rfl : i = p.hs.length := by omega
    rw [getD_app rfl, getD_app hl]; exact ⟨rfl, rfl, rfl, rfl, ⟨rfl, rfl⟩, rfl, rfl, rfl⟩
theorem newS_eqv {p : Pth} {h : Hop} {s : S16} {ht idx : Int} {qs : List Hop} {x : Value × Value} (hl : qs.length = p.hs.length) (hq : ∀ j, j < p.hs.length → Hop.eqv (p.hs.getD j Hop.z) (qs.getD j Hop.z)) : HsEqv (p.hs ++ [newS p h s ht idx nl2]) (qs ++ [newS p h s ht idx x]) := by
  refine ⟨by rw [List.length_append, List.length_append, hl]; rfl, fun i hi => ?_⟩
  rw [List.length_append, List.length_singleton] at hi
  rcases Nat.lt_or_ge i p.hs.length with h1 | h1
  · rw [getD_left rfl h1, getD_left hl h1]; exact hq i h1
  · obtain rfl : i = p.hs.length := by omega
    rw [getD_app rfl, getD_app hl]; exact ⟨rfl, rfl, rfl, rfl, ⟨rfl, rfl⟩, rfl, rfl, rfl⟩
theorem Hop.c_setkey (h : Hop) (r : S16) (t : Int) : h.c.take 4 ++ (v8s r.1 ++ [.int .i64 t]) ++ h.c.drop (4 + 17) = (Hop.mk h.sy h.cnt h.fl h.to r t h.ix h.cv h.chs h.pv h.ps).c := by
  have e : h.c.drop (4 + 17) = [.int .i64 h.ix, h.cv, h.pv] := by rw [h.c_split, show 4 + 17 = 21 from rfl, List.drop_left' h.c_pre]
  rw [e]
  simp [Hop.c]
theorem Hop.c_setsig (h : Hop) (i : Int) (a b : Value) (l m : List (List UInt8)) : h.c.take 21 ++ [.int .i64 i, a, b] ++ h.c.drop (21 + 3) = (Hop.mk h.sy h.cnt h.fl h.to h.root h.ht i a l b m).c := by
  rw [h.c_split, List.take_left' h.c_pre, List.drop_of_length_le (by rw [List.length_append, h.c_pre]; exact Nat.le_refl _)]
  simp [Hop.c]
theorem hcs_setsig {qs : List Hop} {a : Hop} {n : Nat} (hn : qs.length = n) (i : Int) (u v : Value) (l m : List (List UInt8)) : (hcs (qs ++ [a])).take (n * 24 + 21) ++ [.int .i64 i, u, v] ++ (hcs (qs ++ [a])).drop (n * 24 + 21 + [Value.int .i64 i, u, v].length) = hcs (qs ++ [Hop.mk a.sy a.cnt a.fl a.to a.root a.ht i u l v m]) := by
  have hq : (hcs qs).length = n * 24 := by rw [hcs, cat_len Hop.c_length, hn]
  rw [← hcs_snoc, ← hcs_snoc, ← Hop.c_setsig a i u v l m, ← hq, List.take_append, List.drop_append]
  simp only [List.length_cons, List.length_nil]
  rw [List.take_of_length_le (by omega), List.drop_of_length_le (by omega), List.append_assoc, List.append_assoc, List.append_assoc, List.nil_append, show (hcs qs).length + 21 - (hcs qs).length = 21 by omega, show (hcs qs).length + 21 + (0 + 1 + 1 + 1) - (hcs qs).length = 21 + 3 by omega]

end Go.Proofs.YtjpfhkjmjnjggaaDoor

namespace Go.Proofs.YtjpfhkjmjnjggaaDoor
set_option linter.unusedSimpArgs false
set_option linter.unusedVariables false
open Go Go.PL Go.RowKit

theorem built_pz : Tryd.prog.built 29 [] = some Pth.z.c.toArray := by kernel_rfl
theorem built_sz : Tryd.prog.built 66 [] = some #[.int .i64 0, .slice none 0 0, .slice none 0 0] := by kernel_rfl
theorem key_rl (s : S16) (ht : Int) : (v8s (keyR s.1 ht) ++ [Value.int .i64 (keyH ht)]).length = 17 := by rw [List.length_append, v8s_length, keyR_l]; rfl
theorem key_ro (s : S16) (ht : Int) : ∀ u ∈ v8s (keyR s.1 ht) ++ [Value.int .i64 (keyH ht)], u.oneCell' = true := fun u hu => by
  rcases List.mem_append.1 hu with hu | hu
  · exact v8s_one _ u hu
  · rw [List.mem_singleton] at hu; subst hu; rfl
instance lenC_keyR {s : S16} {ht : Int} : LenC (v8s (keyR s.1 ht) ++ [Value.int .i64 (keyH ht)]) 17 := ⟨key_rl s ht⟩
theorem Hop.setkey {h : Hop} {s : S16} {ht : Int} : h.c.take 4 ++ (v8s (keyR s.1 ht) ++ [Value.int .i64 (keyH ht)]) ++ h.c.drop (4 + (v8s (keyR s.1 ht) ++ [Value.int .i64 (keyH ht)]).length) = (Hop.mk h.sy h.cnt h.fl h.to ⟨keyR s.1 ht, keyR_l s ht⟩ (keyH ht) h.ix h.cv h.chs h.pv h.ps).c := by
  rw [key_rl]; exact h.c_setkey ⟨keyR s.1 ht, keyR_l s ht⟩ (keyH ht)
instance lenC_s16 {s : S16} : LenC (v8s s.1) 16 := ⟨S16.len s⟩
theorem newH_sv (h : Hop) (s : S16) (ht : Int) : (newH h s ht).sv := ⟨SV.nil, SV.nil⟩
instance oneC_newH {h : Hop} {s : S16} {ht : Int} : OneC (newH h s ht).c := (newH_sv h s ht).one
theorem newH_seen (r : Rd) (h : Hop) (s : S16) (ht : Int) : (newH h s ht).seen r := ⟨seen_nil _ _, fun x hx => (by cases hx), seen_nil _ _, fun x hx => (by cases hx)⟩
def reP (q : Pth) (x : Value × List Hop) : Pth := ⟨q.pf, q.pa, q.pb, q.pl, x.1, x.2⟩
theorem so_seen {r : Rd} {f : UInt8} {a b : UInt64} {l : Int} {v : Value} {qs : List Hop} {n : Nat} {h : Hop} {s : S16} {ht : Int} (hl : qs.length = n) (h1 : Seen r v (n + 1) 24 (hcs (qs ++ [newH h s ht]))) (h2 : ∀ q ∈ qs, q.seen r) : (Pth.mk f a b l v (qs ++ [newH h s ht])).seen r := by
  refine ⟨?_, fun q hq => ?_⟩
  · show Seen r v (qs ++ [newH h s ht]).length 24 (hcs (qs ++ [newH h s ht]))
    rw [List.length_append, hl]; exact h1
  · rcases List.mem_append.1 hq with hq | hq
    · exact h2 q hq
    · rw [List.mem_singleton] at hq; subst hq; exact newH_seen _ _ _ _
theorem so_small {f : UInt8} {a b : UInt64} {l : Int} {v : Value} {hs qs : List Hop} {h : Hop} {s : S16} {ht : Int} (hl : qs.length = hs.length) (hq : ∀ j, j < hs.length → Hop.eqv (hs.getD j Hop.z) (qs.getD j Hop.z)) (hm : ∀ x ∈ hs, x.chs.length ≤ 100 ∧ x.ps.length ≤ 100) : SmP (Pth.mk f a b l v (qs ++ [newH h s ht])) := fun x hx => by
  rcases List.mem_append.1 hx with hx | hx
  · obtain ⟨i, hi, rfl⟩ := List.mem_iff_getElem.1 hx
    have e := hq i (by omega)
    rw [List.getD_eq_getElem?_getD (l := qs), List.getElem?_eq_getElem hi] at e
    have m := hm _ (getD_memO (show i < hs.length by omega))
    obtain ⟨_, _, _, _, _, _, e8, e9⟩ := e
    rw [e8, e9] at m
    exact m
  · rw [List.mem_singleton] at hx; subst hx; exact ⟨Nat.zero_le _, Nat.zero_le _⟩
theorem sg_made {w0 w : World} {M : List Ent} {p : Pth} {h : Hop} {s : S16} {ht idx : Int} {x : Value × Value} {v : Value} {qs : List Hop} {n : Nat} (hn : n = p.hs.length) (hok : sgE h ht idx = 0) (hm : Mem w0 [] (.row x.1 (sigC s.1 ht idx (sgM p h s ht)).length 61 16 (v8s (sigC s.1 ht idx (sgM p h s ht)).flatten) :: .row x.2 (sigP s.1 ht idx).length 61 16 (v8s (sigP s.1 ht idx).flatten) :: .row v (n + 1) 68 24 (hcs (qs ++ [newS p h s ht idx x])) :: M) [hopsF qs] w) : New w0.heap.size [.row v (sgP p h s ht idx).hs.length 68 24 (hcs (qs ++ [newS p h s ht idx x]))] [hopsF (qs ++ [newS p h s ht idx x])] w := by
  rw [sgP_ok hok]
  show New w0.heap.size [.row v (p.hs ++ [newS p h s ht idx nl2]).length 68 24 _] _ w
  rw [List.length_append, ← hn]
  have h2 := (hm.freezeRow .here).freezeRow .here
  have h3 : Mem w0 [] (.row v (n + 1) 68 24 (hcs (qs ++ [newS p h s ht idx x])) :: M) [hopsF (qs ++ [newS p h s ht idx x])] w := h2.imp fun r hr t htm => by
    rw [List.mem_singleton] at htm
    subst htm
    intro q hq
    rcases List.mem_append.1 hq with hq | hq
    · exact hr (hopsF qs) (by simp) q hq
    · rw [List.mem_singleton] at hq; subst hq
      exact ⟨hr (Go.PL.seen x.1 (sigC s.1 ht idx (sgM p h s ht)).length 16 (v8s (sigC s.1 ht idx (sgM p h s ht)).flatten)) (by simp), sigC_all _ _ _ _, hr (Go.PL.seen x.2 (sigP s.1 ht idx).length 16 (v8s (sigP s.1 ht idx).flatten)) (by simp), sigP_all _ _ _⟩
  exact h3.made (.keep .nil) (Sub.refl _)
theorem sg_err {w0 w : World} {M : List Ent} {S : List Fact} {p : Pth} {h : Hop} {s : S16} {ht idx : Int} (hm : Mem w0 [] M S w) (he : sgE h ht idx ≠ 0) : New w0.heap.size [.row (.slice none 0 0) (sgP p h s ht idx).hs.length 68 24 (hcs [])] [hopsF []] w := by
  rw [sgP_no he]
  have h1 : Mem w0 [] (.row (.slice none 0 0) 0 68 24 [] :: M) [hopsF []] w := Mem.imp (hm.nilRow 68 24) (fun r _ t ht => by rw [List.mem_singleton] at ht; subst ht; exact fun q hq => by cases hq)
  exact h1.made (.keep .nil) (Sub.refl _)

end Go.Proofs.YtjpfhkjmjnjggaaDoor

namespace Go.Proofs.YtjpfhkjmjnjggaaDoor
set_option linter.unusedSimpArgs false
set_option linter.unusedVariables false
open Go Go.PL Go.RowKit
set_option maxRecDepth 100000 in
theorem signP (p : Pth) (hp : Hop) (s : S16) (ht : Int) (idx : Int) (w : World) (hpp : p.seen w.cell?) (hsvh : hp.sv) (hlim : SmP p) (hG : Glb w) (hn35 : p.hs.length ≤ 35) :
    Calls Tryd.prog 52 [.agg p.c.toArray, .agg hp.c.toArray, .agg (v8s s.1).toArray, .int .i64 ht, .int .i64 idx].toArray w (GivesP w (fun x : Value × List Hop => SV x.1 (sgP p hp s ht idx).hs.length ∧ HsEqv (sgP p hp s ht idx).hs x.2) (fun x => .tuple #[.agg (reP (sgP p hp s ht idx) x).c.toArray, .int .i64 (sgE hp ht idx)]) (fun x => [.row x.1 (sgP p hp s ht idx).hs.length 68 24 (hcs x.2)]) (fun x => [hopsF x.2])) := by
  obtain ⟨pf, pa, pb, pl, hv, hs⟩ := p
  have hh : Seen w.cell? hv hs.length 24 (hcs hs) := hpp.1
  have svh := hh.sv
  have lh := svh.le
  simp only [maxLen] at lh
  have hn35 : hs.length ≤ 35 := hn35
  haveI := hsvh.one
  refine enter (m := 86) (R := Mem w [] [] []) Tryd.func52 rfl rfl (Nat.le_of_ble_eq_true rfl) (Mem.start w) ?_
  refine wpc_seq ?_
  refine wpc_region ?_
  refine wpl_t (t_box rfl [.int .u8 (pf.toNat : Int), .int .u64 (pa.toNat : Int), .int .u64 (pb.toNat : Int), .int .i64 pl, hv] rfl) rfl (fun b5 => ?_)
  refine wpl_t (t_box rfl hp.c rfl) rfl (fun b6 => ?_)
  refine wpl_t (t_box rfl (v8s s.1) rfl) rfl (fun b7 => ?_)
  refine wpl_t (t_alloc Tryd.ti29 Pth.z.c rfl) rfl (fun b10 => ?_)
  refine wpl_q (q_pure rfl) rfl ?_
  refine wpl_nil ?_
  refine ex_then ?_
  refine wpc_seq ?_
  refine wpc_seq ?_
  refine wpc_region ?_
  refine wpl_q (q_field Tryd.underlying68 rfl Tryd.ti5 rfl rfl _ rfl) rfl ?_
  refine wpl_q (q_ld Tryd.underlying5 rfl rfl hp.c_fl) rfl ?_
  refine wpl_q (q_pure rfl) rfl ?_
  refine wpl_nil ?_
  refine ex_then ?_
  refine wpc_cond rfl (fun hc21 => ?_) (fun hc21 => ?_)
  ·
   have hfl : 1 < hp.fl.toNat := by simp only [decide_eq_true_eq] at hc21; omega
   have hV : sgE hp ht idx = 2 := sgE_fl hfl
   have hE0 : sgE hp ht idx ≠ 0 := by rw [hV]; decide
   refine wpc_seq ?_
   refine wpc_region ?_
   refine wpl_q (q_build (cs := Pth.z.c) rfl built_pz) rfl ?_
   refine wpl_t0 (t_stA Tryd.ti29 rfl rfl LenC.h OneC.h LenC.h) (fun _ => ?_)
   refine wpl_q (q_pure rfl) rfl ?_
   refine wpl_nil ?_
   refine ex_then ?_
   refine wpc_ret ?_
   refine ex_then_ret ?_
   refine retv2 (.inl rfl) rfl (rv_agg Tryd.underlying29 rfl Tryd.ti29 rfl (fun w h => h.atB) (by lens_)) (rv_tmp rfl) ?_
   exact fun w1 h => ⟨(.slice none 0 0, []), ⟨by rw [sgP_no hE0]; exact SV.nil, by rw [sgP_no hE0]; exact ⟨rfl, fun i hi => by cases hi⟩⟩, by rw [sgP_no hE0, hV]; rfl, h.below, sg_err h hE0⟩
  ·
   have hfl : ¬ 1 < hp.fl.toNat := by simp only [decide_eq_false_iff_not] at hc21; omega
   refine wpc_skip ?_
   refine ex_then ?_
   refine wpc_seq ?_
   refine wpc_region ?_
   refine wpl_q (q_ldN Tryd.underlying61 rfl Tryd.ti61 rfl LenC.h) rfl ?_
   refine wpl_q (q_pure rfl) rfl ?_
   refine wpl_t (t_pur Tryd.hb54 rfl fun w h => key7 s.1 ht w s.2 (glob h hG)) rfl (fun b26 => ?_)
   refine wpl_q (q_pure rfl) rfl ?_
   refine wpl_q (q_pure rfl) rfl ?_
   refine wpl_q (q_pure rfl) rfl ?_
   refine wpl_t (t_alloc Tryd.ti63 (v8s (List.replicate 16 0) ++ [.int .i64 0]) rfl) rfl (fun b12 => ?_)
   refine wpl_t0 (t_stA Tryd.ti63 rfl rfl LenC.h (key_ro s ht) rfl) (fun _ => ?_)
   refine wpl_q (q_pure rfl) rfl ?_
   refine wpl_nil ?_
   refine ex_then ?_
   refine wpc_seq ?_
   refine wpc_seq ?_
   refine wpc_region ?_
   refine wpl_q (q_pure rfl) rfl ?_
   refine wpl_q (q_pure rfl) rfl ?_
   refine wpl_nil ?_
   refine ex_then ?_
   refine wpc_cond rfl (fun hc30 => ?_) (fun hc30 => ?_)
   ·
    have hke : keyE ht ≠ 0 := by simpa using hc30
    have hV : sgE hp ht idx = keyE ht := sgE_key hfl hke
    have hE0 : sgE hp ht idx ≠ 0 := by rw [hV]; exact hke
    refine wpc_seq ?_
    refine wpc_region ?_
    refine wpl_q (q_build (cs := Pth.z.c) rfl built_pz) rfl ?_
    refine wpl_q (q_pure rfl) rfl ?_
    refine wpl_t0 (t_stA Tryd.ti29 rfl rfl LenC.h OneC.h LenC.h) (fun _ => ?_)
    refine wpl_q (q_pure rfl) rfl ?_
    refine wpl_nil ?_
    refine ex_then ?_
    refine wpc_ret ?_
    refine ex_then_ret ?_
    refine retv2 (.inl rfl) rfl (rv_agg Tryd.underlying29 rfl Tryd.ti29 rfl (fun w h => h.atB) (by lens_)) (rv_tmp rfl) ?_
    exact fun w1 h => ⟨(.slice none 0 0, []), ⟨by rw [sgP_no hE0]; exact SV.nil, by rw [sgP_no hE0]; exact ⟨rfl, fun i hi => by cases hi⟩⟩, by rw [sgP_no hE0, hV]; rfl, h.below, sg_err h hE0⟩
   ·
    have hke : ¬ keyE ht ≠ 0 := by simpa using hc30
    have hES : sgE hp ht idx = sigE ht idx := sgE_sig hfl hke
    refine wpc_skip ?_
    refine ex_then ?_
    refine wpc_seq ?_
    refine wpc_region ?_
    refine wpl_q (q_field Tryd.underlying29 rfl Tryd.ti26 rfl rfl _ rfl) rfl ?_
    refine wpl_q (q_ldP Tryd.underlying26 rfl Tryd.ti26 rfl (pfL pf pa pb pl) rfl (by lens_)) rfl ?_
    refine wpl_q (q_build (cs := [.int .u8 (pf.toNat : Int), .int .u64 (pa.toNat : Int), .int .u64 (pb.toNat : Int), .int .i64 pl, .slice none 0 0]) rfl (built_pre pf pa pb pl)) rfl ?_
    refine wpl_t (t_alloc Tryd.ti29 Pth.z.c rfl) rfl (fun b14 => ?_)
    refine wpl_t0 (t_stA Tryd.ti29 rfl rfl LenC.h OneC.h LenC.h) (fun _ => ?_)
    refine wpl_nil ?_
    refine ex_then ?_
    refine wpc_seq ?_
    refine wpc_seq ?_
    refine wpc_region ?_
    refine wpl_q (q_field Tryd.underlying29 rfl Tryd.ti27 rfl rfl _ rfl) rfl ?_
    refine wpl_q (q_ld Tryd.underlying27 rfl rfl rfl) rfl ?_
    refine wpl_q (q_lenW Tryd.underlying27 rfl (by svv_)) rfl ?_
    refine wpl_q (q_pure rfl) rfl ?_
    refine wpl_nil ?_
    refine ex_then ?_
    refine wpc_block ?_
    refine wpc_loopc (ι := { x : Nat × Value × List Hop // (x.1 ≤ hs.length) ∧ (SV x.2.1 x.1) ∧ (x.2.2.length = x.1) ∧ (∀ j, j < x.1 → Hop.eqv (hs.getD j Hop.z) (x.2.2.getD j Hop.z)) }) [(3, _), (4, _), (6, _), (7, _), (10, _), (12, _), (14, _), (37, _), (38, _)] (fun x Lc => (39, .int .i64 ((x.1.1 : Nat) : Int)) :: Lc) (fun x => Mem w [] [.row x.1.2.1 x.1.1 68 24 (hcs x.1.2.2), .blk b14 29 [.int .u8 (pf.toNat : Int), .int .u64 (pa.toNat : Int), .int .u64 (pb.toNat : Int), .int .i64 pl, x.1.2.1], .blk b12 63 (v8s (keyR s.1 ht) ++ [Value.int .i64 (keyH ht)]), .blk b10 29 Pth.z.c, .blk b7 61 (v8s s.1), .blk b6 68 hp.c, .blk b5 29 [.int .u8 (pf.toNat : Int), .int .u64 (pa.toNat : Int), .int .u64 (pb.toNat : Int), .int .i64 pl, hv]] [hopsF x.1.2.2]) (fun x => hs.length - x.1.1) ⟨(0, .slice none 0 0, []), ⟨Nat.zero_le _, SV.nil, rfl, fun j hj => by omega⟩⟩ (by subs_) ?_ ?_
    ·
     exact fun w h => Mem.imp (h.nilRow 68 24) (fun r _ t ht => by rw [List.mem_singleton] at ht; subst ht; exact fun q hq => by cases hq)
    ·
     rintro ⟨⟨i, v, qs⟩, ⟨hi0, hi1, hi2, hi3⟩⟩; try dsimp only
     have hi0 : i ≤ hs.length := hi0; have hi1 : SV v i := hi1; have hi2 : qs.length = i := hi2; have hi3 : ∀ j, j < i → Hop.eqv (hs.getD j Hop.z) (qs.getD j Hop.z) := hi3
     refine wpc_seq ?_
     refine wpc_region ?_
     refine wpl_q (q_pure rfl) rfl ?_
     refine wpl_nil ?_
     refine ex_then ?_
     refine wpc_seq ?_
     refine wpc_cond rfl (fun hc40 => ?_) (fun hc40 => ?_)
     ·
      simp only [decide_eq_true_eq] at hc40
      have hil : i < hs.length := by omega
      have hsi : ((hs.getD i Hop.z)).seen w.cell? := hpp.2 _ (getD_memO hil)
      haveI := hsi.sv.one
      have hlm : (hs.getD i Hop.z).chs.length ≤ 100 ∧ (hs.getD i Hop.z).ps.length ≤ 100 := hlim _ (getD_memO hil)
      refine wpc_skip ?_
      refine ex_then ?_
      refine wpc_seq ?_
      refine wpc_block ?_
      refine wpc_seq ?_
      refine wpc_region ?_
      refine wpl_q (q_idxW Tryd.underlying27 Tryd.ti68 rfl rfl (by svv_) (by lin_)) rfl ?_
      refine wpl_q (q_ldWN Tryd.underlying68 rfl Tryd.ti68 rfl (fun w h => h.seen_old hh) (hs.getD i Hop.z).c (cat_part Hop.c_length Hop.z hil) (Hop.c_length _)) rfl ?_
      refine wpl_t (t_alloc Tryd.ti68 Hop.z.c rfl) rfl (fun b16 => ?_)
      refine wpl_t0 (t_stA Tryd.ti68 rfl rfl LenC.h OneC.h LenC.h) (fun _ => ?_)
      refine wpl_nil ?_
      refine ex_then ?_
      refine wpc_draw 5 (by kernel_rfl) (fun _ h => h.drew) ?_
      refine wpd_p 0 rfl (by kernel_rfl) trivial (q_field Tryd.underlying29 rfl Tryd.ti27 rfl rfl _ rfl) rfl sk0 ?_
      refine wpd_q 1 rfl (by kernel_rfl) trivial (q_ld Tryd.underlying27 rfl rfl rfl) rfl (fun _ h => h) ?_
      refine wpd_qB 2 [3, 4, 5] rfl (by kernel_rfl) trivial (q_ldN Tryd.underlying68 rfl Tryd.ti68 rfl LenC.h) rfl (fun _ h => h) ?_
      refine wpd_tp 3 rfl (by kernel_rfl) trivial (t_callP2 Tryd.hb79 rfl fun w h => twin (hs.getD i Hop.z) w (hsi.old h) (by omega) (by omega)) rfl (fun _ => (fun w h => .inr (h.sub SubC.h SubC.h))) (fun b46 p46 => ?_)
      haveI : OneC (((hs.getD i Hop.z).re b46)).c := Hop.sv.one ⟨p46.1, p46.2⟩
      refine wpd_tp 4 rfl (by kernel_rfl) trivial (t_bsG [.agg ((hs.getD i Hop.z).re b46).c.toArray] ((hs.getD i Hop.z).re b46).c Tryd.underlying27 Tryd.ti68 rfl (by decide) rfl (by decide) (by decide) rfl (by intro v hv; rw [List.mem_singleton] at hv; subst hv; exact Hop.c_length _) (List.append_nil _)) rfl (fun _ => (fun w h => .inr (h.sub SubC.h SubC.h))) (fun b47 p47 => ?_)
      refine wpd_tp 5 rfl (by kernel_rfl) trivial (t_apW Tryd.underlying27 Tryd.ti68 rfl (by decide) rfl rfl (fun w h => by seen_) OneC.h (by lin_) (by lin_) (hcs (qs ++ [((hs.getD i Hop.z).re b46)])) (hcs_snoc _ _)) rfl (fun _ => skk rfl) (fun b48 p48 => ?_)
      refine wpd_p 6 rfl (by kernel_rfl) trivial (q_field Tryd.underlying29 rfl Tryd.ti27 rfl rfl _ rfl) rfl (skk rfl) ?_
      refine wpd_t0 7 rfl (by kernel_rfl) trivial (t_st1 Tryd.ti27 rfl rfl (SV.one (by svv_)) (by len_) [.int .u8 (pf.toNat : Int), .int .u64 (pa.toNat : Int), .int .u64 (pb.toNat : Int), .int .i64 pl, b48] rfl) (fun _ => skk rfl) (fun _ => ?_)
      refine wpd_done (by kernel_rfl) ?_
      refine ex_block ?_
      refine ex_then ?_
      refine wpc_region ?_
      refine wpl_q (q_addN (b := 1) rfl rfl (by lin_)) rfl ?_
      refine wpl_q (q_pure rfl) rfl ?_
      refine wpl_nil ?_
      refine ex_again ⟨(i + 1, b48, qs ++ [((hs.getD i Hop.z).re b46)]), ⟨by show i + 1 ≤ hs.length; omega, p48, by show (qs ++ [((hs.getD i Hop.z).re b46)]).length = i + 1; rw [List.length_append, hi2]; rfl, fun j hj => by
        dsimp only
        rcases Nat.lt_or_ge j i with h | h
        · rw [getD_left hi2 h]; exact hi3 j h
        · obtain rfl : j = i := (by have hj : j < i + 1 := hj; omega)
          rw [getD_app hi2]; exact eqv_re _ _⟩⟩ ?_ ?_ ?_
      ·
       exact (by subs_)
      ·
       exact fun w h => by
         have h1 := h.sel (M' := .row b46.1 (hs.getD i Hop.z).chs.length 61 16 (v8s (hs.getD i Hop.z).chs.flatten) :: .row b46.2 (hs.getD i Hop.z).ps.length 61 16 (v8s (hs.getD i Hop.z).ps.flatten) :: [.row b48 (i + 1) 68 24 (hcs (qs ++ [((hs.getD i Hop.z).re b46)])), .blk b14 29 [.int .u8 (pf.toNat : Int), .int .u64 (pa.toNat : Int), .int .u64 (pb.toNat : Int), .int .i64 pl, b48], .blk b12 63 (v8s (keyR s.1 ht) ++ [Value.int .i64 (keyH ht)]), .blk b10 29 Pth.z.c, .blk b7 61 (v8s s.1), .blk b6 68 hp.c, .blk b5 29 [.int .u8 (pf.toNat : Int), .int .u64 (pa.toNat : Int), .int .u64 (pb.toNat : Int), .int .i64 pl, hv]])
         have h2 := (h1.freezeRow .here).freezeRow .here
         exact h2.imp fun r hr t ht => by
           rw [List.mem_singleton] at ht
           subst ht
           exact twin_fact (hr (hopsF qs) (by simp)) (hr (Go.PL.seen b46.1 (hs.getD i Hop.z).chs.length 16 (v8s (hs.getD i Hop.z).chs.flatten)) (by simp)) (hr (Go.PL.seen b46.2 (hs.getD i Hop.z).ps.length 16 (v8s (hs.getD i Hop.z).ps.flatten)) (by simp)) hsi.2.1 hsi.2.2.2
      ·
       (show hs.length - (i + 1) < hs.length - i); omega
     ·
      simp only [decide_eq_false_iff_not] at hc40
      obtain rfl : i = hs.length := by omega
      have svv := hi1
      refine wpc_exit ?_
      refine ex_then_exit ?_
      refine ex_then_exit ?_
      refine ex_block_hit ?_
      refine ex_then ?_
      refine wpc_seq ?_
      refine wpc_region ?_
      refine wpl_q (q_ldN Tryd.underlying63 rfl Tryd.ti63 rfl LenC.h) rfl ?_
      refine wpl_q (q_build (cs := [.int .i64 0, .slice none 0 0, .slice none 0 0]) rfl built_sz) rfl ?_
      refine wpl_q (q_field Tryd.underlying68 rfl Tryd.ti63 rfl rfl _ rfl) rfl ?_
      refine wpl_t0 (t_stP Tryd.ti63 rfl rfl (by lens_) (key_ro s ht) (by rw [key_rl, Hop.c_length]; decide) _ Hop.setkey) (fun _ => ?_)
      refine wpl_q (q_field Tryd.underlying68 rfl Tryd.ti66 rfl rfl _ rfl) rfl ?_
      refine wpl_t0 (t_stP Tryd.ti66 rfl rfl (by lens_) (by ones_) (by rw [Hop.c_length]; exact Nat.le_refl _) (newH hp s ht).c (Hop.c_setsig _ _ _ _ _ _)) (fun _ => ?_)
      refine wpl_nil ?_
      refine ex_then ?_
      refine wpc_seq ?_
      refine wpc_region ?_
      refine wpl_q (q_field Tryd.underlying29 rfl Tryd.ti27 rfl rfl _ rfl) rfl ?_
      refine wpl_q (q_ld Tryd.underlying27 rfl rfl rfl) rfl ?_
      refine wpl_q (q_ldN Tryd.underlying68 rfl Tryd.ti68 rfl LenC.h) rfl ?_
      refine wpl_tp (t_bsG [.agg (newH hp s ht).c.toArray] (newH hp s ht).c Tryd.underlying27 Tryd.ti68 rfl (by decide) rfl (by decide) (by decide) rfl (by intro v hv; rw [List.mem_singleton] at hv; subst hv; exact Hop.c_length _) (List.append_nil _)) rfl (fun b58 p58 => ?_)
      refine wpl_tp (t_apW Tryd.underlying27 Tryd.ti68 rfl (by decide) rfl rfl (fun w h => by seen_) OneC.h (by lin_) (by lin_) (hcs (qs ++ [(newH hp s ht)])) (hcs_snoc _ _)) rfl (fun b59 p59 => ?_)
      refine wpl_q (q_field Tryd.underlying29 rfl Tryd.ti27 rfl rfl _ rfl) rfl ?_
      refine wpl_t0 (t_st1 Tryd.ti27 rfl rfl (SV.one (by svv_)) (by len_) [.int .u8 (pf.toNat : Int), .int .u64 (pa.toNat : Int), .int .u64 (pb.toNat : Int), .int .i64 pl, b59] rfl) (fun _ => ?_)
      refine wpl_nil ?_
      refine ex_then ?_
      refine wpc_seq ?_
      refine wpc_region ?_
      refine wpl_q (q_field Tryd.underlying29 rfl Tryd.ti27 rfl rfl _ rfl) rfl ?_
      refine wpl_q (q_ld Tryd.underlying27 rfl rfl rfl) rfl ?_
      refine wpl_q (q_lenW Tryd.underlying27 rfl (by svv_)) rfl ?_
      refine wpl_q (q_subN (b := 1) rfl rfl (by omega) (by lin_)) rfl ?_
      refine wpl_q (q_pure rfl) rfl ?_
      refine wpl_nil ?_
      refine ex_then ?_
      refine wpc_seq ?_
      have hqe := newO_eqv (p := ⟨pf, pa, pb, pl, hv, hs⟩) (h := hp) (s := s) (ht := ht) (v := b59) hi2 hi3
      have hme : msgB (Pth.mk pf pa pb pl b59 (qs ++ [(newH hp s ht)])) hs.length = (sgM ⟨pf, pa, pb, pl, hv, hs⟩ hp s ht) := (msgB_eqv hqe (show hs.length < (hs ++ [(newH hp s ht)]).length by rw [List.length_append]; exact Nat.lt_succ_self _)).symm
      have hsm : SmP (Pth.mk pf pa pb pl b59 (qs ++ [(newH hp s ht)])) := so_small hi2 hi3 hlim
      have hjn : hs.length < (qs ++ [(newH hp s ht)]).length := by rw [List.length_append, hi2]; exact Nat.lt_succ_self _
      refine wpc_draw 11 (by kernel_rfl) (fun _ h => h.drew) ?_
      refine wpd_q 0 rfl (by kernel_rfl) trivial (q_ldN Tryd.underlying61 rfl Tryd.ti61 rfl LenC.h) rfl (fun _ h => h) ?_
      refine wpd_p 1 rfl (by kernel_rfl) trivial (q_pure rfl) rfl sk0 ?_
      refine wpd_p 2 rfl (by kernel_rfl) trivial (q_pure rfl) rfl sk0 ?_
      refine wpd_q 3 rfl (by kernel_rfl) trivial (q_ldN Tryd.underlying29 rfl Tryd.ti29 rfl LenC.h) rfl (fun _ h => h) ?_
      refine wpd_p 4 rfl (by kernel_rfl) trivial (q_pure rfl) rfl sk0 ?_
      refine wpd_two 5 10 (by kernel_rfl) ?_ ?_
      ·
       refine wpa_tp 5 rfl trivial (t_callP1 Tryd.hb38 rfl fun w h => by
         have q := message_ (Pth.mk pf pa pb pl b59 (qs ++ [(newH hp s ht)])) hs.length w (so_seen hi2 (h.seen_row (by mem_)) (hopsF_at h (by mem_))) hjn hsm (glob h hG)
         rw [hme] at q
         exact q) rfl (fun _ => (fun w h => .inr (h.sub SubC.h SubC.h))) (fun b71 p71 => ?_)
       refine wpd_two 6 10 (by kernel_rfl) ?_ ?_
       ·
        refine wpa_tp 6 rfl trivial (t_callP2 Tryd.hb80 rfl fun w h => sign7 s.1 ht idx b71 (sgM ⟨pf, pa, pb, pl, hv, hs⟩ hp s ht) w s.2 (h.seen_row (by mem_)) (glob h hG)) rfl (fun _ => (fun w h => .inr (h.sub SubC.h SubC.h))) (fun b72 p72 => ?_)
        refine wpd_p 7 rfl (by kernel_rfl) trivial (q_pure rfl) rfl (fun w h => .inr (h.sub SubC.h SubC.h)) ?_
        refine wpd_p 8 rfl (by kernel_rfl) trivial (q_pure rfl) rfl (fun w h => .inr (h.sub SubC.h SubC.h)) ?_
        refine wpd_p 9 rfl (by kernel_rfl) trivial (q_pure rfl) rfl (fun w h => .inr (h.sub SubC.h SubC.h)) ?_
        refine wpd_t 10 rfl (by kernel_rfl) trivial (t_alloc Tryd.ti66 [.int .i64 0, .slice none 0 0, .slice none 0 0] rfl) rfl (fun _ => (fun w h => .inr (h.sub SubC.h SubC.h))) (fun b18 => ?_)
        refine wpd_t0 11 rfl (by kernel_rfl) trivial (t_stA Tryd.ti66 rfl rfl rfl (OneC.cons rfl (OneC.cons (SV.one p72.1) (OneC.cons (SV.one p72.2) oneC_nil))).h rfl) (fun _ => skk rfl) (fun _ => ?_)
        refine wpd_p 12 rfl (by kernel_rfl) trivial (q_pure rfl) rfl (skk rfl) ?_
        refine wpd_done (by kernel_rfl) ?_
        refine ex_then ?_
        refine wpc_seq ?_
        refine wpc_seq ?_
        refine wpc_region ?_
        refine wpl_q (q_pure rfl) rfl ?_
        refine wpl_q (q_pure rfl) rfl ?_
        refine wpl_nil ?_
        refine ex_then ?_
        refine wpc_cond rfl (fun hc76 => ?_) (fun hc76 => ?_)
        ·
         have hse : sigE ht idx ≠ 0 := by simpa using hc76
         have hV := hES
         have hE0 : sgE hp ht idx ≠ 0 := by rw [hV]; exact hse
         refine wpc_seq ?_
         refine wpc_region ?_
         refine wpl_q (q_build (cs := Pth.z.c) rfl built_pz) rfl ?_
         refine wpl_q (q_pure rfl) rfl ?_
         refine wpl_t0 (t_stA Tryd.ti29 rfl rfl LenC.h OneC.h LenC.h) (fun _ => ?_)
         refine wpl_q (q_pure rfl) rfl ?_
         refine wpl_nil ?_
         refine ex_then ?_
         refine wpc_ret ?_
         refine ex_then_ret ?_
         refine retv2 (.inl rfl) rfl (rv_agg Tryd.underlying29 rfl Tryd.ti29 rfl (fun w h => h.atB) (by lens_)) (rv_tmp rfl) ?_
         exact fun w1 h => ⟨(.slice none 0 0, []), ⟨by rw [sgP_no hE0]; exact SV.nil, by rw [sgP_no hE0]; exact ⟨rfl, fun i hi => by cases hi⟩⟩, by rw [sgP_no hE0, hV]; rfl, h.below, sg_err h hE0⟩
        ·
         have hse : sigE ht idx = 0 := by simpa using hc76
         have hE0 : sgE hp ht idx = 0 := hES.trans hse
         refine wpc_skip ?_
         refine ex_then ?_
         refine wpc_seq ?_
         refine wpc_region ?_
         refine wpl_q (q_field Tryd.underlying29 rfl Tryd.ti27 rfl rfl _ rfl) rfl ?_
         refine wpl_q (q_ld Tryd.underlying27 rfl rfl rfl) rfl ?_
         refine wpl_q (q_pure rfl) rfl ?_
         refine wpl_q (q_ldN Tryd.underlying66 rfl Tryd.ti66 rfl LenC.h) rfl ?_
         refine wpl_q (q_idxW Tryd.underlying27 Tryd.ti68 rfl rfl (by svv_) (by lin_)) rfl ?_
         refine wpl_q (q_fieldPo 21 Tryd.underlying68 rfl Tryd.ti66 rfl rfl rfl) rfl ?_
         refine wpl_t0 (t_stWFN (j := hs.length * 24) (k := 21) (vs := [.int .i64 (sigI ht idx), b72.1, b72.2]) Tryd.ti66 rfl rfl rfl rfl (OneC.cons rfl (OneC.cons (SV.one p72.1) (OneC.cons (SV.one p72.2) oneC_nil))).h (by rw [hcs, cat_len Hop.c_length, List.length_append, hi2]; show hs.length * 24 + 21 + 3 ≤ (hs.length + 1) * 24; omega) (by rw [hcs, cat_len Hop.c_length, List.length_append]; simp) (hcs (qs ++ [(newS ⟨pf, pa, pb, pl, hv, hs⟩ hp s ht idx b72)])) (hcs_setsig hi2 _ _ _ _ _)) (fun _ => ?_)
         refine wpl_nil ?_
         refine ex_then ?_
         refine wpc_seq ?_
         haveI : OneC [.int .u8 (pf.toNat : Int), .int .u64 (pa.toNat : Int), .int .u64 (pb.toNat : Int), .int .i64 pl, b59] := Pth.sv.one (p := ⟨pf, pa, pb, pl, b59, qs ++ [(newH hp s ht)]⟩) (by show SV b59 (qs ++ [(newH hp s ht)]).length; rw [List.length_append, hi2]; exact p59)
         refine wpc_region ?_
         refine wpl_q (q_ldN Tryd.underlying29 rfl Tryd.ti29 rfl LenC.h) rfl ?_
         refine wpl_t0 (t_stA Tryd.ti29 rfl rfl LenC.h OneC.h LenC.h) (fun _ => ?_)
         refine wpl_q (q_pure rfl) rfl ?_
         refine wpl_nil ?_
         refine ex_then ?_
         refine wpc_ret ?_
         refine retv2 (.inl rfl) rfl (rv_agg Tryd.underlying29 rfl Tryd.ti29 rfl (fun w h => h.atB) (by lens_)) (rv_tmp rfl) ?_
         exact fun w1 h => ⟨(b59, qs ++ [(newS ⟨pf, pa, pb, pl, hv, hs⟩ hp s ht idx b72)]), ⟨by rw [sgP_ok hE0]; show SV b59 (hs ++ [_]).length; rw [List.length_append]; exact p59, by rw [sgP_ok hE0]; exact newS_eqv (p := ⟨pf, pa, pb, pl, hv, hs⟩) hi2 hi3⟩, by rw [sgP_ok hE0, hE0]; rfl, h.below, sg_made (M := []) (v := b59) (n := hs.length) (p := ⟨pf, pa, pb, pl, hv, hs⟩) rfl hE0 h.sel⟩
       ·
        refine wpa_t 10 rfl trivial (t_alloc Tryd.ti66 [.int .i64 0, .slice none 0 0, .slice none 0 0] rfl) rfl (fun _ => (fun w h => .inr (h.sub SubC.h SubC.h))) (fun b18 => ?_)
        refine wpd_tp 6 rfl (by kernel_rfl) trivial (t_callP2 Tryd.hb80 rfl fun w h => sign7 s.1 ht idx b71 (sgM ⟨pf, pa, pb, pl, hv, hs⟩ hp s ht) w s.2 (h.seen_row (by mem_)) (glob h hG)) rfl (fun _ => (fun w h => .inr (h.sub SubC.h SubC.h))) (fun b72 p72 => ?_)
        refine wpd_p 7 rfl (by kernel_rfl) trivial (q_pure rfl) rfl (fun w h => .inr (h.sub SubC.h SubC.h)) ?_
        refine wpd_p 8 rfl (by kernel_rfl) trivial (q_pure rfl) rfl (fun w h => .inr (h.sub SubC.h SubC.h)) ?_
        refine wpd_p 9 rfl (by kernel_rfl) trivial (q_pure rfl) rfl (fun w h => .inr (h.sub SubC.h SubC.h)) ?_
        refine wpd_t0 11 rfl (by kernel_rfl) trivial (t_stA Tryd.ti66 rfl rfl rfl (OneC.cons rfl (OneC.cons (SV.one p72.1) (OneC.cons (SV.one p72.2) oneC_nil))).h rfl) (fun _ => skk rfl) (fun _ => ?_)
        refine wpd_p 12 rfl (by kernel_rfl) trivial (q_pure rfl) rfl (skk rfl) ?_
        refine wpd_done (by kernel_rfl) ?_
        refine ex_then ?_
        refine wpc_seq ?_
        refine wpc_seq ?_
        refine wpc_region ?_
        refine wpl_q (q_pure rfl) rfl ?_
        refine wpl_q (q_pure rfl) rfl ?_
        refine wpl_nil ?_
        refine ex_then ?_
        refine wpc_cond rfl (fun hc76 => ?_) (fun hc76 => ?_)
        ·
         have hse : sigE ht idx ≠ 0 := by simpa using hc76
         have hV := hES
         have hE0 : sgE hp ht idx ≠ 0 := by rw [hV]; exact hse
         refine wpc_seq ?_
         refine wpc_region ?_
         refine wpl_q (q_build (cs := Pth.z.c) rfl built_pz) rfl ?_
         refine wpl_q (q_pure rfl) rfl ?_
         refine wpl_t0 (t_stA Tryd.ti29 rfl rfl LenC.h OneC.h LenC.h) (fun _ => ?_)
         refine wpl_q (q_pure rfl) rfl ?_
         refine wpl_nil ?_
         refine ex_then ?_
         refine wpc_ret ?_
         refine ex_then_ret ?_
         refine retv2 (.inl rfl) rfl (rv_agg Tryd.underlying29 rfl Tryd.ti29 rfl (fun w h => h.atB) (by lens_)) (rv_tmp rfl) ?_
         exact fun w1 h => ⟨(.slice none 0 0, []), ⟨by rw [sgP_no hE0]; exact SV.nil, by rw [sgP_no hE0]; exact ⟨rfl, fun i hi => by cases hi⟩⟩, by rw [sgP_no hE0, hV]; rfl, h.below, sg_err h hE0⟩
        ·
         have hse : sigE ht idx = 0 := by simpa using hc76
         have hE0 : sgE hp ht idx = 0 := hES.trans hse
         refine wpc_skip ?_
         refine ex_then ?_
         refine wpc_seq ?_
         refine wpc_region ?_
         refine wpl_q (q_field Tryd.underlying29 rfl Tryd.ti27 rfl rfl _ rfl) rfl ?_
         refine wpl_q (q_ld Tryd.underlying27 rfl rfl rfl) rfl ?_
         refine wpl_q (q_pure rfl) rfl ?_
         refine wpl_q (q_ldN Tryd.underlying66 rfl Tryd.ti66 rfl LenC.h) rfl ?_
         refine wpl_q (q_idxW Tryd.underlying27 Tryd.ti68 rfl rfl (by svv_) (by lin_)) rfl ?_
         refine wpl_q (q_fieldPo 21 Tryd.underlying68 rfl Tryd.ti66 rfl rfl rfl) rfl ?_
         refine wpl_t0 (t_stWFN (j := hs.length * 24) (k := 21) (vs := [.int .i64 (sigI ht idx), b72.1, b72.2]) Tryd.ti66 rfl rfl rfl rfl (OneC.cons rfl (OneC.cons (SV.one p72.1) (OneC.cons (SV.one p72.2) oneC_nil))).h (by rw [hcs, cat_len Hop.c_length, List.length_append, hi2]; show hs.length * 24 + 21 + 3 ≤ (hs.length + 1) * 24; omega) (by rw [hcs, cat_len Hop.c_length, List.length_append]; simp) (hcs (qs ++ [(newS ⟨pf, pa, pb, pl, hv, hs⟩ hp s ht idx b72)])) (hcs_setsig hi2 _ _ _ _ _)) (fun _ => ?_)
         refine wpl_nil ?_
         refine ex_then ?_
         refine wpc_seq ?_
         haveI : OneC [.int .u8 (pf.toNat : Int), .int .u64 (pa.toNat : Int), .int .u64 (pb.toNat : Int), .int .i64 pl, b59] := Pth.sv.one (p := ⟨pf, pa, pb, pl, b59, qs ++ [(newH hp s ht)]⟩) (by show SV b59 (qs ++ [(newH hp s ht)]).length; rw [List.length_append, hi2]; exact p59)
         refine wpc_region ?_
         refine wpl_q (q_ldN Tryd.underlying29 rfl Tryd.ti29 rfl LenC.h) rfl ?_
         refine wpl_t0 (t_stA Tryd.ti29 rfl rfl LenC.h OneC.h LenC.h) (fun _ => ?_)
         refine wpl_q (q_pure rfl) rfl ?_
         refine wpl_nil ?_
         refine ex_then ?_
         refine wpc_ret ?_
         refine retv2 (.inl rfl) rfl (rv_agg Tryd.underlying29 rfl Tryd.ti29 rfl (fun w h => h.atB) (by lens_)) (rv_tmp rfl) ?_
         exact fun w1 h => ⟨(b59, qs ++ [(newS ⟨pf, pa, pb, pl, hv, hs⟩ hp s ht idx b72)]), ⟨by rw [sgP_ok hE0]; show SV b59 (hs ++ [_]).length; rw [List.length_append]; exact p59, by rw [sgP_ok hE0]; exact newS_eqv (p := ⟨pf, pa, pb, pl, hv, hs⟩) hi2 hi3⟩, by rw [sgP_ok hE0, hE0]; rfl, h.below, sg_made (M := []) (v := b59) (n := hs.length) (p := ⟨pf, pa, pb, pl, hv, hs⟩) rfl hE0 h.sel⟩
      ·
       refine wpa_t 10 rfl trivial (t_alloc Tryd.ti66 [.int .i64 0, .slice none 0 0, .slice none 0 0] rfl) rfl (fun _ => (fun w h => .inr (h.sub SubC.h SubC.h))) (fun b18 => ?_)
       refine wpd_tp 5 rfl (by kernel_rfl) trivial (t_callP1 Tryd.hb38 rfl fun w h => by
         have q := message_ (Pth.mk pf pa pb pl b59 (qs ++ [(newH hp s ht)])) hs.length w (so_seen hi2 (h.seen_row (by mem_)) (hopsF_at h (by mem_))) hjn hsm (glob h hG)
         rw [hme] at q
         exact q) rfl (fun _ => (fun w h => .inr (h.sub SubC.h SubC.h))) (fun b71 p71 => ?_)
       refine wpd_tp 6 rfl (by kernel_rfl) trivial (t_callP2 Tryd.hb80 rfl fun w h => sign7 s.1 ht idx b71 (sgM ⟨pf, pa, pb, pl, hv, hs⟩ hp s ht) w s.2 (h.seen_row (by mem_)) (glob h hG)) rfl (fun _ => (fun w h => .inr (h.sub SubC.h SubC.h))) (fun b72 p72 => ?_)
       refine wpd_p 7 rfl (by kernel_rfl) trivial (q_pure rfl) rfl (fun w h => .inr (h.sub SubC.h SubC.h)) ?_
       refine wpd_p 8 rfl (by kernel_rfl) trivial (q_pure rfl) rfl (fun w h => .inr (h.sub SubC.h SubC.h)) ?_
       refine wpd_p 9 rfl (by kernel_rfl) trivial (q_pure rfl) rfl (fun w h => .inr (h.sub SubC.h SubC.h)) ?_
       refine wpd_t0 11 rfl (by kernel_rfl) trivial (t_stA Tryd.ti66 rfl rfl rfl (OneC.cons rfl (OneC.cons (SV.one p72.1) (OneC.cons (SV.one p72.2) oneC_nil))).h rfl) (fun _ => skk rfl) (fun _ => ?_)
       refine wpd_p 12 rfl (by kernel_rfl) trivial (q_pure rfl) rfl (skk rfl) ?_
       refine wpd_done (by kernel_rfl) ?_
       refine ex_then ?_
       refine wpc_seq ?_
       refine wpc_seq ?_
       refine wpc_region ?_
       refine wpl_q (q_pure rfl) rfl ?_
       refine wpl_q (q_pure rfl) rfl ?_
       refine wpl_nil ?_
       refine ex_then ?_
       refine wpc_cond rfl (fun hc76 => ?_) (fun hc76 => ?_)
       ·
        have hse : sigE ht idx ≠ 0 := by simpa using hc76
        have hV := hES
        have hE0 : sgE hp ht idx ≠ 0 := by rw [hV]; exact hse
        refine wpc_seq ?_
        refine wpc_region ?_
        refine wpl_q (q_build (cs := Pth.z.c) rfl built_pz) rfl ?_
        refine wpl_q (q_pure rfl) rfl ?_
        refine wpl_t0 (t_stA Tryd.ti29 rfl rfl LenC.h OneC.h LenC.h) (fun _ => ?_)
        refine wpl_q (q_pure rfl) rfl ?_
        refine wpl_nil ?_
        refine ex_then ?_
        refine wpc_ret ?_
        refine ex_then_ret ?_
        refine retv2 (.inl rfl) rfl (rv_agg Tryd.underlying29 rfl Tryd.ti29 rfl (fun w h => h.atB) (by lens_)) (rv_tmp rfl) ?_
        exact fun w1 h => ⟨(.slice none 0 0, []), ⟨by rw [sgP_no hE0]; exact SV.nil, by rw [sgP_no hE0]; exact ⟨rfl, fun i hi => by cases hi⟩⟩, by rw [sgP_no hE0, hV]; rfl, h.below, sg_err h hE0⟩
       ·
        have hse : sigE ht idx = 0 := by simpa using hc76
        have hE0 : sgE hp ht idx = 0 := hES.trans hse
        refine wpc_skip ?_
        refine ex_then ?_
        refine wpc_seq ?_
        refine wpc_region ?_
        refine wpl_q (q_field Tryd.underlying29 rfl Tryd.ti27 rfl rfl _ rfl) rfl ?_
        refine wpl_q (q_ld Tryd.underlying27 rfl rfl rfl) rfl ?_
        refine wpl_q (q_pure rfl) rfl ?_
        refine wpl_q (q_ldN Tryd.underlying66 rfl Tryd.ti66 rfl LenC.h) rfl ?_
        refine wpl_q (q_idxW Tryd.underlying27 Tryd.ti68 rfl rfl (by svv_) (by lin_)) rfl ?_
        refine wpl_q (q_fieldPo 21 Tryd.underlying68 rfl Tryd.ti66 rfl rfl rfl) rfl ?_
        refine wpl_t0 (t_stWFN (j := hs.length * 24) (k := 21) (vs := [.int .i64 (sigI ht idx), b72.1, b72.2]) Tryd.ti66 rfl rfl rfl rfl (OneC.cons rfl (OneC.cons (SV.one p72.1) (OneC.cons (SV.one p72.2) oneC_nil))).h (by rw [hcs, cat_len Hop.c_length, List.length_append, hi2]; show hs.length * 24 + 21 + 3 ≤ (hs.length + 1) * 24; omega) (by rw [hcs, cat_len Hop.c_length, List.length_append]; simp) (hcs (qs ++ [(newS ⟨pf, pa, pb, pl, hv, hs⟩ hp s ht idx b72)])) (hcs_setsig hi2 _ _ _ _ _)) (fun _ => ?_)
        refine wpl_nil ?_
        refine ex_then ?_
        refine wpc_seq ?_
        haveI : OneC [.int .u8 (pf.toNat : Int), .int .u64 (pa.toNat : Int), .int .u64 (pb.toNat : Int), .int .i64 pl, b59] := Pth.sv.one (p := ⟨pf, pa, pb, pl, b59, qs ++ [(newH hp s ht)]⟩) (by show SV b59 (qs ++ [(newH hp s ht)]).length; rw [List.length_append, hi2]; exact p59)
        refine wpc_region ?_
        refine wpl_q (q_ldN Tryd.underlying29 rfl Tryd.ti29 rfl LenC.h) rfl ?_
        refine wpl_t0 (t_stA Tryd.ti29 rfl rfl LenC.h OneC.h LenC.h) (fun _ => ?_)
        refine wpl_q (q_pure rfl) rfl ?_
        refine wpl_nil ?_
        refine ex_then ?_
        refine wpc_ret ?_
        refine retv2 (.inl rfl) rfl (rv_agg Tryd.underlying29 rfl Tryd.ti29 rfl (fun w h => h.atB) (by lens_)) (rv_tmp rfl) ?_
        exact fun w1 h => ⟨(b59, qs ++ [(newS ⟨pf, pa, pb, pl, hv, hs⟩ hp s ht idx b72)]), ⟨by rw [sgP_ok hE0]; show SV b59 (hs ++ [_]).length; rw [List.length_append]; exact p59, by rw [sgP_ok hE0]; exact newS_eqv (p := ⟨pf, pa, pb, pl, hv, hs⟩) hi2 hi3⟩, by rw [sgP_ok hE0, hE0]; rfl, h.below, sg_made (M := []) (v := b59) (n := hs.length) (p := ⟨pf, pa, pb, pl, hv, hs⟩) rfl hE0 h.sel⟩

end Go.Proofs.YtjpfhkjmjnjggaaDoor

