/- What the statement reaches, in order. -/
import Derived.Test.YtjpfhkjmjnjggaaDoorTI
import Derived.Test.YtjpfhkjmjnjggaaDoorPLI
import Derived.Test.YtjpfhkjmjnjggaaDoorPLZ
import Derived.Test.YtjpfhkjmjnjggaaDoorPLL
import Derived.Test.YtjpfhkjmjnjggaaDoorPLN
import Derived.Test.YtjpfhkjmjnjggaaDoorPLP
import Derived.WalkKit
import Derived.ProofKit
import Derived.OpenShut
import Derived.ChangeOld
import Derived.Below
import Derived.Carry
import Derived.LaidMore
import Derived.Deep.DeepHandedRow
import Derived.Deep.DeepWitnessRowRef
import Derived.Lib.LaidTab
import Derived.Stop.Joined
import Derived.Test.YtjpfhkjmjnjggaaDoorST3
namespace Go.Proofs.YtjpfhkjmjnjggaaDoor
set_option linter.unusedSimpArgs false
set_option linter.unusedVariables false
open Go Go.PL Go.RowKit
set_option maxRecDepth 100000 in
theorem messages1 (yl : Nat) (pp : Nat) (p : Pth) (J : List Nat → List (Nat × List UInt8) → World → Prop) (K : World → Prop) (w : World)  (hst : StabJ J) (hinv : ∀ T pre w1, J T pre w1 → InvM p w1) (hsk : StabK K) (hy : YieldS Tryd.prog yl encM AtM (msgs p) J K) (hJ0 : J [pp] [] w) (hpp : w.heap[pp]? = some (.cells p.c.toArray 29 (0, 0))) (hlim : ∀ h ∈ p.hs, h.chs.length ≤ 100 ∧ h.ps.length ≤ 100) :
    Calls Tryd.prog 72 [.func (.yield yl) #[] #[], .pointer (some ⟨pp, 0, none⟩)].toArray w (IterPost J K (msgs p)) := by
  obtain ⟨pf, pa, pb, pl, hv, hs⟩ := p
  have hp := (hinv _ _ _ hJ0).1
  have hh : Seen w.cell? hv hs.length 24 (hcs hs) := hp.1
  have svh := hh.sv
  have lh := svh.le
  simp only [maxLen] at lh
  change ∀ h ∈ hs, h.chs.length ≤ 100 ∧ h.ps.length ≤ 100 at hlim
  refine enter (m := 65) (R := Mem w [pp] [.blk pp 29 [.int .u8 (pf.toNat : Int), .int .u64 (pa.toNat : Int), .int .u64 (pb.toNat : Int), .int .i64 pl, hv]] []) Tryd.func72 rfl rfl (Nat.le_of_ble_eq_true rfl) (Mem.start1 w hpp) ?_
  refine wpc_seq ?_
  refine wpc_region ?_
  refine wpl_q (q_field Tryd.underlying29 rfl Tryd.ti26 rfl rfl _ rfl) rfl ?_
  refine wpl_q (q_field Tryd.underlying26 rfl Tryd.ti24 rfl rfl _ rfl) rfl ?_
  refine wpl_q (q_ldP Tryd.underlying24 rfl Tryd.ti24 rfl (adL pa pb) rfl (by first | (with_reducible exact key_len _ _ (by (first | with_reducible assumption | exact L16.h))) | with_reducible rfl | (simp only [v8s_length, v32s_length, vis_length, vns_length, v64s_length, List.length_replicate]; first | done | with_reducible assumption | omega) | (rw [v8s_length]; (first | with_reducible assumption | exact L16.h)) | rfl)) rfl ?_
  refine wpl_t (t_alloc Tryd.ti24 [.int .u64 0, .int .u64 0] rfl) rfl (fun b3 => ?_)
  refine wpl_t0 (t_stA Tryd.ti24 rfl rfl (by first | exact LenC.h | exact adL_len _ _ | (rw [v8s_length]; exact sumF_length _)) (by first | exact OneC.h | exact v8s_one _ | exact adL_one _ _) (by first | exact LenC.h | rfl)) (fun _ => ?_)
  refine wpl_nil ?_
  refine ex_then ?_
  refine wpc_seq ?_
  refine wpc_draw 17 (by kernel_rfl) (fun _ h => h.drew) ?_
  refine wpd_p 0 rfl (by kernel_rfl) trivial (q_field Tryd.underlying29 rfl Tryd.ti26 rfl rfl _ rfl) rfl sk0 ?_
  refine wpd_p 1 rfl (by kernel_rfl) trivial (q_field Tryd.underlying26 rfl Tryd.ti5 rfl rfl _ rfl) rfl sk0 ?_
  refine wpd_q 2 rfl (by kernel_rfl) trivial (q_ld Tryd.underlying5 rfl rfl (by first | exact v8s_get (by first | decide | omega | exact Nat.zero_lt_one | (simp; omega) | (simp; done) | (simp only [v8s_length, v32s_length, vis_length, vns_length, v64s_length]; omega)) | rfl)) rfl (fun _ h => h) ?_
  refine wpd_p 3 rfl (by kernel_rfl) trivial (q_field Tryd.underlying29 rfl Tryd.ti26 rfl rfl _ rfl) rfl sk0 ?_
  refine wpd_p 4 rfl (by kernel_rfl) trivial (q_field Tryd.underlying26 rfl Tryd.ti3 rfl rfl _ rfl) rfl sk0 ?_
  refine wpd_q 5 rfl (by kernel_rfl) trivial (q_ld Tryd.underlying3 rfl rfl (by first | exact vns_get (by first | decide | omega | exact Nat.zero_lt_one | (simp; omega) | (simp; done) | (simp only [v8s_length, v32s_length, vis_length, vns_length, v64s_length]; omega)) | rfl)) rfl (fun _ h => h) ?_
  refine wpd_p 6 rfl (by kernel_rfl) trivial (q8_conv Tryd.underlying3 Tryd.underlying5 rfl) rfl sk0 ?_
  refine wpd_p 8 rfl (by kernel_rfl) trivial (q_field Tryd.underlying24 rfl Tryd.ti22 rfl rfl _ rfl) rfl sk0 ?_
  refine wpd_q 9 rfl (by kernel_rfl) trivial (q_ld Tryd.underlying22 rfl rfl (by first | exact v64s_get (by first | decide | omega | exact Nat.zero_lt_one | (simp; omega) | (simp; done) | (simp only [v8s_length, v32s_length, vis_length, vns_length, v64s_length]; omega)) | rfl)) rfl (fun _ h => h) ?_
  refine wpd_p 11 rfl (by kernel_rfl) trivial (q_field Tryd.underlying24 rfl Tryd.ti22 rfl rfl _ rfl) rfl sk0 ?_
  refine wpd_q 12 rfl (by kernel_rfl) trivial (q_ld Tryd.underlying22 rfl rfl (by first | exact v64s_get (by first | decide | omega | exact Nat.zero_lt_one | (simp; omega) | (simp; done) | (simp only [v8s_length, v32s_length, vis_length, vns_length, v64s_length]; omega)) | rfl)) rfl (fun _ h => h) ?_
  refine wpd_makers (lf := #[true, true, true, true, true, true, true, true, true, true, true, true, true, true, false, false, false]) [0, 1, 2, 3, 4, 5, 6, 8, 9, 11, 12] [⟨7, 19, [], (fun _ v => SV v 2), (fun _ v => .row v 2 5 1 (v8s [pf, of8 pl]))⟩, ⟨10, 22, [], (fun _ v => SV v 8), (fun _ v => .row v 8 5 1 (v8s (numK 8 pa.toNat)))⟩, ⟨13, 25, [], (fun _ v => SV v 8), (fun _ v => .row v 8 5 1 (v8s (numK 8 pb.toNat)))⟩] 3 rfl (by kernel_rfl) (by intro m hm; simp only [List.mem_cons, List.not_mem_nil, or_false] at hm; rcases hm with rfl | rfl | rfl <;> rfl) (fun σ w h => h.sub (sub_app _ _) (Sub.refl _)) ?_ ?_
  ·
   intro m hm o ho σ hσ hd
   simp only [List.mem_cons, List.not_mem_nil, or_false] at hm
   rcases hm with rfl | rfl | rfl
   ·
    obtain rfl := Option.some.inj ho
    show TOpP _ _ _ _ _ _ Value (fun v => SV v 2) (fun v => v) (fun v => Mem _ _ (.row v 2 5 1 (v8s [pf, of8 pl]) :: _) _)
    exact TOpP.weakL (fun t u hh => slots_base t hh _ (by intro m hm; simp only [List.mem_cons, List.not_mem_nil, or_false] at hm; rcases hm with rfl | rfl | rfl <;> rfl)) (t_bsV (v8s [pf, of8 pl]) Tryd.underlying32 Tryd.ti5 rfl rfl (by decide) (by decide) rfl (v8s_one _))
   ·
    obtain rfl := Option.some.inj ho
    show TOpP _ _ _ _ _ _ Value (fun v => SV v 8) (fun v => v) (fun v => Mem _ _ (.row v 8 5 1 (v8s (numK 8 pa.toNat)) :: _) _)
    exact TOpP.weakL (fun t u hh => slots_base t hh _ (by intro m hm; simp only [List.mem_cons, List.not_mem_nil, or_false] at hm; rcases hm with rfl | rfl | rfl <;> rfl)) (t_callP1 Tryd.hb74 rfl fun w h => (fun w => wordB pa 8 w (by decide)) w)
   ·
    obtain rfl := Option.some.inj ho
    show TOpP _ _ _ _ _ _ Value (fun v => SV v 8) (fun v => v) (fun v => Mem _ _ (.row v 8 5 1 (v8s (numK 8 pb.toNat)) :: _) _)
    exact TOpP.weakL (fun t u hh => slots_base t hh _ (by intro m hm; simp only [List.mem_cons, List.not_mem_nil, or_false] at hm; rcases hm with rfl | rfl | rfl <;> rfl)) (t_callP1 Tryd.hb74 rfl fun w h => (fun w => wordB pb 8 w (by decide)) w)
  ·
   intro σ hσ hall
   obtain ⟨b19, q19⟩ := Option.isSome_iff_exists.1 (hall _ (List.mem_cons_self ..))
   obtain ⟨b22, q22⟩ := Option.isSome_iff_exists.1 (hall _ (List.mem_cons_of_mem _ (List.mem_cons_self ..)))
   obtain ⟨b25, q25⟩ := Option.isSome_iff_exists.1 (hall _ (List.mem_cons_of_mem _ (List.mem_cons_of_mem _ (List.mem_cons_self ..))))
   have p19 := (hσ _ (List.mem_cons_self ..) b19 q19).2
   try dsimp only at p19
   have p22 := (hσ _ (List.mem_cons_of_mem _ (List.mem_cons_self ..)) b22 q22).2
   try dsimp only at p22
   have p25 := (hσ _ (List.mem_cons_of_mem _ (List.mem_cons_of_mem _ (List.mem_cons_self ..))) b25 q25).2
   try dsimp only at p25
   try dsimp only at q19 q22 q25
   simp only [mkEnts, mkSlots, q19, q22, q25, List.cons_append, List.nil_append, List.map_cons, List.map_nil, Asg.v, Option.getD_some]
   refine wpd_tp 14 rfl (by kernel_rfl) trivial (t_bsV [b19, b22, b25] Tryd.underlying160 Tryd.ti32 rfl rfl (by decide) (by decide) rfl (by intro u hu; simp only [List.mem_cons, List.not_mem_nil, or_false] at hu; rcases hu with rfl | rfl | rfl <;> exact SV.one (by assumption))) rfl (fun _ => (fun w h => .inr (h.sub SubC.h SubC.h))) (fun b26 p26 => ?_)
   refine wpd_tp 15 rfl (by kernel_rfl) trivial (t_callP1 Tryd.hb73 rfl fun w h => by
     have q := joinB b26 [(b19, [pf, of8 pl]), (b22, numK 8 pa.toNat), (b25, numK 8 pb.toNat)] w ⟨h.seenV, fun q hq => by
     simp only [List.mem_cons, List.not_mem_nil, or_false] at hq
     rcases hq with rfl | rfl | rfl <;> exact Seen.re8 h.seenV⟩ (by rw [flatK_3]; simp [numK_len])
     rw [flatK_3] at q
     exact q) rfl (fun _ => (fun w h => .inr (h.sub SubC.h SubC.h))) (fun b27 p27 => ?_)
   refine wpd_p 16 rfl (by kernel_rfl) trivial (q_pure rfl) rfl (fun w h => .inr (h.sub SubC.h SubC.h)) ?_
   refine wpd_done (by kernel_rfl) ?_
   refine ex_then ?_
   refine wpc_seq ?_
   refine wpc_region ?_
   refine wpl_q (q_field Tryd.underlying29 rfl Tryd.ti27 rfl rfl _ rfl) rfl ?_
   refine wpl_q (q_ld Tryd.underlying27 rfl rfl rfl) rfl ?_
   refine wpl_q (q_lenW Tryd.underlying27 rfl (by first | assumption | exact SV.nil | exact SV.slv (by assumption) (by omega) (by omega) | exact arv_sv (by first | decide | (simp only [maxLen]; omega)))) rfl ?_
   refine wpl_q (q_pure rfl) rfl ?_
   refine wpl_nil ?_
   refine ex_then ?_
   refine wpc_block ?_
   refine wpc_loopc (ι := { x : Nat × Value × World × List Nat × Ent // (x.1 ≤ hs.length) ∧ (SV x.2.1 (restF ⟨pf, pa, pb, pl, hv, hs⟩ x.1).length) ∧ (J x.2.2.2.1 ((msgs ⟨pf, pa, pb, pl, hv, hs⟩).take x.1) x.2.2.1) ∧ (∀ w, x.2.2.2.2.at w → Seen w.cell? x.2.1 (restF ⟨pf, pa, pb, pl, hv, hs⟩ x.1).length 1 (v8s (restF ⟨pf, pa, pb, pl, hv, hs⟩ x.1))) }) [(0, _), (29, _), (30, _)] (fun x Lc => (31, .int .i64 ((x.1.1 : Nat) : Int)) :: (4, x.1.2.1) :: Lc) (fun x => Mem x.1.2.2.1 x.1.2.2.2.1 [x.1.2.2.2.2] []) (fun x => hs.length - x.1.1) ⟨(0, b27, w, [pp], .row b27 (rest0 ⟨pf, pa, pb, pl, hv, hs⟩).length 5 1 (v8s (rest0 ⟨pf, pa, pb, pl, hv, hs⟩))), ⟨Nat.zero_le _, p27, hJ0, fun w h => restRow w h⟩⟩ (by repeat (first | exact trivial | refine ⟨rfl, ?_⟩)) ?_ ?_
   ·
    exact fun w h => (show Mem _ [pp] (.row b27 (rest0 ⟨pf, pa, pb, pl, hv, hs⟩).length 5 1 (v8s (rest0 ⟨pf, pa, pb, pl, hv, hs⟩)) :: _) _ w from h).sub (.keep .nil) .nil
   ·
    rintro ⟨⟨i, rv, wb, T, rE⟩, ⟨hi0, hi1, hi2, hi3⟩⟩; try dsimp only
    have hi0 : i ≤ hs.length := hi0; have hi1 : SV rv (restF ⟨pf, pa, pb, pl, hv, hs⟩ i).length := hi1; have hi2 : J T ((msgs ⟨pf, pa, pb, pl, hv, hs⟩).take i) wb := hi2; have hi3 : ∀ w, rE.at w → Seen w.cell? rv (restF ⟨pf, pa, pb, pl, hv, hs⟩ i).length 1 (v8s (restF ⟨pf, pa, pb, pl, hv, hs⟩ i)) := hi3
    have hsee : ∀ {M : List Ent} {S : List Fact} {w : World}, Mem wb T M S w → InvM ⟨pf, pa, pb, pl, hv, hs⟩ w := fun h => hinv _ _ _ (hst _ _ _ _ _ hi2 (h.sub .nil .nil) (nums_lt h))
    have hrl := restF_len ⟨pf, pa, pb, pl, hv, hs⟩ i
    refine wpc_seq ?_
    refine wpc_region ?_
    refine wpl_q (q_pure rfl) rfl ?_
    refine wpl_nil ?_
    refine ex_then ?_
    refine wpc_seq ?_
    refine wpc_cond rfl (fun hc32 => ?_) (fun hc32 => ?_)
    ·
     simp only [decide_eq_true_eq] at hc32
     have hil : i < hs.length := by omega
     have hsi : ((hs.getD i Hop.z)).seen wb.cell? := (hinv _ _ _ hi2).1.2 _ (getD_memO hil)
     haveI := hsi.sv.one
     have hlm := hlim _ (getD_memO hil)
     refine wpc_skip ?_
     refine ex_then ?_
     refine wpc_seq ?_
     refine wpc_block ?_
     refine wpc_seq ?_
     refine wpc_region ?_
     refine wpl_q (q_pure rfl) rfl ?_
     refine wpl_q (q_idxW Tryd.underlying27 Tryd.ti68 rfl rfl (by first | assumption | exact SV.nil | exact SV.slv (by assumption) (by omega) (by omega) | exact arv_sv (by first | decide | (simp only [maxLen]; omega))) (by first | omega | (simp only [maxLen]; omega) | (simp only [List.length_append, List.length_cons, List.length_nil, List.length_take, maxLen]; omega) | (simp only [List.length_append, List.length_cons, List.length_nil, List.length_take]; omega))) rfl ?_
     refine wpl_q (q_ldWN Tryd.underlying68 rfl Tryd.ti68 rfl (fun w h => (hsee h).1.1) (hs.getD i Hop.z).c (cat_part Hop.c_length Hop.z hil) (Hop.c_length _)) rfl ?_
     refine wpl_t (t_alloc Tryd.ti68 Hop.z.c rfl) rfl (fun b6 => ?_)
     refine wpl_q (q_pure rfl) rfl ?_
     refine wpl_t0 (t_stA Tryd.ti68 rfl rfl (by first | exact LenC.h | exact adL_len _ _ | (rw [v8s_length]; exact sumF_length _)) (by first | exact OneC.h | exact v8s_one _ | exact adL_one _ _) (by first | exact LenC.h | rfl)) (fun _ => ?_)
     refine wpl_nil ?_
     refine ex_then ?_
     refine wpc_seq ?_
     refine wpc_region ?_
     refine wpl_q (q_ldN Tryd.underlying68 rfl Tryd.ti68 rfl LenC.h) rfl ?_
     refine wpl_tp (t_callP1 Tryd.hb75 rfl fun w h => head (hs.getD i Hop.z) w hsi.sv) rfl (fun b37 p37 => ?_)
     refine wpl_q (q_pure rfl) rfl ?_
     refine wpl_tp (t_bsV [b37, rv] Tryd.underlying160 Tryd.ti32 rfl rfl (by decide) (by decide) rfl (by intro u hu; simp only [List.mem_cons, List.not_mem_nil, or_false] at hu; rcases hu with rfl | rfl <;> exact SV.one (by assumption))) rfl (fun b39 p39 => ?_)
     refine wpl_tp (t_callP1 Tryd.hb73 rfl fun w h => by
       have q := joinB b39 [(b37, (headB (hs.getD i Hop.z))), (rv, (restF ⟨pf, pa, pb, pl, hv, hs⟩ i))] w ⟨h.seenV, fun q hq => by
       simp only [List.mem_cons, List.not_mem_nil, or_false] at hq
       rcases hq with rfl | rfl
       · have q : Seen w.cell? b37 27 1 (v8s (headB (hs.getD i Hop.z))) := h.seen_row (by repeat (first | exact List.mem_cons_self .. | apply List.mem_cons_of_mem))
         exact Seen.re8 q
       · exact hi3 w (h.own rE (by repeat (first | exact List.mem_cons_self .. | apply List.mem_cons_of_mem)))⟩ (by rw [flatK_2, List.length_append, headB_len]; show 27 + (restF ⟨pf, pa, pb, pl, hv, hs⟩ i).length ≤ 100000; omega)
       rw [flatK_2] at q
       exact q) rfl (fun b40 p40 => ?_)
     refine wpl_q (q_pure rfl) rfl ?_
     refine wpl_nil ?_
     refine ex_then ?_
     refine wpc_seq ?_
     refine wpc_seq ?_
     refine wpc_region_y ?_
     refine wil_q (q_pure rfl) rfl ?_
     refine wil_q (q_pure rfl) rfl ?_
     refine wil_q (q_pure rfl) rfl ?_
     refine wil_yieldS ((i, msgB ⟨pf, pa, pb, pl, hv, hs⟩ i)) (b40) rfl rfl hst hy hi2 (msgs_pre (p := ⟨pf, pa, pb, pl, hv, hs⟩) hil) rfl (fun w h => h.rowAt (by repeat (first | exact List.mem_cons_self .. | apply List.mem_cons_of_mem))) rfl ?_ ?_
     ·
      intro u44 hu44
      have hsee2 : ∀ {M : List Ent} {S : List Fact} {w : World}, Mem u44 (nums (.row b40 ((headB (hs.getD i Hop.z)) ++ (restF ⟨pf, pa, pb, pl, hv, hs⟩ i)).length 5 1 (v8s ((headB (hs.getD i Hop.z)) ++ (restF ⟨pf, pa, pb, pl, hv, hs⟩ i))) :: .row b39 2 32 1 [b37, rv] :: .row b37 27 5 1 (v8s (headB (hs.getD i Hop.z))) :: .blk b6 68 (hs.getD i Hop.z).c :: [rE])) M S w → InvM ⟨pf, pa, pb, pl, hv, hs⟩ w := fun h => hinv _ _ _ (hst _ _ _ _ _ hu44 (h.sub .nil .nil) (nums_lt h))
      refine wil_q (q_pure rfl) rfl ?_
      refine wil_nil ?_
      refine ex_then ?_
      refine wpc_cond_f rfl ?_
      refine wpc_skip ?_
      refine ex_then ?_
      refine wpc_seq ?_
      refine wpc_draw 18 (by kernel_rfl) (fun _ h => h.drew) ?_
      refine wpd_p 0 rfl (by kernel_rfl) trivial (q_pure rfl) rfl sk0 ?_
      refine wpd_p 1 rfl (by kernel_rfl) trivial (q_field Tryd.underlying68 rfl Tryd.ti66 rfl rfl _ rfl) rfl sk0 ?_
      refine wpd_p 2 rfl (by kernel_rfl) trivial (q_field Tryd.underlying66 rfl Tryd.ti3 rfl rfl _ rfl) rfl sk0 ?_
      refine wpd_q 3 rfl (by kernel_rfl) trivial (q_ld Tryd.underlying3 rfl rfl (Hop.c_ix _)) rfl (fun _ h => h) ?_
      refine wpd_p 4 rfl (by kernel_rfl) trivial (q64_conv Tryd.underlying3 Tryd.underlying22 rfl) rfl sk0 ?_
      refine wpd_p 6 rfl (by kernel_rfl) trivial (q_field Tryd.underlying68 rfl Tryd.ti66 rfl rfl _ rfl) rfl sk0 ?_
      refine wpd_p 7 rfl (by kernel_rfl) trivial (q_field Tryd.underlying66 rfl Tryd.ti64 rfl rfl _ rfl) rfl sk0 ?_
      refine wpd_q 8 rfl (by kernel_rfl) trivial (q_ld Tryd.underlying64 rfl rfl (Hop.c_cv _)) rfl (fun _ h => h) ?_
      refine wpd_p 10 rfl (by kernel_rfl) trivial (q_field Tryd.underlying68 rfl Tryd.ti66 rfl rfl _ rfl) rfl sk0 ?_
      refine wpd_p 11 rfl (by kernel_rfl) trivial (q_field Tryd.underlying66 rfl Tryd.ti64 rfl rfl _ rfl) rfl sk0 ?_
      refine wpd_q 12 rfl (by kernel_rfl) trivial (q_ld Tryd.underlying64 rfl rfl (Hop.c_pv _)) rfl (fun _ h => h) ?_
      refine wpd_two 5 17 (by kernel_rfl) ?_ ?_
      ·
       refine wpa_tp 5 rfl trivial (t_callP1 Tryd.hb74 rfl fun w h => wordB (of64 (hs.getD i Hop.z).ix) 4 w (by decide)) rfl (fun _ => (fun w h => .inr (h.sub SubC.h SubC.h))) (fun b51 p51 => ?_)
       refine wpd_two 9 17 (by kernel_rfl) ?_ ?_
       ·
        refine wpa_tp 9 rfl trivial (t_callP1 Tryd.hb77 rfl fun w h => shorts (hs.getD i Hop.z).cv (hs.getD i Hop.z).chs w ((hsee2 h).1.2 _ (getD_memO hil)).1 hsi.2.1 (by omega)) rfl (fun _ => (fun w h => .inr (h.sub SubC.h SubC.h))) (fun b55 p55 => ?_)
        refine wpd_two 13 17 (by kernel_rfl) ?_ ?_
        ·
         refine wpa_tp 13 rfl trivial (t_callP1 Tryd.hb77 rfl fun w h => shorts (hs.getD i Hop.z).pv (hs.getD i Hop.z).ps w ((hsee2 h).1.2 _ (getD_memO hil)).2.2.1 hsi.2.2.2 (by omega)) rfl (fun _ => (fun w h => .inr (h.sub SubC.h SubC.h))) (fun b59 p59 => ?_)
         refine wpd_two 14 17 (by kernel_rfl) ?_ ?_
         ·
          refine wpa_tp 14 rfl trivial (t_bsV [b40, b51, b55, b59] Tryd.underlying160 Tryd.ti32 rfl rfl (by decide) (by decide) rfl (by intro u hu; simp only [List.mem_cons, List.not_mem_nil, or_false] at hu; rcases hu with rfl | rfl | rfl | rfl <;> exact SV.one (by assumption))) rfl (fun _ => (fun w h => .inr (h.sub SubC.h SubC.h))) (fun b60 p60 => ?_)
          refine wpd_two 15 17 (by kernel_rfl) ?_ ?_
          ·
           refine wpa_tp 15 rfl trivial (t_callP1 Tryd.hb73 rfl fun w h => by
             have q := joinB b60 [(b40, ((headB (hs.getD i Hop.z)) ++ (restF ⟨pf, pa, pb, pl, hv, hs⟩ i))), (b51, numK 4 (of64 (hs.getD i Hop.z).ix).toNat), (b55, (hs.getD i Hop.z).chs.flatten), (b59, (hs.getD i Hop.z).ps.flatten)] w ⟨h.seenV, fun q hq => by
             simp only [List.mem_cons, List.not_mem_nil, or_false] at hq
             rcases hq with rfl | rfl | rfl | rfl
             · exact h.seen_row (by repeat (first | exact List.mem_cons_self .. | apply List.mem_cons_of_mem))
             · have q : Seen w.cell? b51 4 1 (v8s (numK 4 (of64 (hs.getD i Hop.z).ix).toNat)) := h.seen_row (by repeat (first | exact List.mem_cons_self .. | apply List.mem_cons_of_mem))
               exact Seen.re8 q
             · have q : Seen w.cell? b55 ((hs.getD i Hop.z).chs.length * 16) 1 (v8s (hs.getD i Hop.z).chs.flatten) := h.seen_row (by repeat (first | exact List.mem_cons_self .. | apply List.mem_cons_of_mem))
               exact Seen.re8 q
             · have q : Seen w.cell? b59 ((hs.getD i Hop.z).ps.length * 16) 1 (v8s (hs.getD i Hop.z).ps.flatten) := h.seen_row (by repeat (first | exact List.mem_cons_self .. | apply List.mem_cons_of_mem))
               exact Seen.re8 q⟩ (by rw [flatK_4]; show (((headB (hs.getD i Hop.z)) ++ (restF ⟨pf, pa, pb, pl, hv, hs⟩ i)) ++ (tailH (hs.getD i Hop.z))).length ≤ 100000; rw [List.length_append, tailH_len hsi.2.1 hsi.2.2.2, List.length_append, headB_len]; omega)
             rw [flatK_4] at q
             exact q) rfl (fun _ => (fun w h => .inr (h.sub SubC.h SubC.h))) (fun b61 p61 => ?_)
           refine wpd_two 16 17 (by kernel_rfl) ?_ ?_
           ·
            refine wpa_t 16 rfl trivial (t_pur Tryd.hb76 rfl fun w h => sumW b61 (((headB (hs.getD i Hop.z)) ++ (restF ⟨pf, pa, pb, pl, hv, hs⟩ i)) ++ (tailH (hs.getD i Hop.z))) w h.seenV (hsee2 h).2) rfl (fun _ => (fun w h => .inr (h.sub SubC.h SubC.h))) (fun b62 => ?_)
            refine wpd_t 17 rfl (by kernel_rfl) trivial (t_alloc Tryd.ti113 (v8s (List.replicate 32 0)) rfl) rfl (fun _ => (fun w h => .inr (h.sub SubC.h SubC.h))) (fun b8 => ?_)
            refine wpd_t0 18 rfl (by kernel_rfl) trivial (t_stA Tryd.ti113 rfl rfl (by rw [v8s_length]; exact sumF_length _) (v8s_one _) (by rw [v8s_length, List.length_replicate])) (fun _ => skk rfl) (fun _ => ?_)
            refine wpd_done (by kernel_rfl) ?_
            refine ex_then ?_
            refine wpc_region ?_
            refine wpl_q (q_arAll Tryd.underlying113 Tryd.ti5 rfl rfl) rfl ?_
            refine wpl_q (q_pure rfl) rfl ?_
            refine wpl_nil ?_
            refine ex_block ?_
            refine ex_then ?_
            refine wpc_region ?_
            refine wpl_q (q_addN (b := 1) rfl rfl (by first | omega | (simp only [maxLen]; omega) | (simp only [List.length_append, List.length_cons, List.length_nil, List.length_take, maxLen]; omega) | (simp only [List.length_append, List.length_cons, List.length_nil, List.length_take]; omega))) rfl ?_
            refine wpl_q (q_pure rfl) rfl ?_
            refine wpl_nil ?_
            refine ex_again ⟨(i + 1, arv b8 32, u44, nums (.row b40 ((headB (hs.getD i Hop.z)) ++ (restF ⟨pf, pa, pb, pl, hv, hs⟩ i)).length 5 1 (v8s ((headB (hs.getD i Hop.z)) ++ (restF ⟨pf, pa, pb, pl, hv, hs⟩ i))) :: .row b39 2 32 1 [b37, rv] :: .row b37 27 5 1 (v8s (headB (hs.getD i Hop.z))) :: .blk b6 68 (hs.getD i Hop.z).c :: [rE]), .blk b8 113 (v8s (sumF (((headB (hs.getD i Hop.z)) ++ (restF ⟨pf, pa, pb, pl, hv, hs⟩ i)) ++ (tailH (hs.getD i Hop.z)))))), ⟨by show i + 1 ≤ hs.length; omega, by show SV (arv b8 32) (restF ⟨pf, pa, pb, pl, hv, hs⟩ (i + 1)).length; rw [restF, sumF_length]; exact arv_sv (by decide), by show J _ ((msgs ⟨pf, pa, pb, pl, hv, hs⟩).take (i + 1)) u44; rw [← msgs_take (p := ⟨pf, pa, pb, pl, hv, hs⟩) hil]; exact hu44, fun w h => by show Seen w.cell? _ (restF ⟨pf, pa, pb, pl, hv, hs⟩ (i + 1)).length 1 (v8s (restF ⟨pf, pa, pb, pl, hv, hs⟩ (i + 1))); rw [restF]; exact restBlk (sumF_length _) w h⟩⟩ ?_ ?_ ?_
            ·
             exact (by repeat (first | exact trivial | refine ⟨rfl, ?_⟩))
            ·
             exact fun w h => h.sel
            ·
             (show hs.length - (i + 1) < hs.length - i); omega
           ·
            refine wpa_t 17 rfl trivial (t_alloc Tryd.ti113 (v8s (List.replicate 32 0)) rfl) rfl (fun _ => (fun w h => .inr (h.sub SubC.h SubC.h))) (fun b8 => ?_)
            refine wpd_t 16 rfl (by kernel_rfl) trivial (t_pur Tryd.hb76 rfl fun w h => sumW b61 (((headB (hs.getD i Hop.z)) ++ (restF ⟨pf, pa, pb, pl, hv, hs⟩ i)) ++ (tailH (hs.getD i Hop.z))) w h.seenV (hsee2 h).2) rfl (fun _ => (fun w h => .inr (h.sub SubC.h SubC.h))) (fun b62 => ?_)
            refine wpd_t0 18 rfl (by kernel_rfl) trivial (t_stA Tryd.ti113 rfl rfl (by rw [v8s_length]; exact sumF_length _) (v8s_one _) (by rw [v8s_length, List.length_replicate])) (fun _ => skk rfl) (fun _ => ?_)
            refine wpd_done (by kernel_rfl) ?_
            refine ex_then ?_
            refine wpc_region ?_
            refine wpl_q (q_arAll Tryd.underlying113 Tryd.ti5 rfl rfl) rfl ?_
            refine wpl_q (q_pure rfl) rfl ?_
            refine wpl_nil ?_
            refine ex_block ?_
            refine ex_then ?_
            refine wpc_region ?_
            refine wpl_q (q_addN (b := 1) rfl rfl (by first | omega | (simp only [maxLen]; omega) | (simp only [List.length_append, List.length_cons, List.length_nil, List.length_take, maxLen]; omega) | (simp only [List.length_append, List.length_cons, List.length_nil, List.length_take]; omega))) rfl ?_
            refine wpl_q (q_pure rfl) rfl ?_
            refine wpl_nil ?_
            refine ex_again ⟨(i + 1, arv b8 32, u44, nums (.row b40 ((headB (hs.getD i Hop.z)) ++ (restF ⟨pf, pa, pb, pl, hv, hs⟩ i)).length 5 1 (v8s ((headB (hs.getD i Hop.z)) ++ (restF ⟨pf, pa, pb, pl, hv, hs⟩ i))) :: .row b39 2 32 1 [b37, rv] :: .row b37 27 5 1 (v8s (headB (hs.getD i Hop.z))) :: .blk b6 68 (hs.getD i Hop.z).c :: [rE]), .blk b8 113 (v8s (sumF (((headB (hs.getD i Hop.z)) ++ (restF ⟨pf, pa, pb, pl, hv, hs⟩ i)) ++ (tailH (hs.getD i Hop.z)))))), ⟨by show i + 1 ≤ hs.length; omega, by show SV (arv b8 32) (restF ⟨pf, pa, pb, pl, hv, hs⟩ (i + 1)).length; rw [restF, sumF_length]; exact arv_sv (by decide), by show J _ ((msgs ⟨pf, pa, pb, pl, hv, hs⟩).take (i + 1)) u44; rw [← msgs_take (p := ⟨pf, pa, pb, pl, hv, hs⟩) hil]; exact hu44, fun w h => by show Seen w.cell? _ (restF ⟨pf, pa, pb, pl, hv, hs⟩ (i + 1)).length 1 (v8s (restF ⟨pf, pa, pb, pl, hv, hs⟩ (i + 1))); rw [restF]; exact restBlk (sumF_length _) w h⟩⟩ ?_ ?_ ?_
            ·
             exact (by repeat (first | exact trivial | refine ⟨rfl, ?_⟩))
            ·
             exact fun w h => h.sel
            ·
             (show hs.length - (i + 1) < hs.length - i); omega
          ·
           refine wpa_t 17 rfl trivial (t_alloc Tryd.ti113 (v8s (List.replicate 32 0)) rfl) rfl (fun _ => (fun w h => .inr (h.sub SubC.h SubC.h))) (fun b8 => ?_)
           refine wpd_tp 15 rfl (by kernel_rfl) trivial (t_callP1 Tryd.hb73 rfl fun w h => by
             have q := joinB b60 [(b40, ((headB (hs.getD i Hop.z)) ++ (restF ⟨pf, pa, pb, pl, hv, hs⟩ i))), (b51, numK 4 (of64 (hs.getD i Hop.z).ix).toNat), (b55, (hs.getD i Hop.z).chs.flatten), (b59, (hs.getD i Hop.z).ps.flatten)] w ⟨h.seenV, fun q hq => by
             simp only [List.mem_cons, List.not_mem_nil, or_false] at hq
             rcases hq with rfl | rfl | rfl | rfl
             · exact h.seen_row (by repeat (first | exact List.mem_cons_self .. | apply List.mem_cons_of_mem))
             · have q : Seen w.cell? b51 4 1 (v8s (numK 4 (of64 (hs.getD i Hop.z).ix).toNat)) := h.seen_row (by repeat (first | exact List.mem_cons_self .. | apply List.mem_cons_of_mem))
               exact Seen.re8 q
             · have q : Seen w.cell? b55 ((hs.getD i Hop.z).chs.length * 16) 1 (v8s (hs.getD i Hop.z).chs.flatten) := h.seen_row (by repeat (first | exact List.mem_cons_self .. | apply List.mem_cons_of_mem))
               exact Seen.re8 q
             · have q : Seen w.cell? b59 ((hs.getD i Hop.z).ps.length * 16) 1 (v8s (hs.getD i Hop.z).ps.flatten) := h.seen_row (by repeat (first | exact List.mem_cons_self .. | apply List.mem_cons_of_mem))
               exact Seen.re8 q⟩ (by rw [flatK_4]; show (((headB (hs.getD i Hop.z)) ++ (restF ⟨pf, pa, pb, pl, hv, hs⟩ i)) ++ (tailH (hs.getD i Hop.z))).length ≤ 100000; rw [List.length_append, tailH_len hsi.2.1 hsi.2.2.2, List.length_append, headB_len]; omega)
             rw [flatK_4] at q
             exact q) rfl (fun _ => (fun w h => .inr (h.sub SubC.h SubC.h))) (fun b61 p61 => ?_)
           refine wpd_t 16 rfl (by kernel_rfl) trivial (t_pur Tryd.hb76 rfl fun w h => sumW b61 (((headB (hs.getD i Hop.z)) ++ (restF ⟨pf, pa, pb, pl, hv, hs⟩ i)) ++ (tailH (hs.getD i Hop.z))) w h.seenV (hsee2 h).2) rfl (fun _ => (fun w h => .inr (h.sub SubC.h SubC.h))) (fun b62 => ?_)
           refine wpd_t0 18 rfl (by kernel_rfl) trivial (t_stA Tryd.ti113 rfl rfl (by rw [v8s_length]; exact sumF_length _) (v8s_one _) (by rw [v8s_length, List.length_replicate])) (fun _ => skk rfl) (fun _ => ?_)
           refine wpd_done (by kernel_rfl) ?_
           refine ex_then ?_
           refine wpc_region ?_
           refine wpl_q (q_arAll Tryd.underlying113 Tryd.ti5 rfl rfl) rfl ?_
           refine wpl_q (q_pure rfl) rfl ?_
           refine wpl_nil ?_
           refine ex_block ?_
           refine ex_then ?_
           refine wpc_region ?_
           refine wpl_q (q_addN (b := 1) rfl rfl (by first | omega | (simp only [maxLen]; omega) | (simp only [List.length_append, List.length_cons, List.length_nil, List.length_take, maxLen]; omega) | (simp only [List.length_append, List.length_cons, List.length_nil, List.length_take]; omega))) rfl ?_
           refine wpl_q (q_pure rfl) rfl ?_
           refine wpl_nil ?_
           refine ex_again ⟨(i + 1, arv b8 32, u44, nums (.row b40 ((headB (hs.getD i Hop.z)) ++ (restF ⟨pf, pa, pb, pl, hv, hs⟩ i)).length 5 1 (v8s ((headB (hs.getD i Hop.z)) ++ (restF ⟨pf, pa, pb, pl, hv, hs⟩ i))) :: .row b39 2 32 1 [b37, rv] :: .row b37 27 5 1 (v8s (headB (hs.getD i Hop.z))) :: .blk b6 68 (hs.getD i Hop.z).c :: [rE]), .blk b8 113 (v8s (sumF (((headB (hs.getD i Hop.z)) ++ (restF ⟨pf, pa, pb, pl, hv, hs⟩ i)) ++ (tailH (hs.getD i Hop.z)))))), ⟨by show i + 1 ≤ hs.length; omega, by show SV (arv b8 32) (restF ⟨pf, pa, pb, pl, hv, hs⟩ (i + 1)).length; rw [restF, sumF_length]; exact arv_sv (by decide), by show J _ ((msgs ⟨pf, pa, pb, pl, hv, hs⟩).take (i + 1)) u44; rw [← msgs_take (p := ⟨pf, pa, pb, pl, hv, hs⟩) hil]; exact hu44, fun w h => by show Seen w.cell? _ (restF ⟨pf, pa, pb, pl, hv, hs⟩ (i + 1)).length 1 (v8s (restF ⟨pf, pa, pb, pl, hv, hs⟩ (i + 1))); rw [restF]; exact restBlk (sumF_length _) w h⟩⟩ ?_ ?_ ?_
           ·
            exact (by repeat (first | exact trivial | refine ⟨rfl, ?_⟩))
           ·
            exact fun w h => h.sel
           ·
            (show hs.length - (i + 1) < hs.length - i); omega
         ·
          refine wpa_t 17 rfl trivial (t_alloc Tryd.ti113 (v8s (List.replicate 32 0)) rfl) rfl (fun _ => (fun w h => .inr (h.sub SubC.h SubC.h))) (fun b8 => ?_)
          refine wpd_tp 14 rfl (by kernel_rfl) trivial (t_bsV [b40, b51, b55, b59] Tryd.underlying160 Tryd.ti32 rfl rfl (by decide) (by decide) rfl (by intro u hu; simp only [List.mem_cons, List.not_mem_nil, or_false] at hu; rcases hu with rfl | rfl | rfl | rfl <;> exact SV.one (by assumption))) rfl (fun _ => (fun w h => .inr (h.sub SubC.h SubC.h))) (fun b60 p60 => ?_)
          refine wpd_tp 15 rfl (by kernel_rfl) trivial (t_callP1 Tryd.hb73 rfl fun w h => by
            have q := joinB b60 [(b40, ((headB (hs.getD i Hop.z)) ++ (restF ⟨pf, pa, pb, pl, hv, hs⟩ i))), (b51, numK 4 (of64 (hs.getD i Hop.z).ix).toNat), (b55, (hs.getD i Hop.z).chs.flatten), (b59, (hs.getD i Hop.z).ps.flatten)] w ⟨h.seenV, fun q hq => by
            simp only [List.mem_cons, List.not_mem_nil, or_false] at hq
            rcases hq with rfl | rfl | rfl | rfl
            · exact h.seen_row (by repeat (first | exact List.mem_cons_self .. | apply List.mem_cons_of_mem))
            · have q : Seen w.cell? b51 4 1 (v8s (numK 4 (of64 (hs.getD i Hop.z).ix).toNat)) := h.seen_row (by repeat (first | exact List.mem_cons_self .. | apply List.mem_cons_of_mem))
              exact Seen.re8 q
            · have q : Seen w.cell? b55 ((hs.getD i Hop.z).chs.length * 16) 1 (v8s (hs.getD i Hop.z).chs.flatten) := h.seen_row (by repeat (first | exact List.mem_cons_self .. | apply List.mem_cons_of_mem))
              exact Seen.re8 q
            · have q : Seen w.cell? b59 ((hs.getD i Hop.z).ps.length * 16) 1 (v8s (hs.getD i Hop.z).ps.flatten) := h.seen_row (by repeat (first | exact List.mem_cons_self .. | apply List.mem_cons_of_mem))
              exact Seen.re8 q⟩ (by rw [flatK_4]; show (((headB (hs.getD i Hop.z)) ++ (restF ⟨pf, pa, pb, pl, hv, hs⟩ i)) ++ (tailH (hs.getD i Hop.z))).length ≤ 100000; rw [List.length_append, tailH_len hsi.2.1 hsi.2.2.2, List.length_append, headB_len]; omega)
            rw [flatK_4] at q
            exact q) rfl (fun _ => (fun w h => .inr (h.sub SubC.h SubC.h))) (fun b61 p61 => ?_)
          refine wpd_t 16 rfl (by kernel_rfl) trivial (t_pur Tryd.hb76 rfl fun w h => sumW b61 (((headB (hs.getD i Hop.z)) ++ (restF ⟨pf, pa, pb, pl, hv, hs⟩ i)) ++ (tailH (hs.getD i Hop.z))) w h.seenV (hsee2 h).2) rfl (fun _ => (fun w h => .inr (h.sub SubC.h SubC.h))) (fun b62 => ?_)
          refine wpd_t0 18 rfl (by kernel_rfl) trivial (t_stA Tryd.ti113 rfl rfl (by rw [v8s_length]; exact sumF_length _) (v8s_one _) (by rw [v8s_length, List.length_replicate])) (fun _ => skk rfl) (fun _ => ?_)
          refine wpd_done (by kernel_rfl) ?_
          refine ex_then ?_
          refine wpc_region ?_
          refine wpl_q (q_arAll Tryd.underlying113 Tryd.ti5 rfl rfl) rfl ?_
          refine wpl_q (q_pure rfl) rfl ?_
          refine wpl_nil ?_
          refine ex_block ?_
          refine ex_then ?_
          refine wpc_region ?_
          refine wpl_q (q_addN (b := 1) rfl rfl (by first | omega | (simp only [maxLen]; omega) | (simp only [List.length_append, List.length_cons, List.length_nil, List.length_take, maxLen]; omega) | (simp only [List.length_append, List.length_cons, List.length_nil, List.length_take]; omega))) rfl ?_
          refine wpl_q (q_pure rfl) rfl ?_
          refine wpl_nil ?_
          refine ex_again ⟨(i + 1, arv b8 32, u44, nums (.row b40 ((headB (hs.getD i Hop.z)) ++ (restF ⟨pf, pa, pb, pl, hv, hs⟩ i)).length 5 1 (v8s ((headB (hs.getD i Hop.z)) ++ (restF ⟨pf, pa, pb, pl, hv, hs⟩ i))) :: .row b39 2 32 1 [b37, rv] :: .row b37 27 5 1 (v8s (headB (hs.getD i Hop.z))) :: .blk b6 68 (hs.getD i Hop.z).c :: [rE]), .blk b8 113 (v8s (sumF (((headB (hs.getD i Hop.z)) ++ (restF ⟨pf, pa, pb, pl, hv, hs⟩ i)) ++ (tailH (hs.getD i Hop.z)))))), ⟨by show i + 1 ≤ hs.length; omega, by show SV (arv b8 32) (restF ⟨pf, pa, pb, pl, hv, hs⟩ (i + 1)).length; rw [restF, sumF_length]; exact arv_sv (by decide), by show J _ ((msgs ⟨pf, pa, pb, pl, hv, hs⟩).take (i + 1)) u44; rw [← msgs_take (p := ⟨pf, pa, pb, pl, hv, hs⟩) hil]; exact hu44, fun w h => by show Seen w.cell? _ (restF ⟨pf, pa, pb, pl, hv, hs⟩ (i + 1)).length 1 (v8s (restF ⟨pf, pa, pb, pl, hv, hs⟩ (i + 1))); rw [restF]; exact restBlk (sumF_length _) w h⟩⟩ ?_ ?_ ?_
          ·
           exact (by repeat (first | exact trivial | refine ⟨rfl, ?_⟩))
          ·
           exact fun w h => h.sel
          ·
           (show hs.length - (i + 1) < hs.length - i); omega
        ·
         refine wpa_t 17 rfl trivial (t_alloc Tryd.ti113 (v8s (List.replicate 32 0)) rfl) rfl (fun _ => (fun w h => .inr (h.sub SubC.h SubC.h))) (fun b8 => ?_)
         refine wpd_tp 13 rfl (by kernel_rfl) trivial (t_callP1 Tryd.hb77 rfl fun w h => shorts (hs.getD i Hop.z).pv (hs.getD i Hop.z).ps w ((hsee2 h).1.2 _ (getD_memO hil)).2.2.1 hsi.2.2.2 (by omega)) rfl (fun _ => (fun w h => .inr (h.sub SubC.h SubC.h))) (fun b59 p59 => ?_)
         refine wpd_tp 14 rfl (by kernel_rfl) trivial (t_bsV [b40, b51, b55, b59] Tryd.underlying160 Tryd.ti32 rfl rfl (by decide) (by decide) rfl (by intro u hu; simp only [List.mem_cons, List.not_mem_nil, or_false] at hu; rcases hu with rfl | rfl | rfl | rfl <;> exact SV.one (by assumption))) rfl (fun _ => (fun w h => .inr (h.sub SubC.h SubC.h))) (fun b60 p60 => ?_)
         refine wpd_tp 15 rfl (by kernel_rfl) trivial (t_callP1 Tryd.hb73 rfl fun w h => by
           have q := joinB b60 [(b40, ((headB (hs.getD i Hop.z)) ++ (restF ⟨pf, pa, pb, pl, hv, hs⟩ i))), (b51, numK 4 (of64 (hs.getD i Hop.z).ix).toNat), (b55, (hs.getD i Hop.z).chs.flatten), (b59, (hs.getD i Hop.z).ps.flatten)] w ⟨h.seenV, fun q hq => by
           simp only [List.mem_cons, List.not_mem_nil, or_false] at hq
           rcases hq with rfl | rfl | rfl | rfl
           · exact h.seen_row (by repeat (first | exact List.mem_cons_self .. | apply List.mem_cons_of_mem))
           · have q : Seen w.cell? b51 4 1 (v8s (numK 4 (of64 (hs.getD i Hop.z).ix).toNat)) := h.seen_row (by repeat (first | exact List.mem_cons_self .. | apply List.mem_cons_of_mem))
             exact Seen.re8 q
           · have q : Seen w.cell? b55 ((hs.getD i Hop.z).chs.length * 16) 1 (v8s (hs.getD i Hop.z).chs.flatten) := h.seen_row (by repeat (first | exact List.mem_cons_self .. | apply List.mem_cons_of_mem))
             exact Seen.re8 q
           · have q : Seen w.cell? b59 ((hs.getD i Hop.z).ps.length * 16) 1 (v8s (hs.getD i Hop.z).ps.flatten) := h.seen_row (by repeat (first | exact List.mem_cons_self .. | apply List.mem_cons_of_mem))
             exact Seen.re8 q⟩ (by rw [flatK_4]; show (((headB (hs.getD i Hop.z)) ++ (restF ⟨pf, pa, pb, pl, hv, hs⟩ i)) ++ (tailH (hs.getD i Hop.z))).length ≤ 100000; rw [List.length_append, tailH_len hsi.2.1 hsi.2.2.2, List.length_append, headB_len]; omega)
           rw [flatK_4] at q
           exact q) rfl (fun _ => (fun w h => .inr (h.sub SubC.h SubC.h))) (fun b61 p61 => ?_)
         refine wpd_t 16 rfl (by kernel_rfl) trivial (t_pur Tryd.hb76 rfl fun w h => sumW b61 (((headB (hs.getD i Hop.z)) ++ (restF ⟨pf, pa, pb, pl, hv, hs⟩ i)) ++ (tailH (hs.getD i Hop.z))) w h.seenV (hsee2 h).2) rfl (fun _ => (fun w h => .inr (h.sub SubC.h SubC.h))) (fun b62 => ?_)
         refine wpd_t0 18 rfl (by kernel_rfl) trivial (t_stA Tryd.ti113 rfl rfl (by rw [v8s_length]; exact sumF_length _) (v8s_one _) (by rw [v8s_length, List.length_replicate])) (fun _ => skk rfl) (fun _ => ?_)
         refine wpd_done (by kernel_rfl) ?_
         refine ex_then ?_
         refine wpc_region ?_
         refine wpl_q (q_arAll Tryd.underlying113 Tryd.ti5 rfl rfl) rfl ?_
         refine wpl_q (q_pure rfl) rfl ?_
         refine wpl_nil ?_
         refine ex_block ?_
         refine ex_then ?_
         refine wpc_region ?_
         refine wpl_q (q_addN (b := 1) rfl rfl (by first | omega | (simp only [maxLen]; omega) | (simp only [List.length_append, List.length_cons, List.length_nil, List.length_take, maxLen]; omega) | (simp only [List.length_append, List.length_cons, List.length_nil, List.length_take]; omega))) rfl ?_
         refine wpl_q (q_pure rfl) rfl ?_
         refine wpl_nil ?_
         refine ex_again ⟨(i + 1, arv b8 32, u44, nums (.row b40 ((headB (hs.getD i Hop.z)) ++ (restF ⟨pf, pa, pb, pl, hv, hs⟩ i)).length 5 1 (v8s ((headB (hs.getD i Hop.z)) ++ (restF ⟨pf, pa, pb, pl, hv, hs⟩ i))) :: .row b39 2 32 1 [b37, rv] :: .row b37 27 5 1 (v8s (headB (hs.getD i Hop.z))) :: .blk b6 68 (hs.getD i Hop.z).c :: [rE]), .blk b8 113 (v8s (sumF (((headB (hs.getD i Hop.z)) ++ (restF ⟨pf, pa, pb, pl, hv, hs⟩ i)) ++ (tailH (hs.getD i Hop.z)))))), ⟨by show i + 1 ≤ hs.length; omega, by show SV (arv b8 32) (restF ⟨pf, pa, pb, pl, hv, hs⟩ (i + 1)).length; rw [restF, sumF_length]; exact arv_sv (by decide), by show J _ ((msgs ⟨pf, pa, pb, pl, hv, hs⟩).take (i + 1)) u44; rw [← msgs_take (p := ⟨pf, pa, pb, pl, hv, hs⟩) hil]; exact hu44, fun w h => by show Seen w.cell? _ (restF ⟨pf, pa, pb, pl, hv, hs⟩ (i + 1)).length 1 (v8s (restF ⟨pf, pa, pb, pl, hv, hs⟩ (i + 1))); rw [restF]; exact restBlk (sumF_length _) w h⟩⟩ ?_ ?_ ?_
         ·
          exact (by repeat (first | exact trivial | refine ⟨rfl, ?_⟩))
         ·
          exact fun w h => h.sel
         ·
          (show hs.length - (i + 1) < hs.length - i); omega
       ·
        refine wpa_t 17 rfl trivial (t_alloc Tryd.ti113 (v8s (List.replicate 32 0)) rfl) rfl (fun _ => (fun w h => .inr (h.sub SubC.h SubC.h))) (fun b8 => ?_)
        refine wpd_tp 9 rfl (by kernel_rfl) trivial (t_callP1 Tryd.hb77 rfl fun w h => shorts (hs.getD i Hop.z).cv (hs.getD i Hop.z).chs w ((hsee2 h).1.2 _ (getD_memO hil)).1 hsi.2.1 (by omega)) rfl (fun _ => (fun w h => .inr (h.sub SubC.h SubC.h))) (fun b55 p55 => ?_)
        refine wpd_tp 13 rfl (by kernel_rfl) trivial (t_callP1 Tryd.hb77 rfl fun w h => shorts (hs.getD i Hop.z).pv (hs.getD i Hop.z).ps w ((hsee2 h).1.2 _ (getD_memO hil)).2.2.1 hsi.2.2.2 (by omega)) rfl (fun _ => (fun w h => .inr (h.sub SubC.h SubC.h))) (fun b59 p59 => ?_)
        refine wpd_tp 14 rfl (by kernel_rfl) trivial (t_bsV [b40, b51, b55, b59] Tryd.underlying160 Tryd.ti32 rfl rfl (by decide) (by decide) rfl (by intro u hu; simp only [List.mem_cons, List.not_mem_nil, or_false] at hu; rcases hu with rfl | rfl | rfl | rfl <;> exact SV.one (by assumption))) rfl (fun _ => (fun w h => .inr (h.sub SubC.h SubC.h))) (fun b60 p60 => ?_)
        refine wpd_tp 15 rfl (by kernel_rfl) trivial (t_callP1 Tryd.hb73 rfl fun w h => by
          have q := joinB b60 [(b40, ((headB (hs.getD i Hop.z)) ++ (restF ⟨pf, pa, pb, pl, hv, hs⟩ i))), (b51, numK 4 (of64 (hs.getD i Hop.z).ix).toNat), (b55, (hs.getD i Hop.z).chs.flatten), (b59, (hs.getD i Hop.z).ps.flatten)] w ⟨h.seenV, fun q hq => by
          simp only [List.mem_cons, List.not_mem_nil, or_false] at hq
          rcases hq with rfl | rfl | rfl | rfl
          · exact h.seen_row (by repeat (first | exact List.mem_cons_self .. | apply List.mem_cons_of_mem))
          · have q : Seen w.cell? b51 4 1 (v8s (numK 4 (of64 (hs.getD i Hop.z).ix).toNat)) := h.seen_row (by repeat (first | exact List.mem_cons_self .. | apply List.mem_cons_of_mem))
            exact Seen.re8 q
          · have q : Seen w.cell? b55 ((hs.getD i Hop.z).chs.length * 16) 1 (v8s (hs.getD i Hop.z).chs.flatten) := h.seen_row (by repeat (first | exact List.mem_cons_self .. | apply List.mem_cons_of_mem))
            exact Seen.re8 q
          · have q : Seen w.cell? b59 ((hs.getD i Hop.z).ps.length * 16) 1 (v8s (hs.getD i Hop.z).ps.flatten) := h.seen_row (by repeat (first | exact List.mem_cons_self .. | apply List.mem_cons_of_mem))
            exact Seen.re8 q⟩ (by rw [flatK_4]; show (((headB (hs.getD i Hop.z)) ++ (restF ⟨pf, pa, pb, pl, hv, hs⟩ i)) ++ (tailH (hs.getD i Hop.z))).length ≤ 100000; rw [List.length_append, tailH_len hsi.2.1 hsi.2.2.2, List.length_append, headB_len]; omega)
          rw [flatK_4] at q
          exact q) rfl (fun _ => (fun w h => .inr (h.sub SubC.h SubC.h))) (fun b61 p61 => ?_)
        refine wpd_t 16 rfl (by kernel_rfl) trivial (t_pur Tryd.hb76 rfl fun w h => sumW b61 (((headB (hs.getD i Hop.z)) ++ (restF ⟨pf, pa, pb, pl, hv, hs⟩ i)) ++ (tailH (hs.getD i Hop.z))) w h.seenV (hsee2 h).2) rfl (fun _ => (fun w h => .inr (h.sub SubC.h SubC.h))) (fun b62 => ?_)
        refine wpd_t0 18 rfl (by kernel_rfl) trivial (t_stA Tryd.ti113 rfl rfl (by rw [v8s_length]; exact sumF_length _) (v8s_one _) (by rw [v8s_length, List.length_replicate])) (fun _ => skk rfl) (fun _ => ?_)
        refine wpd_done (by kernel_rfl) ?_
        refine ex_then ?_
        refine wpc_region ?_
        refine wpl_q (q_arAll Tryd.underlying113 Tryd.ti5 rfl rfl) rfl ?_
        refine wpl_q (q_pure rfl) rfl ?_
        refine wpl_nil ?_
        refine ex_block ?_
        refine ex_then ?_
        refine wpc_region ?_
        refine wpl_q (q_addN (b := 1) rfl rfl (by first | omega | (simp only [maxLen]; omega) | (simp only [List.length_append, List.length_cons, List.length_nil, List.length_take, maxLen]; omega) | (simp only [List.length_append, List.length_cons, List.length_nil, List.length_take]; omega))) rfl ?_
        refine wpl_q (q_pure rfl) rfl ?_
        refine wpl_nil ?_
        refine ex_again ⟨(i + 1, arv b8 32, u44, nums (.row b40 ((headB (hs.getD i Hop.z)) ++ (restF ⟨pf, pa, pb, pl, hv, hs⟩ i)).length 5 1 (v8s ((headB (hs.getD i Hop.z)) ++ (restF ⟨pf, pa, pb, pl, hv, hs⟩ i))) :: .row b39 2 32 1 [b37, rv] :: .row b37 27 5 1 (v8s (headB (hs.getD i Hop.z))) :: .blk b6 68 (hs.getD i Hop.z).c :: [rE]), .blk b8 113 (v8s (sumF (((headB (hs.getD i Hop.z)) ++ (restF ⟨pf, pa, pb, pl, hv, hs⟩ i)) ++ (tailH (hs.getD i Hop.z)))))), ⟨by show i + 1 ≤ hs.length; omega, by show SV (arv b8 32) (restF ⟨pf, pa, pb, pl, hv, hs⟩ (i + 1)).length; rw [restF, sumF_length]; exact arv_sv (by decide), by show J _ ((msgs ⟨pf, pa, pb, pl, hv, hs⟩).take (i + 1)) u44; rw [← msgs_take (p := ⟨pf, pa, pb, pl, hv, hs⟩) hil]; exact hu44, fun w h => by show Seen w.cell? _ (restF ⟨pf, pa, pb, pl, hv, hs⟩ (i + 1)).length 1 (v8s (restF ⟨pf, pa, pb, pl, hv, hs⟩ (i + 1))); rw [restF]; exact restBlk (sumF_length _) w h⟩⟩ ?_ ?_ ?_
        ·
         exact (by repeat (first | exact trivial | refine ⟨rfl, ?_⟩))
        ·
         exact fun w h => h.sel
        ·
         (show hs.length - (i + 1) < hs.length - i); omega
      ·
       refine wpa_t 17 rfl trivial (t_alloc Tryd.ti113 (v8s (List.replicate 32 0)) rfl) rfl (fun _ => (fun w h => .inr (h.sub SubC.h SubC.h))) (fun b8 => ?_)
       refine wpd_tp 5 rfl (by kernel_rfl) trivial (t_callP1 Tryd.hb74 rfl fun w h => wordB (of64 (hs.getD i Hop.z).ix) 4 w (by decide)) rfl (fun _ => (fun w h => .inr (h.sub SubC.h SubC.h))) (fun b51 p51 => ?_)
       refine wpd_tp 9 rfl (by kernel_rfl) trivial (t_callP1 Tryd.hb77 rfl fun w h => shorts (hs.getD i Hop.z).cv (hs.getD i Hop.z).chs w ((hsee2 h).1.2 _ (getD_memO hil)).1 hsi.2.1 (by omega)) rfl (fun _ => (fun w h => .inr (h.sub SubC.h SubC.h))) (fun b55 p55 => ?_)
       refine wpd_tp 13 rfl (by kernel_rfl) trivial (t_callP1 Tryd.hb77 rfl fun w h => shorts (hs.getD i Hop.z).pv (hs.getD i Hop.z).ps w ((hsee2 h).1.2 _ (getD_memO hil)).2.2.1 hsi.2.2.2 (by omega)) rfl (fun _ => (fun w h => .inr (h.sub SubC.h SubC.h))) (fun b59 p59 => ?_)
       refine wpd_tp 14 rfl (by kernel_rfl) trivial (t_bsV [b40, b51, b55, b59] Tryd.underlying160 Tryd.ti32 rfl rfl (by decide) (by decide) rfl (by intro u hu; simp only [List.mem_cons, List.not_mem_nil, or_false] at hu; rcases hu with rfl | rfl | rfl | rfl <;> exact SV.one (by assumption))) rfl (fun _ => (fun w h => .inr (h.sub SubC.h SubC.h))) (fun b60 p60 => ?_)
       refine wpd_tp 15 rfl (by kernel_rfl) trivial (t_callP1 Tryd.hb73 rfl fun w h => by
         have q := joinB b60 [(b40, ((headB (hs.getD i Hop.z)) ++ (restF ⟨pf, pa, pb, pl, hv, hs⟩ i))), (b51, numK 4 (of64 (hs.getD i Hop.z).ix).toNat), (b55, (hs.getD i Hop.z).chs.flatten), (b59, (hs.getD i Hop.z).ps.flatten)] w ⟨h.seenV, fun q hq => by
         simp only [List.mem_cons, List.not_mem_nil, or_false] at hq
         rcases hq with rfl | rfl | rfl | rfl
         · exact h.seen_row (by repeat (first | exact List.mem_cons_self .. | apply List.mem_cons_of_mem))
         · have q : Seen w.cell? b51 4 1 (v8s (numK 4 (of64 (hs.getD i Hop.z).ix).toNat)) := h.seen_row (by repeat (first | exact List.mem_cons_self .. | apply List.mem_cons_of_mem))
           exact Seen.re8 q
         · have q : Seen w.cell? b55 ((hs.getD i Hop.z).chs.length * 16) 1 (v8s (hs.getD i Hop.z).chs.flatten) := h.seen_row (by repeat (first | exact List.mem_cons_self .. | apply List.mem_cons_of_mem))
           exact Seen.re8 q
         · have q : Seen w.cell? b59 ((hs.getD i Hop.z).ps.length * 16) 1 (v8s (hs.getD i Hop.z).ps.flatten) := h.seen_row (by repeat (first | exact List.mem_cons_self .. | apply List.mem_cons_of_mem))
           exact Seen.re8 q⟩ (by rw [flatK_4]; show (((headB (hs.getD i Hop.z)) ++ (restF ⟨pf, pa, pb, pl, hv, hs⟩ i)) ++ (tailH (hs.getD i Hop.z))).length ≤ 100000; rw [List.length_append, tailH_len hsi.2.1 hsi.2.2.2, List.length_append, headB_len]; omega)
         rw [flatK_4] at q
         exact q) rfl (fun _ => (fun w h => .inr (h.sub SubC.h SubC.h))) (fun b61 p61 => ?_)
       refine wpd_t 16 rfl (by kernel_rfl) trivial (t_pur Tryd.hb76 rfl fun w h => sumW b61 (((headB (hs.getD i Hop.z)) ++ (restF ⟨pf, pa, pb, pl, hv, hs⟩ i)) ++ (tailH (hs.getD i Hop.z))) w h.seenV (hsee2 h).2) rfl (fun _ => (fun w h => .inr (h.sub SubC.h SubC.h))) (fun b62 => ?_)
       refine wpd_t0 18 rfl (by kernel_rfl) trivial (t_stA Tryd.ti113 rfl rfl (by rw [v8s_length]; exact sumF_length _) (v8s_one _) (by rw [v8s_length, List.length_replicate])) (fun _ => skk rfl) (fun _ => ?_)
       refine wpd_done (by kernel_rfl) ?_
       refine ex_then ?_
       refine wpc_region ?_
       refine wpl_q (q_arAll Tryd.underlying113 Tryd.ti5 rfl rfl) rfl ?_
       refine wpl_q (q_pure rfl) rfl ?_
       refine wpl_nil ?_
       refine ex_block ?_
       refine ex_then ?_
       refine wpc_region ?_
       refine wpl_q (q_addN (b := 1) rfl rfl (by first | omega | (simp only [maxLen]; omega) | (simp only [List.length_append, List.length_cons, List.length_nil, List.length_take, maxLen]; omega) | (simp only [List.length_append, List.length_cons, List.length_nil, List.length_take]; omega))) rfl ?_
       refine wpl_q (q_pure rfl) rfl ?_
       refine wpl_nil ?_
       refine ex_again ⟨(i + 1, arv b8 32, u44, nums (.row b40 ((headB (hs.getD i Hop.z)) ++ (restF ⟨pf, pa, pb, pl, hv, hs⟩ i)).length 5 1 (v8s ((headB (hs.getD i Hop.z)) ++ (restF ⟨pf, pa, pb, pl, hv, hs⟩ i))) :: .row b39 2 32 1 [b37, rv] :: .row b37 27 5 1 (v8s (headB (hs.getD i Hop.z))) :: .blk b6 68 (hs.getD i Hop.z).c :: [rE]), .blk b8 113 (v8s (sumF (((headB (hs.getD i Hop.z)) ++ (restF ⟨pf, pa, pb, pl, hv, hs⟩ i)) ++ (tailH (hs.getD i Hop.z)))))), ⟨by show i + 1 ≤ hs.length; omega, by show SV (arv b8 32) (restF ⟨pf, pa, pb, pl, hv, hs⟩ (i + 1)).length; rw [restF, sumF_length]; exact arv_sv (by decide), by show J _ ((msgs ⟨pf, pa, pb, pl, hv, hs⟩).take (i + 1)) u44; rw [← msgs_take (p := ⟨pf, pa, pb, pl, hv, hs⟩) hil]; exact hu44, fun w h => by show Seen w.cell? _ (restF ⟨pf, pa, pb, pl, hv, hs⟩ (i + 1)).length 1 (v8s (restF ⟨pf, pa, pb, pl, hv, hs⟩ (i + 1))); rw [restF]; exact restBlk (sumF_length _) w h⟩⟩ ?_ ?_ ?_
       ·
        exact (by repeat (first | exact trivial | refine ⟨rfl, ?_⟩))
       ·
        exact fun w h => h.sel
       ·
        (show hs.length - (i + 1) < hs.length - i); omega
     ·
      intro u44 hu44
      refine wil_q (q_pure rfl) rfl ?_
      refine wil_nil ?_
      refine ex_then ?_
      refine wpc_cond_t rfl ?_
      refine wpc_ret ?_
      refine ex_then_ret ?_
      refine ex_block_ret ?_
      refine ex_then_ret ?_
      refine ex_then_ret ?_
      refine ex_block_ret ?_
      refine ret0 (.inl rfl) rfl ?_
      exact fun w h => iter_stop hsk hu44 h
    ·
     simp only [decide_eq_false_iff_not] at hc32
     obtain rfl : i = hs.length := by omega
     rw [msgs_all ⟨pf, pa, pb, pl, hv, hs⟩] at hi2
     refine wpc_exit ?_
     refine ex_then_exit ?_
     refine ex_then_exit ?_
     refine ex_block_hit ?_
     refine ret0 (.inr rfl) rfl ?_
     exact fun w h => iter_done hst hi2 h

end Go.Proofs.YtjpfhkjmjnjggaaDoor

namespace Go.Proofs.YtjpfhkjmjnjggaaDoor
set_option linter.unusedSimpArgs false
set_option linter.unusedVariables false
open Go Go.PL Go.RowKit

theorem msgs_mem {p : Pth} {x : Nat × List UInt8} (h : x ∈ msgs p) : x.2 = msgB p x.1 ∧ x.1 < p.hs.length := by
  simp only [msgs, List.mem_map, List.mem_range] at h
  obtain ⟨i, hi, rfl⟩ := h
  exact ⟨rfl, hi⟩
theorem msgs_at {p : Pth} {j : Nat} (h : j < p.hs.length) : (j, msgB p j) ∈ msgs p := List.mem_map.2 ⟨j, List.mem_range.2 h, rfl⟩
theorem pre_mem {α : Type} {pre xs : List α} {x : α} (h : (pre ++ [x]) <+: xs) : x ∈ xs := h.subset (by simp)
abbrev SmP (p : Pth) : Prop := ∀ h ∈ p.hs, h.chs.length ≤ 100 ∧ h.ps.length ≤ 100
theorem msgs_it (p : Pth) (pp : Nat) (w : World) (hpp : w.heap[pp]? = some (.cells p.c.toArray 29 (0, 0))) (hlim : SmP p) : IterStop Tryd.prog 72 #[.pointer (some ⟨pp, 0, none⟩)] encM AtM (InvM p) (msgs p) [pp] w :=
  fun l J K hst hinv hsk hy hJ0 => messages1 l pp p J K w hst hinv hsk hy hJ0 hpp hlim

end Go.Proofs.YtjpfhkjmjnjggaaDoor

namespace Go.Proofs.YtjpfhkjmjnjggaaDoor
set_option linter.unusedSimpArgs false
set_option linter.unusedVariables false
open Go Go.PL Go.RowKit

theorem numA (v : Value) (xs ys : List UInt8) (z : UInt64) (k n : Nat) (w : World) (hrow : (Ent.row v n 5 1 (v8s xs)).at w) (hn : n = xs.length) (sv : SV v n) (hk : 1 ≤ k) (hk8 : k ≤ 8) (hxl : n ≤ 100000) (hz : numK k z.toNat = ys) :
    Calls Tryd.prog 56 [v, .int .u64 (z.toNat : Int), .int .i64 ((k : Nat) : Int)].toArray w (GivesR w (.row v n 5 1 (v8s xs)) (n + k) 5 1 (v8s (xs ++ ys))) := by
  subst hn hz
  exact number v xs z k w hrow sv hk hk8 hxl
theorem shA (v : Value) (xs : List UInt8) (cv : Value) (l : List (List UInt8)) (n : Nat) (w : World) (hrow : (Ent.row v n 5 1 (v8s xs)).at w) (hn : n = xs.length) (sv : SV v n) (hcv : Seen (rdO (nums [.row v n 5 1 (v8s xs)]) w) cv l.length 16 (v8s l.flatten)) (hll : ∀ x ∈ l, x.length = 16) (hlim : l.length ≤ 1000) (hxl : n ≤ 100000) :
    Calls Tryd.prog 57 [v, cv].toArray w (GivesR w (.row v n 5 1 (v8s xs)) (n + l.length * 16) 5 1 (v8s (xs ++ l.flatten))) := by
  subst hn
  exact refShorts v xs cv l w hrow sv hcv hll hlim hxl
theorem hz32 (x : UInt32) (k : Nat) : numK k (of64 ((x.toNat : Nat) : Int)).toNat = numK k x.toNat := by rw [of64_nat _ (by have := x.toNat_lt; omega)]
theorem num1 (n : Nat) : numK 1 n = [of8 ((n : Nat) : Int)] := by
  show [of8 ((n % 256 : Nat) : Int)] = _
  rw [of8_mod]
theorem hz8 (x : UInt8) : numK 1 (of64 ((x.toNat : Nat) : Int)).toNat = [x] := by
  rw [of64_nat _ (by have := x.toNat_lt; omega), num1]
  congr 1
  apply UInt8.toNat_inj.1
  have h1 := of8_toNat ((x.toNat : Nat) : Int)
  have := x.toNat_lt
  omega
theorem hzi (i : Int) : numK 1 (of64 i).toNat = [of8 i] := by
  rw [num1]
  congr 1
  apply UInt8.toNat_inj.1
  have h1 := of8_toNat (((of64 i).toNat : Nat) : Int)
  have h2 := of8_toNat i
  have h3 := of64_toNat i
  omega
theorem hcs_sig {l : List Hop} {i : Nat} (hi : i < l.length) : ((hcs l).drop (i * 24 + 21)).take 3 = (l.getD i Hop.z).sig := by
  have q := cat_part Hop.c_length Hop.z hi
  rw [← Hop.c_sig, ← q, List.drop_take, List.drop_drop, List.take_take]
  rfl
theorem msg0_eq (p : Pth) (h : Hop) (hh : p.hs.getD 0 Hop.z = h) : ((((((((numK 4 h.to.toNat ++ numK 4 h.sy.toNat) ++ [h.cnt]) ++ [h.fl]) ++ [h.root.1].flatten) ++ [of8 h.ht]) ++ [p.pf]) ++ [of8 p.pl]) ++ numK 8 p.pa.toNat) ++ numK 8 p.pb.toNat = msgB p 0 := by
  rw [msgB, restF, rest0, hh, headB]
  simp
theorem msgS_eq (p : Pth) (m : Nat) (h g : Hop) (hh : p.hs.getD (m + 1) Hop.z = h) (hg : p.hs.getD m Hop.z = g) : (((((numK 4 h.to.toNat ++ numK 4 h.sy.toNat) ++ [h.cnt]) ++ [h.fl]) ++ [h.root.1].flatten) ++ [of8 h.ht]) ++ (sumF (((msgB p m ++ numK 4 (of64 g.ix).toNat) ++ g.chs.flatten) ++ g.ps.flatten)).take 32 = msgB p (m + 1) := by
  subst hh hg
  rw [List.take_of_length_le (by rw [sumF_length]; exact Nat.le_refl _)]
  show _ = headB (p.hs.getD (m + 1) Hop.z) ++ sumF ((headB (p.hs.getD m Hop.z) ++ restF p m) ++ tailH (p.hs.getD m Hop.z))
  have e : (((msgB p m ++ numK 4 (of64 (p.hs.getD m Hop.z).ix).toNat) ++ (p.hs.getD m Hop.z).chs.flatten) ++ (p.hs.getD m Hop.z).ps.flatten) = (headB (p.hs.getD m Hop.z) ++ restF p m) ++ tailH (p.hs.getD m Hop.z) := by
    rw [tailH, msgB]; simp only [List.append_assoc]
  rw [e]
  generalize sumF ((headB (p.hs.getD m Hop.z) ++ restF p m) ++ tailH (p.hs.getD m Hop.z)) = u
  rw [headB]
  simp
theorem a42_len (h : Hop) : (((((numK 4 h.to.toNat ++ numK 4 h.sy.toNat) ++ [h.cnt]) ++ [h.fl]) ++ [h.root.1].flatten) ++ [of8 h.ht]).length = 27 := by simp [numK_len, h.root.2]
theorem take_getDU {l : List UInt8} {i : Nat} (h : i < l.length) : l.take (i + 1) = l.take i ++ [l.getD i 0] := by
  rw [List.take_add_one, List.getD_eq_getElem?_getD, List.getElem?_eq_getElem h]; rfl
theorem q_ldWFN {P : Program} {n : Cx} {R : World → Prop} {L : Slots} {t : TypeId} {x : Operand} {v : Value} {m s' j k : Nat} {xs : List Value} {d : TypeDesc} {z : Value} {sz by_ : Nat} (hu : P.underlying t = some d) (hd : isAggD d = true) (ht : TyI P t z sz by_) (hx : ev L x = some (.pointer (some (((sa v).add j).add k))))
    (hs : ∀ w, R w → Seen w.cell? v m s' xs) (cs : List Value) (hc : (xs.drop (j + k)).take sz = cs) (hl : cs.length = sz) : QOp P n R L (.load t x) (.agg cs.toArray) :=
  q_ldWN hu hd ht (by rw [addr_add_add] at hx; exact hx) hs cs hc hl
instance lenC_sig {h : Hop} : LenC h.sig 3 := ⟨rfl⟩
theorem Hop.sv.sigOne {h : Hop} (hs : h.sv) : OneC h.sig := OneC.cons rfl (OneC.cons (SV.one hs.1) (OneC.cons (SV.one hs.2) oneC_nil))
instance oneC_sigz : OneC Hop.z.sig := Hop.sv.sigOne ⟨SV.nil, SV.nil⟩
theorem s16l (r : S16) : r.val.length = 16 := r.2
theorem seen_rowO {w0 w : World} {Ln : List Nat} {M : List Ent} {S : List Fact} (h : Mem w0 Ln M S w) {v : Value} {m : Nat} {e : TypeId} {sz : Nat} {xs : List Value} (hm : Ent.row v m e sz xs ∈ M) {f : Ent} (hap : ∀ k, (Ent.row v m e sz xs).num = some k → f.num ≠ some k) : Seen (rdO (nums [f]) w) v m sz xs := by
  have h2 := (h.own _ hm : w.ownsRow 0 e sz v m xs)
  refine ⟨h2.1, ?_⟩
  rcases h.row_form hm with ⟨rfl, rfl, rfl⟩ | ⟨g, cap, rfl, h3, h4⟩
  · exact ⟨none, 0, rfl, Nat.le_refl _, Nat.zero_le _, .inl ⟨rfl, rfl⟩⟩
  · refine ⟨_, _, rfl, h3, h4, .inr ⟨_, rfl, fun j u hj => ?_⟩⟩
    unfold rdO
    rw [if_neg]
    · exact h2.cells rfl j u hj
    · intro hb
      obtain ⟨f', hf, hn⟩ := mem_nums.1 hb
      rw [List.mem_singleton] at hf
      subst hf
      exact hap g rfl (by rw [hn]; congr 1; unfold Addr.add; split <;> rfl)

end Go.Proofs.YtjpfhkjmjnjggaaDoor

namespace Go.Proofs.YtjpfhkjmjnjggaaDoor
set_option linter.unusedSimpArgs false
set_option linter.unusedVariables false
open Go Go.PL Go.RowKit
set_option maxRecDepth 100000 in
theorem refMessage_step (p : Pth) (j : Nat) (w : World) (hp : p.seen w.cell?) (hj : j < p.hs.length) (hlim : SmP p) (ih : ∀ m, m + 1 = j → ∀ w, p.seen w.cell? → Calls Tryd.prog 39 [.agg p.c.toArray, .int .i64 ((m : Nat) : Int)].toArray w (GivesP w (fun v => SV v (msgB p m).length) (fun v => v) (fun v => [.row v (msgB p m).length 5 1 (v8s (msgB p m))]) (fun _ => []))) :
    Calls Tryd.prog 39 [.agg p.c.toArray, .int .i64 ((j : Nat) : Int)].toArray w (GivesP w (fun v => SV v (msgB p j).length) (fun v => v) (fun v => [.row v (msgB p j).length 5 1 (v8s (msgB p j))]) (fun _ => [])) := by
  obtain ⟨pf, pa, pb, pl, hv, hs⟩ := p
  have hh : Seen w.cell? hv hs.length 24 (hcs hs) := hp.1
  have svh := hh.sv
  have lh := svh.le
  simp only [maxLen] at lh
  refine enter (m := 101) (R := Mem w [] [] []) Tryd.func39 rfl rfl (Nat.le_of_ble_eq_true rfl) (Mem.start w) ?_
  refine wpc_seq ?_
  refine wpc_region ?_
  refine wpl_t (t_box rfl [.int .u8 (pf.toNat : Int), .int .u64 (pa.toNat : Int), .int .u64 (pb.toNat : Int), .int .i64 pl, hv] rfl) rfl (fun b2 => ?_)
  refine wpl_q (q_pure rfl) rfl ?_
  refine wpl_nil ?_
  refine ex_then ?_
  refine wpc_seq ?_
  have hsj := hp.2 _ (getD_memO hj)
  haveI := hsj.sv.one
  refine wpc_region ?_
  refine wpl_q (q_field Tryd.underlying29 rfl Tryd.ti27 rfl rfl _ rfl) rfl ?_
  refine wpl_q (q_ld Tryd.underlying27 rfl rfl rfl) rfl ?_
  refine wpl_q (q_pure rfl) rfl ?_
  refine wpl_q (q_idxW Tryd.underlying27 Tryd.ti68 rfl rfl (by first | assumption | exact SV.nil | exact SV.slv (by assumption) (by omega) (by omega) | exact arv_sv (by first | decide | (simp only [maxLen]; omega))) (by first | omega | (simp only [maxLen]; omega) | (simp only [List.length_append, List.length_cons, List.length_nil, List.length_take, maxLen]; omega) | (simp only [List.length_append, List.length_cons, List.length_nil, List.length_take]; omega))) rfl ?_
  refine wpl_q (q_ldWN Tryd.underlying68 rfl Tryd.ti68 rfl (fun w h => h.seen_old hh) (hs.getD j Hop.z).c (cat_part Hop.c_length Hop.z hj) (Hop.c_length _)) rfl ?_
  refine wpl_t (t_alloc Tryd.ti68 Hop.z.c rfl) rfl (fun b5 => ?_)
  refine wpl_t0 (t_stA Tryd.ti68 rfl rfl LenC.h OneC.h LenC.h) (fun _ => ?_)
  refine wpl_nil ?_
  refine ex_then ?_
  refine wpc_seq ?_
  refine wpc_draw 99 (by kernel_rfl) (fun _ h => h.drew) ?_
  refine wpd_p 0 rfl (by kernel_rfl) trivial (q_field Tryd.underlying68 rfl Tryd.ti49 rfl rfl _ rfl) rfl sk0 ?_
  refine wpd_q 1 rfl (by kernel_rfl) trivial (q_ld Tryd.underlying49 rfl rfl (Hop.c_to _)) rfl (fun _ h => h) ?_
  refine wpd_p 2 rfl (by kernel_rfl) trivial (q64_conv Tryd.underlying49 Tryd.underlying22 rfl) rfl sk0 ?_
  refine wpd_p 4 rfl (by kernel_rfl) trivial (q_field Tryd.underlying68 rfl Tryd.ti49 rfl rfl _ rfl) rfl sk0 ?_
  refine wpd_q 5 rfl (by kernel_rfl) trivial (q_ld Tryd.underlying49 rfl rfl (Hop.c_sy _)) rfl (fun _ h => h) ?_
  refine wpd_p 6 rfl (by kernel_rfl) trivial (q64_conv Tryd.underlying49 Tryd.underlying22 rfl) rfl sk0 ?_
  refine wpd_p 8 rfl (by kernel_rfl) trivial (q_field Tryd.underlying68 rfl Tryd.ti5 rfl rfl _ rfl) rfl sk0 ?_
  refine wpd_q 9 rfl (by kernel_rfl) trivial (q_ld Tryd.underlying5 rfl rfl (Hop.c_cnt _)) rfl (fun _ h => h) ?_
  refine wpd_p 10 rfl (by kernel_rfl) trivial (q64_conv Tryd.underlying5 Tryd.underlying22 rfl) rfl sk0 ?_
  refine wpd_p 12 rfl (by kernel_rfl) trivial (q_field Tryd.underlying68 rfl Tryd.ti5 rfl rfl _ rfl) rfl sk0 ?_
  refine wpd_q 13 rfl (by kernel_rfl) trivial (q_ld Tryd.underlying5 rfl rfl (Hop.c_fl _)) rfl (fun _ h => h) ?_
  refine wpd_p 14 rfl (by kernel_rfl) trivial (q64_conv Tryd.underlying5 Tryd.underlying22 rfl) rfl sk0 ?_
  refine wpd_tp 3 rfl (by kernel_rfl) trivial (t_callR0 (m' := 0 + 4) (ys := v8s ([] ++ (numK 4 (hs.getD j Hop.z).to.toNat))) 5 1 Tryd.hb56 rfl fun w h hr => numA _ [] (numK 4 (hs.getD j Hop.z).to.toNat) (of64 (((hs.getD j Hop.z).to.toNat : Nat) : Int)) 4 0 w hr rfl SV.nil (by decide) (by decide) (by decide) (hz32 _ 4)) rfl (fun _ => (fun w h => .inr (h.sub SubC.h SubC.h))) (fun b19 p19 => ?_)
  refine wpd_tp 7 rfl (by kernel_rfl) trivial (t_callR (m := 4) (m' := 4 + 4) (xs := v8s (numK 4 (hs.getD j Hop.z).to.toNat)) (ys := v8s ((numK 4 (hs.getD j Hop.z).to.toNat) ++ (numK 4 (hs.getD j Hop.z).sy.toNat))) Tryd.hb56 rfl fun w h hr => numA b19 (numK 4 (hs.getD j Hop.z).to.toNat) (numK 4 (hs.getD j Hop.z).sy.toNat) (of64 (((hs.getD j Hop.z).sy.toNat : Nat) : Int)) 4 (4) w hr (by simp [numK_len, s16l]) p19 (by decide) (by decide) (by omega) (hz32 _ 4)) rfl (fun _ => (fun w h => .inr (h.sub SubC.h SubC.h))) (fun b23 p23 => ?_)
  refine wpd_tp 11 rfl (by kernel_rfl) trivial (t_callR (m := 8) (m' := 8 + 1) (xs := v8s ((numK 4 (hs.getD j Hop.z).to.toNat) ++ numK 4 (hs.getD j Hop.z).sy.toNat)) (ys := v8s (((numK 4 (hs.getD j Hop.z).to.toNat) ++ numK 4 (hs.getD j Hop.z).sy.toNat) ++ [(hs.getD j Hop.z).cnt])) Tryd.hb56 rfl fun w h hr => numA b23 ((numK 4 (hs.getD j Hop.z).to.toNat) ++ numK 4 (hs.getD j Hop.z).sy.toNat) [(hs.getD j Hop.z).cnt] (of64 (((hs.getD j Hop.z).cnt.toNat : Nat) : Int)) 1 (8) w hr (by simp [numK_len, s16l]) p23 (by decide) (by decide) (by omega) (hz8 _)) rfl (fun _ => (fun w h => .inr (h.sub SubC.h SubC.h))) (fun b27 p27 => ?_)
  refine wpd_tp 15 rfl (by kernel_rfl) trivial (t_callR (m := 9) (m' := 9 + 1) (xs := v8s (((numK 4 (hs.getD j Hop.z).to.toNat) ++ numK 4 (hs.getD j Hop.z).sy.toNat) ++ [(hs.getD j Hop.z).cnt])) (ys := v8s ((((numK 4 (hs.getD j Hop.z).to.toNat) ++ numK 4 (hs.getD j Hop.z).sy.toNat) ++ [(hs.getD j Hop.z).cnt]) ++ [(hs.getD j Hop.z).fl])) Tryd.hb56 rfl fun w h hr => numA b27 (((numK 4 (hs.getD j Hop.z).to.toNat) ++ numK 4 (hs.getD j Hop.z).sy.toNat) ++ [(hs.getD j Hop.z).cnt]) [(hs.getD j Hop.z).fl] (of64 (((hs.getD j Hop.z).fl.toNat : Nat) : Int)) 1 (9) w hr (by simp [numK_len, s16l]) p27 (by decide) (by decide) (by omega) (hz8 _)) rfl (fun _ => (fun w h => .inr (h.sub SubC.h SubC.h))) (fun b31 p31 => ?_)
  refine wpd_p 16 rfl (by kernel_rfl) trivial (q_pure rfl) rfl (fun w h => .inr (h.sub SubC.h SubC.h)) ?_
  refine wpd_done (by kernel_rfl) ?_
  refine ex_then ?_
  refine wpc_seq ?_
  refine wpc_drawM [.blk b5 68 (hs.getD j Hop.z).c] 99 (by kernel_rfl) (by repeat (first | exact Sub.nil | exact Sub.refl _ | with_reducible refine Sub.keep ?_ | refine Sub.drop ?_)) ?_
  refine wpd_p 0 rfl (by kernel_rfl) trivial (q_pure rfl) rfl (fun w h => .inr (h.sub SubC.h SubC.h)) ?_
  refine wpd_p 1 rfl (by kernel_rfl) trivial (q_field Tryd.underlying68 rfl Tryd.ti63 rfl rfl _ rfl) rfl (fun w h => .inr (h.sub SubC.h SubC.h)) ?_
  refine wpd_p 2 rfl (by kernel_rfl) trivial (q_field Tryd.underlying63 rfl Tryd.ti61 rfl rfl _ rfl) rfl (fun w h => .inr (h.sub SubC.h SubC.h)) ?_
  refine wpd_q 3 rfl (by kernel_rfl) trivial (q_ldP Tryd.underlying61 rfl Tryd.ti61 rfl (v8s (hs.getD j Hop.z).root.1) (Hop.c_root _) (S16.len _)) rfl (fun w h => h.sub SubC.h SubC.h) ?_
  refine wpd_p 6 rfl (by kernel_rfl) trivial (q_field Tryd.underlying68 rfl Tryd.ti63 rfl rfl _ rfl) rfl (fun w h => .inr (h.sub SubC.h SubC.h)) ?_
  refine wpd_p 7 rfl (by kernel_rfl) trivial (q_field Tryd.underlying63 rfl Tryd.ti3 rfl rfl _ rfl) rfl (fun w h => .inr (h.sub SubC.h SubC.h)) ?_
  refine wpd_q 8 rfl (by kernel_rfl) trivial (q_ld Tryd.underlying3 rfl rfl (Hop.c_ht _)) rfl (fun w h => h.sub SubC.h SubC.h) ?_
  refine wpd_p 9 rfl (by kernel_rfl) trivial (q64_conv Tryd.underlying3 Tryd.underlying22 rfl) rfl (fun w h => .inr (h.sub SubC.h SubC.h)) ?_
  refine wpd_tp 4 rfl (by kernel_rfl) trivial (t_bsS [(hs.getD j Hop.z).root.1] Tryd.underlying64 Tryd.ti61 rfl (by decide) rfl (by decide) (by decide) rfl (all_one (hs.getD j Hop.z).root.2)) rfl (fun _ => (fun w h => .inr (h.sub SubC.h SubC.h))) (fun b36 p36 => ?_)
  refine wpd_tp 5 rfl (by kernel_rfl) trivial (t_callR (m := 10) (m' := 10 + [(hs.getD j Hop.z).root.1].length * 16) (xs := v8s ((((numK 4 (hs.getD j Hop.z).to.toNat) ++ numK 4 (hs.getD j Hop.z).sy.toNat) ++ [(hs.getD j Hop.z).cnt]) ++ [(hs.getD j Hop.z).fl])) (ys := v8s (((((numK 4 (hs.getD j Hop.z).to.toNat) ++ numK 4 (hs.getD j Hop.z).sy.toNat) ++ [(hs.getD j Hop.z).cnt]) ++ [(hs.getD j Hop.z).fl]) ++ [(hs.getD j Hop.z).root.1].flatten)) Tryd.hb57 rfl fun w h hr => shA b31 ((((numK 4 (hs.getD j Hop.z).to.toNat) ++ numK 4 (hs.getD j Hop.z).sy.toNat) ++ [(hs.getD j Hop.z).cnt]) ++ [(hs.getD j Hop.z).fl]) b36 [(hs.getD j Hop.z).root.1] (10) w hr (by simp [numK_len, s16l]) p31 (seen_rowO h (List.mem_cons_self ..) (fun k hk => (List.pairwise_cons.1 h.apart).1 _ (by simp) k hk)) (all_one (hs.getD j Hop.z).root.2) (show 1 ≤ 1000 by decide) (by omega)) rfl (fun _ => (fun w h => .inr (h.sub SubC.h SubC.h))) (fun b37 p37 => ?_)
  refine wpd_tp 10 rfl (by kernel_rfl) trivial (t_callR (m := 26) (m' := 26 + 1) (xs := v8s (((((numK 4 (hs.getD j Hop.z).to.toNat) ++ numK 4 (hs.getD j Hop.z).sy.toNat) ++ [(hs.getD j Hop.z).cnt]) ++ [(hs.getD j Hop.z).fl]) ++ [(hs.getD j Hop.z).root.1].flatten)) (ys := v8s ((((((numK 4 (hs.getD j Hop.z).to.toNat) ++ numK 4 (hs.getD j Hop.z).sy.toNat) ++ [(hs.getD j Hop.z).cnt]) ++ [(hs.getD j Hop.z).fl]) ++ [(hs.getD j Hop.z).root.1].flatten) ++ [of8 (hs.getD j Hop.z).ht])) Tryd.hb56 rfl fun w h hr => numA b37 (((((numK 4 (hs.getD j Hop.z).to.toNat) ++ numK 4 (hs.getD j Hop.z).sy.toNat) ++ [(hs.getD j Hop.z).cnt]) ++ [(hs.getD j Hop.z).fl]) ++ [(hs.getD j Hop.z).root.1].flatten) [of8 (hs.getD j Hop.z).ht] (of64 (hs.getD j Hop.z).ht) 1 (26) w hr (by simp [numK_len, s16l]) p37 (by decide) (by decide) (by omega) (hzi _)) rfl (fun _ => (fun w h => .inr (h.sub SubC.h SubC.h))) (fun b42 p42 => ?_)
  refine wpd_p 11 rfl (by kernel_rfl) trivial (q_pure rfl) rfl (fun w h => .inr (h.sub SubC.h SubC.h)) ?_
  refine wpd_done (by kernel_rfl) ?_
  refine ex_then ?_
  refine wpc_seq ?_
  refine wpc_seq ?_
  refine wpc_region ?_
  refine wpl_q (q_pure rfl) rfl ?_
  refine wpl_q (q_pure rfl) rfl ?_
  refine wpl_nil ?_
  refine ex_then ?_
  refine wpc_cond rfl (fun hc44 => ?_) (fun hc44 => ?_)
  ·
   obtain rfl : j = 0 := by simpa using hc44
   refine wpc_seq ?_
   refine wpc_drawM [.blk b2 29 [.int .u8 (pf.toNat : Int), .int .u64 (pa.toNat : Int), .int .u64 (pb.toNat : Int), .int .i64 pl, hv]] 99 (by kernel_rfl) (by repeat (first | exact Sub.nil | exact Sub.refl _ | with_reducible refine Sub.keep ?_ | refine Sub.drop ?_)) ?_
   refine wpd_p 0 rfl (by kernel_rfl) trivial (q_pure rfl) rfl (fun w h => .inr (h.sub SubC.h SubC.h)) ?_
   refine wpd_p 1 rfl (by kernel_rfl) trivial (q_field Tryd.underlying29 rfl Tryd.ti26 rfl rfl _ rfl) rfl (fun w h => .inr (h.sub SubC.h SubC.h)) ?_
   refine wpd_p 2 rfl (by kernel_rfl) trivial (q_field Tryd.underlying26 rfl Tryd.ti5 rfl rfl _ rfl) rfl (fun w h => .inr (h.sub SubC.h SubC.h)) ?_
   refine wpd_q 3 rfl (by kernel_rfl) trivial (q_ld Tryd.underlying5 rfl rfl (by first | exact v8s_get (by first | decide | omega | exact Nat.zero_lt_one | (simp; omega) | (simp; done) | (simp only [v8s_length, v32s_length, vis_length, vns_length, v64s_length]; omega)) | rfl)) rfl (fun w h => h.sub SubC.h SubC.h) ?_
   refine wpd_p 4 rfl (by kernel_rfl) trivial (q64_conv Tryd.underlying5 Tryd.underlying22 rfl) rfl (fun w h => .inr (h.sub SubC.h SubC.h)) ?_
   refine wpd_p 6 rfl (by kernel_rfl) trivial (q_field Tryd.underlying29 rfl Tryd.ti26 rfl rfl _ rfl) rfl (fun w h => .inr (h.sub SubC.h SubC.h)) ?_
   refine wpd_p 7 rfl (by kernel_rfl) trivial (q_field Tryd.underlying26 rfl Tryd.ti3 rfl rfl _ rfl) rfl (fun w h => .inr (h.sub SubC.h SubC.h)) ?_
   refine wpd_q 8 rfl (by kernel_rfl) trivial (q_ld Tryd.underlying3 rfl rfl (by first | exact vns_get (by first | decide | omega | exact Nat.zero_lt_one | (simp; omega) | (simp; done) | (simp only [v8s_length, v32s_length, vis_length, vns_length, v64s_length]; omega)) | rfl)) rfl (fun w h => h.sub SubC.h SubC.h) ?_
   refine wpd_p 9 rfl (by kernel_rfl) trivial (q64_conv Tryd.underlying3 Tryd.underlying22 rfl) rfl (fun w h => .inr (h.sub SubC.h SubC.h)) ?_
   refine wpd_tp 5 rfl (by kernel_rfl) trivial (t_callR (m := 27) (m' := 27 + 1) (xs := v8s ((((((numK 4 (hs.getD 0 Hop.z).to.toNat) ++ numK 4 (hs.getD 0 Hop.z).sy.toNat) ++ [(hs.getD 0 Hop.z).cnt]) ++ [(hs.getD 0 Hop.z).fl]) ++ [(hs.getD 0 Hop.z).root.1].flatten) ++ [of8 (hs.getD 0 Hop.z).ht])) (ys := v8s (((((((numK 4 (hs.getD 0 Hop.z).to.toNat) ++ numK 4 (hs.getD 0 Hop.z).sy.toNat) ++ [(hs.getD 0 Hop.z).cnt]) ++ [(hs.getD 0 Hop.z).fl]) ++ [(hs.getD 0 Hop.z).root.1].flatten) ++ [of8 (hs.getD 0 Hop.z).ht]) ++ [pf])) Tryd.hb56 rfl fun w h hr => numA b42 ((((((numK 4 (hs.getD 0 Hop.z).to.toNat) ++ numK 4 (hs.getD 0 Hop.z).sy.toNat) ++ [(hs.getD 0 Hop.z).cnt]) ++ [(hs.getD 0 Hop.z).fl]) ++ [(hs.getD 0 Hop.z).root.1].flatten) ++ [of8 (hs.getD 0 Hop.z).ht]) [pf] (of64 ((pf.toNat : Nat) : Int)) 1 (27) w hr (by simp [numK_len, s16l]) p42 (by decide) (by decide) (by omega) (hz8 _)) rfl (fun _ => (fun w h => .inr (h.sub SubC.h SubC.h))) (fun b50 p50 => ?_)
   refine wpd_tp 10 rfl (by kernel_rfl) trivial (t_callR (m := 28) (m' := 28 + 1) (xs := v8s (((((((numK 4 (hs.getD 0 Hop.z).to.toNat) ++ numK 4 (hs.getD 0 Hop.z).sy.toNat) ++ [(hs.getD 0 Hop.z).cnt]) ++ [(hs.getD 0 Hop.z).fl]) ++ [(hs.getD 0 Hop.z).root.1].flatten) ++ [of8 (hs.getD 0 Hop.z).ht]) ++ [pf])) (ys := v8s ((((((((numK 4 (hs.getD 0 Hop.z).to.toNat) ++ numK 4 (hs.getD 0 Hop.z).sy.toNat) ++ [(hs.getD 0 Hop.z).cnt]) ++ [(hs.getD 0 Hop.z).fl]) ++ [(hs.getD 0 Hop.z).root.1].flatten) ++ [of8 (hs.getD 0 Hop.z).ht]) ++ [pf]) ++ [of8 pl])) Tryd.hb56 rfl fun w h hr => numA b50 (((((((numK 4 (hs.getD 0 Hop.z).to.toNat) ++ numK 4 (hs.getD 0 Hop.z).sy.toNat) ++ [(hs.getD 0 Hop.z).cnt]) ++ [(hs.getD 0 Hop.z).fl]) ++ [(hs.getD 0 Hop.z).root.1].flatten) ++ [of8 (hs.getD 0 Hop.z).ht]) ++ [pf]) [of8 pl] (of64 pl) 1 (28) w hr (by simp [numK_len, s16l]) p50 (by decide) (by decide) (by omega) (hzi _)) rfl (fun _ => (fun w h => .inr (h.sub SubC.h SubC.h))) (fun b55 p55 => ?_)
   refine wpd_p 11 rfl (by kernel_rfl) trivial (q_pure rfl) rfl (fun w h => .inr (h.sub SubC.h SubC.h)) ?_
   refine wpd_done (by kernel_rfl) ?_
   refine ex_then ?_
   refine wpc_seq ?_
   refine wpc_drawM [.blk b2 29 [.int .u8 (pf.toNat : Int), .int .u64 (pa.toNat : Int), .int .u64 (pb.toNat : Int), .int .i64 pl, hv]] 99 (by kernel_rfl) (by repeat (first | exact Sub.nil | exact Sub.refl _ | with_reducible refine Sub.keep ?_ | refine Sub.drop ?_)) ?_
   refine wpd_p 0 rfl (by kernel_rfl) trivial (q_pure rfl) rfl (fun w h => .inr (h.sub SubC.h SubC.h)) ?_
   refine wpd_p 1 rfl (by kernel_rfl) trivial (q_field Tryd.underlying29 rfl Tryd.ti26 rfl rfl _ rfl) rfl (fun w h => .inr (h.sub SubC.h SubC.h)) ?_
   refine wpd_p 2 rfl (by kernel_rfl) trivial (q_field Tryd.underlying26 rfl Tryd.ti24 rfl rfl _ rfl) rfl (fun w h => .inr (h.sub SubC.h SubC.h)) ?_
   refine wpd_p 3 rfl (by kernel_rfl) trivial (q_field Tryd.underlying24 rfl Tryd.ti22 rfl rfl _ rfl) rfl (fun w h => .inr (h.sub SubC.h SubC.h)) ?_
   refine wpd_q 4 rfl (by kernel_rfl) trivial (q_ld Tryd.underlying22 rfl rfl (by first | exact v64s_get (by first | decide | omega | exact Nat.zero_lt_one | (simp; omega) | (simp; done) | (simp only [v8s_length, v32s_length, vis_length, vns_length, v64s_length]; omega)) | rfl)) rfl (fun w h => h.sub SubC.h SubC.h) ?_
   refine wpd_p 6 rfl (by kernel_rfl) trivial (q_field Tryd.underlying29 rfl Tryd.ti26 rfl rfl _ rfl) rfl (fun w h => .inr (h.sub SubC.h SubC.h)) ?_
   refine wpd_p 7 rfl (by kernel_rfl) trivial (q_field Tryd.underlying26 rfl Tryd.ti24 rfl rfl _ rfl) rfl (fun w h => .inr (h.sub SubC.h SubC.h)) ?_
   refine wpd_p 8 rfl (by kernel_rfl) trivial (q_field Tryd.underlying24 rfl Tryd.ti22 rfl rfl _ rfl) rfl (fun w h => .inr (h.sub SubC.h SubC.h)) ?_
   refine wpd_q 9 rfl (by kernel_rfl) trivial (q_ld Tryd.underlying22 rfl rfl (by first | exact v64s_get (by first | decide | omega | exact Nat.zero_lt_one | (simp; omega) | (simp; done) | (simp only [v8s_length, v32s_length, vis_length, vns_length, v64s_length]; omega)) | rfl)) rfl (fun w h => h.sub SubC.h SubC.h) ?_
   refine wpd_tp 5 rfl (by kernel_rfl) trivial (t_callR (m := 29) (m' := 29 + 8) (xs := v8s ((((((((numK 4 (hs.getD 0 Hop.z).to.toNat) ++ numK 4 (hs.getD 0 Hop.z).sy.toNat) ++ [(hs.getD 0 Hop.z).cnt]) ++ [(hs.getD 0 Hop.z).fl]) ++ [(hs.getD 0 Hop.z).root.1].flatten) ++ [of8 (hs.getD 0 Hop.z).ht]) ++ [pf]) ++ [of8 pl])) (ys := v8s (((((((((numK 4 (hs.getD 0 Hop.z).to.toNat) ++ numK 4 (hs.getD 0 Hop.z).sy.toNat) ++ [(hs.getD 0 Hop.z).cnt]) ++ [(hs.getD 0 Hop.z).fl]) ++ [(hs.getD 0 Hop.z).root.1].flatten) ++ [of8 (hs.getD 0 Hop.z).ht]) ++ [pf]) ++ [of8 pl]) ++ (numK 8 pa.toNat))) Tryd.hb56 rfl fun w h hr => numA b55 ((((((((numK 4 (hs.getD 0 Hop.z).to.toNat) ++ numK 4 (hs.getD 0 Hop.z).sy.toNat) ++ [(hs.getD 0 Hop.z).cnt]) ++ [(hs.getD 0 Hop.z).fl]) ++ [(hs.getD 0 Hop.z).root.1].flatten) ++ [of8 (hs.getD 0 Hop.z).ht]) ++ [pf]) ++ [of8 pl]) (numK 8 pa.toNat) pa 8 (29) w hr (by simp [numK_len, s16l]) p55 (by decide) (by decide) (by omega) rfl) rfl (fun _ => (fun w h => .inr (h.sub SubC.h SubC.h))) (fun b61 p61 => ?_)
   refine wpd_tp 10 rfl (by kernel_rfl) trivial (t_callR (m := 37) (m' := 37 + 8) (xs := v8s (((((((((numK 4 (hs.getD 0 Hop.z).to.toNat) ++ numK 4 (hs.getD 0 Hop.z).sy.toNat) ++ [(hs.getD 0 Hop.z).cnt]) ++ [(hs.getD 0 Hop.z).fl]) ++ [(hs.getD 0 Hop.z).root.1].flatten) ++ [of8 (hs.getD 0 Hop.z).ht]) ++ [pf]) ++ [of8 pl]) ++ numK 8 pa.toNat)) (ys := v8s ((((((((((numK 4 (hs.getD 0 Hop.z).to.toNat) ++ numK 4 (hs.getD 0 Hop.z).sy.toNat) ++ [(hs.getD 0 Hop.z).cnt]) ++ [(hs.getD 0 Hop.z).fl]) ++ [(hs.getD 0 Hop.z).root.1].flatten) ++ [of8 (hs.getD 0 Hop.z).ht]) ++ [pf]) ++ [of8 pl]) ++ numK 8 pa.toNat) ++ (numK 8 pb.toNat))) Tryd.hb56 rfl fun w h hr => numA b61 (((((((((numK 4 (hs.getD 0 Hop.z).to.toNat) ++ numK 4 (hs.getD 0 Hop.z).sy.toNat) ++ [(hs.getD 0 Hop.z).cnt]) ++ [(hs.getD 0 Hop.z).fl]) ++ [(hs.getD 0 Hop.z).root.1].flatten) ++ [of8 (hs.getD 0 Hop.z).ht]) ++ [pf]) ++ [of8 pl]) ++ numK 8 pa.toNat) (numK 8 pb.toNat) pb 8 (37) w hr (by simp [numK_len, s16l]) p61 (by decide) (by decide) (by omega) rfl) rfl (fun _ => (fun w h => .inr (h.sub SubC.h SubC.h))) (fun b66 p66 => ?_)
   refine wpd_p 11 rfl (by kernel_rfl) trivial (q_pure rfl) rfl (fun w h => .inr (h.sub SubC.h SubC.h)) ?_
   refine wpd_done (by kernel_rfl) ?_
   refine ex_then ?_
   refine wpc_ret ?_
   refine ex_then_ret ?_
   refine ret1 (.inl rfl) rfl rfl ?_
   have hfe := msg0_eq ⟨pf, pa, pb, pl, hv, hs⟩ _ rfl
   have hfl : 45 = (msgB ⟨pf, pa, pb, pl, hv, hs⟩ 0).length := by rw [← hfe]; simp [numK_len, s16l]
   exact fun w h => ⟨b66, hfl ▸ p66, rfl, h.below, by rw [← hfl, ← hfe]; exact h.made SubC.h .nil⟩
  ·
   have hj0 : ¬ j = 0 := by simpa using hc44
   obtain ⟨m, rfl⟩ : ∃ m, j = m + 1 := ⟨j - 1, by omega⟩
   have hjq : m + 1 < hs.length := hj
   have hjm : m < hs.length := by omega
   have hsm : ((hs.getD m Hop.z)).seen w.cell? := hp.2 _ (getD_memO hjm)
   have hlm : (hs.getD m Hop.z).chs.length ≤ 100 ∧ (hs.getD m Hop.z).ps.length ≤ 100 := hlim _ (getD_memO hjm)
   haveI := hsm.sv.sigOne
   have hml := msgB_len ⟨pf, pa, pb, pl, hv, hs⟩ m
   refine wpc_skip ?_
   refine ex_then ?_
   refine wpc_seq ?_
   refine wpc_region ?_
   refine wpl_q (q_field Tryd.underlying29 rfl Tryd.ti27 rfl rfl _ rfl) rfl ?_
   refine wpl_q (q_ld Tryd.underlying27 rfl rfl rfl) rfl ?_
   refine wpl_q (q_pure rfl) rfl ?_
   refine wpl_q (q_subN (b := 1) rfl rfl (by omega) (by first | omega | (simp only [maxLen]; omega) | (simp only [List.length_append, List.length_cons, List.length_nil, List.length_take, maxLen]; omega) | (simp only [List.length_append, List.length_cons, List.length_nil, List.length_take]; omega))) rfl ?_
   refine wpl_q (q_idxW Tryd.underlying27 Tryd.ti68 rfl rfl (by first | assumption | exact SV.nil | exact SV.slv (by assumption) (by omega) (by omega) | exact arv_sv (by first | decide | (simp only [maxLen]; omega))) (by first | omega | (simp only [maxLen]; omega) | (simp only [List.length_append, List.length_cons, List.length_nil, List.length_take, maxLen]; omega) | (simp only [List.length_append, List.length_cons, List.length_nil, List.length_take]; omega))) rfl ?_
   refine wpl_q (q_fieldPo 21 Tryd.underlying68 rfl Tryd.ti66 rfl rfl rfl) rfl ?_
   refine wpl_q (q_ldWFN Tryd.underlying66 rfl Tryd.ti66 rfl (fun w h => h.seen_old hh) (hs.getD m Hop.z).sig (hcs_sig hjm) rfl) rfl ?_
   refine wpl_t (t_alloc Tryd.ti66 Hop.z.sig rfl) rfl (fun b7 => ?_)
   refine wpl_t0 (t_stA Tryd.ti66 rfl rfl LenC.h OneC.h LenC.h) (fun _ => ?_)
   refine wpl_nil ?_
   refine ex_then ?_
   refine wpc_seq ?_
   refine wpc_draw 99 (by kernel_rfl) (fun _ h => h.drew) ?_
   refine wpd_q 0 rfl (by kernel_rfl) trivial (q_ldN Tryd.underlying29 rfl Tryd.ti29 rfl LenC.h) rfl (fun _ h => h) ?_
   refine wpd_p 1 rfl (by kernel_rfl) trivial (q_pure rfl) rfl sk0 ?_
   refine wpd_p 2 rfl (by kernel_rfl) trivial (q_subN (b := 1) rfl rfl (by omega) (by first | omega | (simp only [maxLen]; omega) | (simp only [List.length_append, List.length_cons, List.length_nil, List.length_take, maxLen]; omega) | (simp only [List.length_append, List.length_cons, List.length_nil, List.length_take]; omega))) rfl sk0 ?_
   refine wpd_p 4 rfl (by kernel_rfl) trivial (q_field Tryd.underlying66 rfl Tryd.ti3 rfl rfl _ rfl) rfl sk0 ?_
   refine wpd_q 5 rfl (by kernel_rfl) trivial (q_ld Tryd.underlying3 rfl rfl (by first | exact vns_get (by first | decide | omega | exact Nat.zero_lt_one | (simp; omega) | (simp; done) | (simp only [v8s_length, v32s_length, vis_length, vns_length, v64s_length]; omega)) | rfl)) rfl (fun _ h => h) ?_
   refine wpd_p 6 rfl (by kernel_rfl) trivial (q64_conv Tryd.underlying3 Tryd.underlying22 rfl) rfl sk0 ?_
   refine wpd_tp 3 rfl (by kernel_rfl) trivial (t_callP1 Tryd.hb39 rfl fun w h => ih m rfl w (hp.old h)) rfl (fun _ => (fun w h => .inr (h.sub SubC.h SubC.h))) (fun b77 p77 => ?_)
   refine wpd_tp 7 rfl (by kernel_rfl) trivial (t_callR (m := (msgB ⟨pf, pa, pb, pl, hv, hs⟩ m).length) (m' := (msgB ⟨pf, pa, pb, pl, hv, hs⟩ m).length + 4) (xs := v8s (msgB ⟨pf, pa, pb, pl, hv, hs⟩ m)) (ys := v8s ((msgB ⟨pf, pa, pb, pl, hv, hs⟩ m) ++ (numK 4 (of64 (hs.getD m Hop.z).ix).toNat))) Tryd.hb56 rfl fun w h hr => numA b77 (msgB ⟨pf, pa, pb, pl, hv, hs⟩ m) (numK 4 (of64 (hs.getD m Hop.z).ix).toNat) (of64 (hs.getD m Hop.z).ix) 4 ((msgB ⟨pf, pa, pb, pl, hv, hs⟩ m).length) w hr rfl p77 (by decide) (by decide) (by omega) rfl) rfl (fun _ => (fun w h => .inr (h.sub SubC.h SubC.h))) (fun b81 p81 => ?_)
   refine wpd_p 8 rfl (by kernel_rfl) trivial (q_pure rfl) rfl (fun w h => .inr (h.sub SubC.h SubC.h)) ?_
   refine wpd_done (by kernel_rfl) ?_
   refine ex_then ?_
   refine wpc_seq ?_
   refine wpc_drawM [.blk b7 66 (hs.getD m Hop.z).sig] 9 (by kernel_rfl) (by repeat (first | exact Sub.nil | exact Sub.refl _ | with_reducible refine Sub.keep ?_ | refine Sub.drop ?_)) ?_
   refine wpd_p 0 rfl (by kernel_rfl) trivial (q_pure rfl) rfl (fun w h => .inr (h.sub SubC.h SubC.h)) ?_
   refine wpd_p 1 rfl (by kernel_rfl) trivial (q_field Tryd.underlying66 rfl Tryd.ti64 rfl rfl _ rfl) rfl (fun w h => .inr (h.sub SubC.h SubC.h)) ?_
   refine wpd_q 2 rfl (by kernel_rfl) trivial (q_ld Tryd.underlying64 rfl rfl rfl) rfl (fun w h => h.sub SubC.h SubC.h) ?_
   refine wpd_p 4 rfl (by kernel_rfl) trivial (q_field Tryd.underlying66 rfl Tryd.ti64 rfl rfl _ rfl) rfl (fun w h => .inr (h.sub SubC.h SubC.h)) ?_
   refine wpd_q 5 rfl (by kernel_rfl) trivial (q_ld Tryd.underlying64 rfl rfl rfl) rfl (fun w h => h.sub SubC.h SubC.h) ?_
   refine wpd_two 3 8 (by kernel_rfl) ?_ ?_
   ·
    refine wpa_tp 3 rfl trivial (t_callR (m := (msgB ⟨pf, pa, pb, pl, hv, hs⟩ m).length + 4) (m' := (msgB ⟨pf, pa, pb, pl, hv, hs⟩ m).length + 4 + (hs.getD m Hop.z).chs.length * 16) (xs := v8s ((msgB ⟨pf, pa, pb, pl, hv, hs⟩ m) ++ numK 4 (of64 (hs.getD m Hop.z).ix).toNat)) (ys := v8s (((msgB ⟨pf, pa, pb, pl, hv, hs⟩ m) ++ numK 4 (of64 (hs.getD m Hop.z).ix).toNat) ++ (hs.getD m Hop.z).chs.flatten)) Tryd.hb57 rfl fun w h hr => shA b81 ((msgB ⟨pf, pa, pb, pl, hv, hs⟩ m) ++ numK 4 (of64 (hs.getD m Hop.z).ix).toNat) (hs.getD m Hop.z).cv (hs.getD m Hop.z).chs ((msgB ⟨pf, pa, pb, pl, hv, hs⟩ m).length + 4) w hr (by rw [List.length_append, numK_len]) p81 (hsm.1.mono (rdo_nil h (by simp))) hsm.2.1 (by omega) (by omega)) rfl (fun _ => (fun w h => .inr (h.sub SubC.h SubC.h))) (fun b85 p85 => ?_)
    refine wpd_two 6 8 (by kernel_rfl) ?_ ?_
    ·
     refine wpa_tp 6 rfl trivial (t_callR (m := (msgB ⟨pf, pa, pb, pl, hv, hs⟩ m).length + 4 + (hs.getD m Hop.z).chs.length * 16) (m' := (msgB ⟨pf, pa, pb, pl, hv, hs⟩ m).length + 4 + (hs.getD m Hop.z).chs.length * 16 + (hs.getD m Hop.z).ps.length * 16) (xs := v8s (((msgB ⟨pf, pa, pb, pl, hv, hs⟩ m) ++ numK 4 (of64 (hs.getD m Hop.z).ix).toNat) ++ (hs.getD m Hop.z).chs.flatten)) (ys := v8s ((((msgB ⟨pf, pa, pb, pl, hv, hs⟩ m) ++ numK 4 (of64 (hs.getD m Hop.z).ix).toNat) ++ (hs.getD m Hop.z).chs.flatten) ++ (hs.getD m Hop.z).ps.flatten)) Tryd.hb57 rfl fun w h hr => shA b85 (((msgB ⟨pf, pa, pb, pl, hv, hs⟩ m) ++ numK 4 (of64 (hs.getD m Hop.z).ix).toNat) ++ (hs.getD m Hop.z).chs.flatten) (hs.getD m Hop.z).pv (hs.getD m Hop.z).ps ((msgB ⟨pf, pa, pb, pl, hv, hs⟩ m).length + 4 + (hs.getD m Hop.z).chs.length * 16) w hr (by rw [List.length_append, List.length_append, numK_len, flat_len16 hsm.2.1]) p85 (hsm.2.2.1.mono (rdo_nil h (by simp))) hsm.2.2.2 (by omega) (by omega)) rfl (fun _ => (fun w h => .inr (h.sub SubC.h SubC.h))) (fun b88 p88 => ?_)
     refine wpd_two 7 8 (by kernel_rfl) ?_ ?_
     ·
      refine wpa_t 7 rfl trivial (t_pur Tryd.hb58 rfl fun w h => refSum b88 ((((msgB ⟨pf, pa, pb, pl, hv, hs⟩ m) ++ numK 4 (of64 (hs.getD m Hop.z).ix).toNat) ++ (hs.getD m Hop.z).chs.flatten) ++ (hs.getD m Hop.z).ps.flatten) w (Seen.re8 (show Seen w.cell? b88 ((msgB ⟨pf, pa, pb, pl, hv, hs⟩ m).length + 4 + (hs.getD m Hop.z).chs.length * 16 + (hs.getD m Hop.z).ps.length * 16) 1 (v8s ((((msgB ⟨pf, pa, pb, pl, hv, hs⟩ m) ++ numK 4 (of64 (hs.getD m Hop.z).ix).toNat) ++ (hs.getD m Hop.z).chs.flatten) ++ (hs.getD m Hop.z).ps.flatten)) from h.seen_row (by repeat (first | exact List.mem_cons_self .. | apply List.mem_cons_of_mem)))) (by rw [List.length_append, List.length_append, List.length_append, numK_len, flat_len16 hsm.2.1, flat_len16 hsm.2.2.2]; omega)) rfl (fun _ => (fun w h => .inr (h.sub SubC.h SubC.h))) (fun b89 => ?_)
      refine wpd_t 8 rfl (by kernel_rfl) trivial (t_alloc Tryd.ti113 (v8s (List.replicate 32 0)) rfl) rfl (fun _ => (fun w h => .inr (h.sub SubC.h SubC.h))) (fun b9 => ?_)
      refine wpd_t0 9 rfl (by kernel_rfl) trivial (t_stA Tryd.ti113 rfl rfl (by rw [v8s_length]; exact sumF_length _) (v8s_one _) (by rw [v8s_length, List.length_replicate])) (fun _ => skk rfl) (fun _ => ?_)
      refine wpd_done (by kernel_rfl) ?_
      refine ex_then ?_
      refine wpc_seq ?_
      refine wpc_seq ?_
      refine wpc_region ?_
      refine wpl_q (q_pure rfl) rfl ?_
      refine wpl_nil ?_
      refine ex_then ?_
      refine wpc_block ?_
      refine wpc_loopc (ι := { x : Nat × Value // (x.1 ≤ 32) ∧ (SV x.2 (27 + x.1)) }) [(9, _)] (fun x Lc => (10, .int .i64 ((x.1.1 : Nat) : Int)) :: (6, x.1.2) :: Lc) (fun x => Mem w [] [.row x.1.2 (27 + x.1.1) 5 1 (v8s (((((((numK 4 (hs.getD (m + 1) Hop.z).to.toNat) ++ numK 4 (hs.getD (m + 1) Hop.z).sy.toNat) ++ [(hs.getD (m + 1) Hop.z).cnt]) ++ [(hs.getD (m + 1) Hop.z).fl]) ++ [(hs.getD (m + 1) Hop.z).root.1].flatten) ++ [of8 (hs.getD (m + 1) Hop.z).ht]) ++ (sumF ((((msgB ⟨pf, pa, pb, pl, hv, hs⟩ m) ++ numK 4 (of64 (hs.getD m Hop.z).ix).toNat) ++ (hs.getD m Hop.z).chs.flatten) ++ (hs.getD m Hop.z).ps.flatten)).take x.1.1)), .blk b9 113 (v8s (sumF ((((msgB ⟨pf, pa, pb, pl, hv, hs⟩ m) ++ numK 4 (of64 (hs.getD m Hop.z).ix).toNat) ++ (hs.getD m Hop.z).chs.flatten) ++ (hs.getD m Hop.z).ps.flatten)))] []) (fun x => 32 - x.1.1) ⟨(0, b42), ⟨Nat.zero_le _, p42⟩⟩ (by repeat (first | exact trivial | refine ⟨rfl, ?_⟩)) ?_ ?_
      ·
       exact fun w h => by
         dsimp only
         rw [List.take_zero, List.append_nil]
         exact h.sel
      ·
       rintro ⟨⟨i, v6⟩, ⟨hi0, hi1⟩⟩; try dsimp only
       have hi0 : i ≤ 32 := hi0; have hi1 : SV v6 (27 + i) := hi1
       refine wpc_seq ?_
       refine wpc_seq ?_
       refine wpc_region ?_
       refine wpl_q (q_pure rfl) rfl ?_
       refine wpl_q (q_pure rfl) rfl ?_
       refine wpl_nil ?_
       refine ex_then ?_
       refine wpc_cond rfl (fun hc91 => ?_) (fun hc91 => ?_)
       ·
        simp only [decide_eq_true_eq] at hc91
        have hi32 : i < 32 := by omega
        have hsl := sumF_length ((((msgB ⟨pf, pa, pb, pl, hv, hs⟩ m) ++ numK 4 (of64 (hs.getD m Hop.z).ix).toNat) ++ (hs.getD m Hop.z).chs.flatten) ++ (hs.getD m Hop.z).ps.flatten)
        refine wpc_skip ?_
        refine ex_then ?_
        refine wpc_seq ?_
        refine wpc_block ?_
        refine wpc_region ?_
        refine wpl_q (q_pure rfl) rfl ?_
        refine wpl_q (q_pure rfl) rfl ?_
        refine wpl_q (q_idxA1 Tryd.underlying113 Tryd.ti5 rfl rfl (by omega)) rfl ?_
        refine wpl_q (q_ld Tryd.underlying5 rfl rfl (v8s_get (by rw [hsl]; exact hi32))) rfl ?_
        refine wpl_tp (t_bsV (v8s [_]) Tryd.underlying32 Tryd.ti5 rfl rfl (by decide) (by decide) rfl (v8s_one _)) rfl (fun b98 p98 => ?_)
        refine wpl_tp (t_apW Tryd.underlying32 Tryd.ti5 rfl (by decide) rfl rfl (fun w h => by first | exact h.seenV | exact h.seenA (by first | decide | (simp only [maxLen]; omega)) (by first | (with_reducible exact key_len _ _ (by (first | with_reducible assumption | exact L16.h))) | with_reducible rfl | (simp only [v8s_length, v32s_length, vis_length, vns_length, v64s_length, List.length_replicate]; first | done | with_reducible assumption | omega) | (rw [v8s_length]; (first | with_reducible assumption | exact L16.h)) | rfl) | exact h.seen_old (by assumption) | exact h.seen_oldL (by assumption) (by assumption) | exact h.seen_fact (by repeat (first | exact List.mem_cons_self .. | apply List.mem_cons_of_mem))) OneC.h (by first | omega | (simp only [maxLen]; omega) | (simp only [List.length_append, List.length_cons, List.length_nil, List.length_take, maxLen]; omega) | (simp only [List.length_append, List.length_cons, List.length_nil, List.length_take]; omega)) (by first | omega | (simp only [maxLen]; omega) | (simp only [List.length_append, List.length_cons, List.length_nil, List.length_take, maxLen]; omega) | (simp only [List.length_append, List.length_cons, List.length_nil, List.length_take]; omega)) (v8s (((((((numK 4 (hs.getD (m + 1) Hop.z).to.toNat) ++ numK 4 (hs.getD (m + 1) Hop.z).sy.toNat) ++ [(hs.getD (m + 1) Hop.z).cnt]) ++ [(hs.getD (m + 1) Hop.z).fl]) ++ [(hs.getD (m + 1) Hop.z).root.1].flatten) ++ [of8 (hs.getD (m + 1) Hop.z).ht]) ++ (sumF ((((msgB ⟨pf, pa, pb, pl, hv, hs⟩ m) ++ numK 4 (of64 (hs.getD m Hop.z).ix).toNat) ++ (hs.getD m Hop.z).chs.flatten) ++ (hs.getD m Hop.z).ps.flatten)).take (i + 1))) (by rw [take_getDU (by rw [hsl]; exact hi32), ← List.append_assoc]; exact (v8s_append _ _).symm)) rfl (fun b99 p99 => ?_)
        refine wpl_q (q_pure rfl) rfl ?_
        refine wpl_nil ?_
        refine ex_block ?_
        refine ex_then ?_
        refine wpc_region ?_
        refine wpl_q (q_pure rfl) rfl ?_
        refine wpl_q (q_addN (b := 1) rfl rfl (by first | omega | (simp only [maxLen]; omega) | (simp only [List.length_append, List.length_cons, List.length_nil, List.length_take, maxLen]; omega) | (simp only [List.length_append, List.length_cons, List.length_nil, List.length_take]; omega))) rfl ?_
        refine wpl_q (q_pure rfl) rfl ?_
        refine wpl_nil ?_
        refine ex_again ⟨(i + 1, b99), ⟨by dsimp only; omega, p99⟩⟩ ?_ ?_ ?_
        ·
         exact (by repeat (first | exact trivial | refine ⟨rfl, ?_⟩))
        ·
         exact fun w h => h.sel
        ·
         (show 32 - (i + 1) < 32 - i); omega
       ·
        simp only [decide_eq_false_iff_not] at hc91
        obtain rfl : i = 32 := by omega
        have hsl := sumF_length ((((msgB ⟨pf, pa, pb, pl, hv, hs⟩ m) ++ numK 4 (of64 (hs.getD m Hop.z).ix).toNat) ++ (hs.getD m Hop.z).chs.flatten) ++ (hs.getD m Hop.z).ps.flatten)
        refine wpc_exit ?_
        refine ex_then_exit ?_
        refine ex_then_exit ?_
        refine ex_block_hit ?_
        refine ex_then ?_
        refine wpc_seq ?_
        refine wpc_region ?_
        refine wpl_q (q_pure rfl) rfl ?_
        refine wpl_q (q_pure rfl) rfl ?_
        refine wpl_nil ?_
        refine ex_then ?_
        refine wpc_ret ?_
        refine ret1 (.inl rfl) rfl rfl ?_
        have hfe := msgS_eq ⟨pf, pa, pb, pl, hv, hs⟩ m _ _ rfl rfl
        have hfl : 59 = (msgB ⟨pf, pa, pb, pl, hv, hs⟩ (m + 1)).length := by rw [← hfe, List.length_append, a42_len, List.length_take, hsl]; rfl
        exact fun w h => ⟨v6, hfl ▸ hi1, rfl, h.below, by rw [← hfl, ← hfe]; exact h.made SubC.h .nil⟩
     ·
      refine wpa_t 8 rfl trivial (t_alloc Tryd.ti113 (v8s (List.replicate 32 0)) rfl) rfl (fun _ => (fun w h => .inr (h.sub SubC.h SubC.h))) (fun b9 => ?_)
      refine wpd_t 7 rfl (by kernel_rfl) trivial (t_pur Tryd.hb58 rfl fun w h => refSum b88 ((((msgB ⟨pf, pa, pb, pl, hv, hs⟩ m) ++ numK 4 (of64 (hs.getD m Hop.z).ix).toNat) ++ (hs.getD m Hop.z).chs.flatten) ++ (hs.getD m Hop.z).ps.flatten) w (Seen.re8 (show Seen w.cell? b88 ((msgB ⟨pf, pa, pb, pl, hv, hs⟩ m).length + 4 + (hs.getD m Hop.z).chs.length * 16 + (hs.getD m Hop.z).ps.length * 16) 1 (v8s ((((msgB ⟨pf, pa, pb, pl, hv, hs⟩ m) ++ numK 4 (of64 (hs.getD m Hop.z).ix).toNat) ++ (hs.getD m Hop.z).chs.flatten) ++ (hs.getD m Hop.z).ps.flatten)) from h.seen_row (by repeat (first | exact List.mem_cons_self .. | apply List.mem_cons_of_mem)))) (by rw [List.length_append, List.length_append, List.length_append, numK_len, flat_len16 hsm.2.1, flat_len16 hsm.2.2.2]; omega)) rfl (fun _ => (fun w h => .inr (h.sub SubC.h SubC.h))) (fun b89 => ?_)
      refine wpd_t0 9 rfl (by kernel_rfl) trivial (t_stA Tryd.ti113 rfl rfl (by rw [v8s_length]; exact sumF_length _) (v8s_one _) (by rw [v8s_length, List.length_replicate])) (fun _ => skk rfl) (fun _ => ?_)
      refine wpd_done (by kernel_rfl) ?_
      refine ex_then ?_
      refine wpc_seq ?_
      refine wpc_seq ?_
      refine wpc_region ?_
      refine wpl_q (q_pure rfl) rfl ?_
      refine wpl_nil ?_
      refine ex_then ?_
      refine wpc_block ?_
      refine wpc_loopc (ι := { x : Nat × Value // (x.1 ≤ 32) ∧ (SV x.2 (27 + x.1)) }) [(9, _)] (fun x Lc => (10, .int .i64 ((x.1.1 : Nat) : Int)) :: (6, x.1.2) :: Lc) (fun x => Mem w [] [.row x.1.2 (27 + x.1.1) 5 1 (v8s (((((((numK 4 (hs.getD (m + 1) Hop.z).to.toNat) ++ numK 4 (hs.getD (m + 1) Hop.z).sy.toNat) ++ [(hs.getD (m + 1) Hop.z).cnt]) ++ [(hs.getD (m + 1) Hop.z).fl]) ++ [(hs.getD (m + 1) Hop.z).root.1].flatten) ++ [of8 (hs.getD (m + 1) Hop.z).ht]) ++ (sumF ((((msgB ⟨pf, pa, pb, pl, hv, hs⟩ m) ++ numK 4 (of64 (hs.getD m Hop.z).ix).toNat) ++ (hs.getD m Hop.z).chs.flatten) ++ (hs.getD m Hop.z).ps.flatten)).take x.1.1)), .blk b9 113 (v8s (sumF ((((msgB ⟨pf, pa, pb, pl, hv, hs⟩ m) ++ numK 4 (of64 (hs.getD m Hop.z).ix).toNat) ++ (hs.getD m Hop.z).chs.flatten) ++ (hs.getD m Hop.z).ps.flatten)))] []) (fun x => 32 - x.1.1) ⟨(0, b42), ⟨Nat.zero_le _, p42⟩⟩ (by repeat (first | exact trivial | refine ⟨rfl, ?_⟩)) ?_ ?_
      ·
       exact fun w h => by
         dsimp only
         rw [List.take_zero, List.append_nil]
         exact h.sel
      ·
       rintro ⟨⟨i, v6⟩, ⟨hi0, hi1⟩⟩; try dsimp only
       have hi0 : i ≤ 32 := hi0; have hi1 : SV v6 (27 + i) := hi1
       refine wpc_seq ?_
       refine wpc_seq ?_
       refine wpc_region ?_
       refine wpl_q (q_pure rfl) rfl ?_
       refine wpl_q (q_pure rfl) rfl ?_
       refine wpl_nil ?_
       refine ex_then ?_
       refine wpc_cond rfl (fun hc91 => ?_) (fun hc91 => ?_)
       ·
        simp only [decide_eq_true_eq] at hc91
        have hi32 : i < 32 := by omega
        have hsl := sumF_length ((((msgB ⟨pf, pa, pb, pl, hv, hs⟩ m) ++ numK 4 (of64 (hs.getD m Hop.z).ix).toNat) ++ (hs.getD m Hop.z).chs.flatten) ++ (hs.getD m Hop.z).ps.flatten)
        refine wpc_skip ?_
        refine ex_then ?_
        refine wpc_seq ?_
        refine wpc_block ?_
        refine wpc_region ?_
        refine wpl_q (q_pure rfl) rfl ?_
        refine wpl_q (q_pure rfl) rfl ?_
        refine wpl_q (q_idxA1 Tryd.underlying113 Tryd.ti5 rfl rfl (by omega)) rfl ?_
        refine wpl_q (q_ld Tryd.underlying5 rfl rfl (v8s_get (by rw [hsl]; exact hi32))) rfl ?_
        refine wpl_tp (t_bsV (v8s [_]) Tryd.underlying32 Tryd.ti5 rfl rfl (by decide) (by decide) rfl (v8s_one _)) rfl (fun b98 p98 => ?_)
        refine wpl_tp (t_apW Tryd.underlying32 Tryd.ti5 rfl (by decide) rfl rfl (fun w h => by first | exact h.seenV | exact h.seenA (by first | decide | (simp only [maxLen]; omega)) (by first | (with_reducible exact key_len _ _ (by (first | with_reducible assumption | exact L16.h))) | with_reducible rfl | (simp only [v8s_length, v32s_length, vis_length, vns_length, v64s_length, List.length_replicate]; first | done | with_reducible assumption | omega) | (rw [v8s_length]; (first | with_reducible assumption | exact L16.h)) | rfl) | exact h.seen_old (by assumption) | exact h.seen_oldL (by assumption) (by assumption) | exact h.seen_fact (by repeat (first | exact List.mem_cons_self .. | apply List.mem_cons_of_mem))) OneC.h (by first | omega | (simp only [maxLen]; omega) | (simp only [List.length_append, List.length_cons, List.length_nil, List.length_take, maxLen]; omega) | (simp only [List.length_append, List.length_cons, List.length_nil, List.length_take]; omega)) (by first | omega | (simp only [maxLen]; omega) | (simp only [List.length_append, List.length_cons, List.length_nil, List.length_take, maxLen]; omega) | (simp only [List.length_append, List.length_cons, List.length_nil, List.length_take]; omega)) (v8s (((((((numK 4 (hs.getD (m + 1) Hop.z).to.toNat) ++ numK 4 (hs.getD (m + 1) Hop.z).sy.toNat) ++ [(hs.getD (m + 1) Hop.z).cnt]) ++ [(hs.getD (m + 1) Hop.z).fl]) ++ [(hs.getD (m + 1) Hop.z).root.1].flatten) ++ [of8 (hs.getD (m + 1) Hop.z).ht]) ++ (sumF ((((msgB ⟨pf, pa, pb, pl, hv, hs⟩ m) ++ numK 4 (of64 (hs.getD m Hop.z).ix).toNat) ++ (hs.getD m Hop.z).chs.flatten) ++ (hs.getD m Hop.z).ps.flatten)).take (i + 1))) (by rw [take_getDU (by rw [hsl]; exact hi32), ← List.append_assoc]; exact (v8s_append _ _).symm)) rfl (fun b99 p99 => ?_)
        refine wpl_q (q_pure rfl) rfl ?_
        refine wpl_nil ?_
        refine ex_block ?_
        refine ex_then ?_
        refine wpc_region ?_
        refine wpl_q (q_pure rfl) rfl ?_
        refine wpl_q (q_addN (b := 1) rfl rfl (by first | omega | (simp only [maxLen]; omega) | (simp only [List.length_append, List.length_cons, List.length_nil, List.length_take, maxLen]; omega) | (simp only [List.length_append, List.length_cons, List.length_nil, List.length_take]; omega))) rfl ?_
        refine wpl_q (q_pure rfl) rfl ?_
        refine wpl_nil ?_
        refine ex_again ⟨(i + 1, b99), ⟨by dsimp only; omega, p99⟩⟩ ?_ ?_ ?_
        ·
         exact (by repeat (first | exact trivial | refine ⟨rfl, ?_⟩))
        ·
         exact fun w h => h.sel
        ·
         (show 32 - (i + 1) < 32 - i); omega
       ·
        simp only [decide_eq_false_iff_not] at hc91
        obtain rfl : i = 32 := by omega
        have hsl := sumF_length ((((msgB ⟨pf, pa, pb, pl, hv, hs⟩ m) ++ numK 4 (of64 (hs.getD m Hop.z).ix).toNat) ++ (hs.getD m Hop.z).chs.flatten) ++ (hs.getD m Hop.z).ps.flatten)
        refine wpc_exit ?_
        refine ex_then_exit ?_
        refine ex_then_exit ?_
        refine ex_block_hit ?_
        refine ex_then ?_
        refine wpc_seq ?_
        refine wpc_region ?_
        refine wpl_q (q_pure rfl) rfl ?_
        refine wpl_q (q_pure rfl) rfl ?_
        refine wpl_nil ?_
        refine ex_then ?_
        refine wpc_ret ?_
        refine ret1 (.inl rfl) rfl rfl ?_
        have hfe := msgS_eq ⟨pf, pa, pb, pl, hv, hs⟩ m _ _ rfl rfl
        have hfl : 59 = (msgB ⟨pf, pa, pb, pl, hv, hs⟩ (m + 1)).length := by rw [← hfe, List.length_append, a42_len, List.length_take, hsl]; rfl
        exact fun w h => ⟨v6, hfl ▸ hi1, rfl, h.below, by rw [← hfl, ← hfe]; exact h.made SubC.h .nil⟩
    ·
     refine wpa_t 8 rfl trivial (t_alloc Tryd.ti113 (v8s (List.replicate 32 0)) rfl) rfl (fun _ => (fun w h => .inr (h.sub SubC.h SubC.h))) (fun b9 => ?_)
     refine wpd_tp 6 rfl (by kernel_rfl) trivial (t_callR (m := (msgB ⟨pf, pa, pb, pl, hv, hs⟩ m).length + 4 + (hs.getD m Hop.z).chs.length * 16) (m' := (msgB ⟨pf, pa, pb, pl, hv, hs⟩ m).length + 4 + (hs.getD m Hop.z).chs.length * 16 + (hs.getD m Hop.z).ps.length * 16) (xs := v8s (((msgB ⟨pf, pa, pb, pl, hv, hs⟩ m) ++ numK 4 (of64 (hs.getD m Hop.z).ix).toNat) ++ (hs.getD m Hop.z).chs.flatten)) (ys := v8s ((((msgB ⟨pf, pa, pb, pl, hv, hs⟩ m) ++ numK 4 (of64 (hs.getD m Hop.z).ix).toNat) ++ (hs.getD m Hop.z).chs.flatten) ++ (hs.getD m Hop.z).ps.flatten)) Tryd.hb57 rfl fun w h hr => shA b85 (((msgB ⟨pf, pa, pb, pl, hv, hs⟩ m) ++ numK 4 (of64 (hs.getD m Hop.z).ix).toNat) ++ (hs.getD m Hop.z).chs.flatten) (hs.getD m Hop.z).pv (hs.getD m Hop.z).ps ((msgB ⟨pf, pa, pb, pl, hv, hs⟩ m).length + 4 + (hs.getD m Hop.z).chs.length * 16) w hr (by rw [List.length_append, List.length_append, numK_len, flat_len16 hsm.2.1]) p85 (hsm.2.2.1.mono (rdo_nil h (by simp))) hsm.2.2.2 (by omega) (by omega)) rfl (fun _ => (fun w h => .inr (h.sub SubC.h SubC.h))) (fun b88 p88 => ?_)
     refine wpd_t 7 rfl (by kernel_rfl) trivial (t_pur Tryd.hb58 rfl fun w h => refSum b88 ((((msgB ⟨pf, pa, pb, pl, hv, hs⟩ m) ++ numK 4 (of64 (hs.getD m Hop.z).ix).toNat) ++ (hs.getD m Hop.z).chs.flatten) ++ (hs.getD m Hop.z).ps.flatten) w (Seen.re8 (show Seen w.cell? b88 ((msgB ⟨pf, pa, pb, pl, hv, hs⟩ m).length + 4 + (hs.getD m Hop.z).chs.length * 16 + (hs.getD m Hop.z).ps.length * 16) 1 (v8s ((((msgB ⟨pf, pa, pb, pl, hv, hs⟩ m) ++ numK 4 (of64 (hs.getD m Hop.z).ix).toNat) ++ (hs.getD m Hop.z).chs.flatten) ++ (hs.getD m Hop.z).ps.flatten)) from h.seen_row (by repeat (first | exact List.mem_cons_self .. | apply List.mem_cons_of_mem)))) (by rw [List.length_append, List.length_append, List.length_append, numK_len, flat_len16 hsm.2.1, flat_len16 hsm.2.2.2]; omega)) rfl (fun _ => (fun w h => .inr (h.sub SubC.h SubC.h))) (fun b89 => ?_)
     refine wpd_t0 9 rfl (by kernel_rfl) trivial (t_stA Tryd.ti113 rfl rfl (by rw [v8s_length]; exact sumF_length _) (v8s_one _) (by rw [v8s_length, List.length_replicate])) (fun _ => skk rfl) (fun _ => ?_)
     refine wpd_done (by kernel_rfl) ?_
     refine ex_then ?_
     refine wpc_seq ?_
     refine wpc_seq ?_
     refine wpc_region ?_
     refine wpl_q (q_pure rfl) rfl ?_
     refine wpl_nil ?_
     refine ex_then ?_
     refine wpc_block ?_
     refine wpc_loopc (ι := { x : Nat × Value // (x.1 ≤ 32) ∧ (SV x.2 (27 + x.1)) }) [(9, _)] (fun x Lc => (10, .int .i64 ((x.1.1 : Nat) : Int)) :: (6, x.1.2) :: Lc) (fun x => Mem w [] [.row x.1.2 (27 + x.1.1) 5 1 (v8s (((((((numK 4 (hs.getD (m + 1) Hop.z).to.toNat) ++ numK 4 (hs.getD (m + 1) Hop.z).sy.toNat) ++ [(hs.getD (m + 1) Hop.z).cnt]) ++ [(hs.getD (m + 1) Hop.z).fl]) ++ [(hs.getD (m + 1) Hop.z).root.1].flatten) ++ [of8 (hs.getD (m + 1) Hop.z).ht]) ++ (sumF ((((msgB ⟨pf, pa, pb, pl, hv, hs⟩ m) ++ numK 4 (of64 (hs.getD m Hop.z).ix).toNat) ++ (hs.getD m Hop.z).chs.flatten) ++ (hs.getD m Hop.z).ps.flatten)).take x.1.1)), .blk b9 113 (v8s (sumF ((((msgB ⟨pf, pa, pb, pl, hv, hs⟩ m) ++ numK 4 (of64 (hs.getD m Hop.z).ix).toNat) ++ (hs.getD m Hop.z).chs.flatten) ++ (hs.getD m Hop.z).ps.flatten)))] []) (fun x => 32 - x.1.1) ⟨(0, b42), ⟨Nat.zero_le _, p42⟩⟩ (by repeat (first | exact trivial | refine ⟨rfl, ?_⟩)) ?_ ?_
     ·
      exact fun w h => by
        dsimp only
        rw [List.take_zero, List.append_nil]
        exact h.sel
     ·
      rintro ⟨⟨i, v6⟩, ⟨hi0, hi1⟩⟩; try dsimp only
      have hi0 : i ≤ 32 := hi0; have hi1 : SV v6 (27 + i) := hi1
      refine wpc_seq ?_
      refine wpc_seq ?_
      refine wpc_region ?_
      refine wpl_q (q_pure rfl) rfl ?_
      refine wpl_q (q_pure rfl) rfl ?_
      refine wpl_nil ?_
      refine ex_then ?_
      refine wpc_cond rfl (fun hc91 => ?_) (fun hc91 => ?_)
      ·
       simp only [decide_eq_true_eq] at hc91
       have hi32 : i < 32 := by omega
       have hsl := sumF_length ((((msgB ⟨pf, pa, pb, pl, hv, hs⟩ m) ++ numK 4 (of64 (hs.getD m Hop.z).ix).toNat) ++ (hs.getD m Hop.z).chs.flatten) ++ (hs.getD m Hop.z).ps.flatten)
       refine wpc_skip ?_
       refine ex_then ?_
       refine wpc_seq ?_
       refine wpc_block ?_
       refine wpc_region ?_
       refine wpl_q (q_pure rfl) rfl ?_
       refine wpl_q (q_pure rfl) rfl ?_
       refine wpl_q (q_idxA1 Tryd.underlying113 Tryd.ti5 rfl rfl (by omega)) rfl ?_
       refine wpl_q (q_ld Tryd.underlying5 rfl rfl (v8s_get (by rw [hsl]; exact hi32))) rfl ?_
       refine wpl_tp (t_bsV (v8s [_]) Tryd.underlying32 Tryd.ti5 rfl rfl (by decide) (by decide) rfl (v8s_one _)) rfl (fun b98 p98 => ?_)
       refine wpl_tp (t_apW Tryd.underlying32 Tryd.ti5 rfl (by decide) rfl rfl (fun w h => by first | exact h.seenV | exact h.seenA (by first | decide | (simp only [maxLen]; omega)) (by first | (with_reducible exact key_len _ _ (by (first | with_reducible assumption | exact L16.h))) | with_reducible rfl | (simp only [v8s_length, v32s_length, vis_length, vns_length, v64s_length, List.length_replicate]; first | done | with_reducible assumption | omega) | (rw [v8s_length]; (first | with_reducible assumption | exact L16.h)) | rfl) | exact h.seen_old (by assumption) | exact h.seen_oldL (by assumption) (by assumption) | exact h.seen_fact (by repeat (first | exact List.mem_cons_self .. | apply List.mem_cons_of_mem))) OneC.h (by first | omega | (simp only [maxLen]; omega) | (simp only [List.length_append, List.length_cons, List.length_nil, List.length_take, maxLen]; omega) | (simp only [List.length_append, List.length_cons, List.length_nil, List.length_take]; omega)) (by first | omega | (simp only [maxLen]; omega) | (simp only [List.length_append, List.length_cons, List.length_nil, List.length_take, maxLen]; omega) | (simp only [List.length_append, List.length_cons, List.length_nil, List.length_take]; omega)) (v8s (((((((numK 4 (hs.getD (m + 1) Hop.z).to.toNat) ++ numK 4 (hs.getD (m + 1) Hop.z).sy.toNat) ++ [(hs.getD (m + 1) Hop.z).cnt]) ++ [(hs.getD (m + 1) Hop.z).fl]) ++ [(hs.getD (m + 1) Hop.z).root.1].flatten) ++ [of8 (hs.getD (m + 1) Hop.z).ht]) ++ (sumF ((((msgB ⟨pf, pa, pb, pl, hv, hs⟩ m) ++ numK 4 (of64 (hs.getD m Hop.z).ix).toNat) ++ (hs.getD m Hop.z).chs.flatten) ++ (hs.getD m Hop.z).ps.flatten)).take (i + 1))) (by rw [take_getDU (by rw [hsl]; exact hi32), ← List.append_assoc]; exact (v8s_append _ _).symm)) rfl (fun b99 p99 => ?_)
       refine wpl_q (q_pure rfl) rfl ?_
       refine wpl_nil ?_
       refine ex_block ?_
       refine ex_then ?_
       refine wpc_region ?_
       refine wpl_q (q_pure rfl) rfl ?_
       refine wpl_q (q_addN (b := 1) rfl rfl (by first | omega | (simp only [maxLen]; omega) | (simp only [List.length_append, List.length_cons, List.length_nil, List.length_take, maxLen]; omega) | (simp only [List.length_append, List.length_cons, List.length_nil, List.length_take]; omega))) rfl ?_
       refine wpl_q (q_pure rfl) rfl ?_
       refine wpl_nil ?_
       refine ex_again ⟨(i + 1, b99), ⟨by dsimp only; omega, p99⟩⟩ ?_ ?_ ?_
       ·
        exact (by repeat (first | exact trivial | refine ⟨rfl, ?_⟩))
       ·
        exact fun w h => h.sel
       ·
        (show 32 - (i + 1) < 32 - i); omega
      ·
       simp only [decide_eq_false_iff_not] at hc91
       obtain rfl : i = 32 := by omega
       have hsl := sumF_length ((((msgB ⟨pf, pa, pb, pl, hv, hs⟩ m) ++ numK 4 (of64 (hs.getD m Hop.z).ix).toNat) ++ (hs.getD m Hop.z).chs.flatten) ++ (hs.getD m Hop.z).ps.flatten)
       refine wpc_exit ?_
       refine ex_then_exit ?_
       refine ex_then_exit ?_
       refine ex_block_hit ?_
       refine ex_then ?_
       refine wpc_seq ?_
       refine wpc_region ?_
       refine wpl_q (q_pure rfl) rfl ?_
       refine wpl_q (q_pure rfl) rfl ?_
       refine wpl_nil ?_
       refine ex_then ?_
       refine wpc_ret ?_
       refine ret1 (.inl rfl) rfl rfl ?_
       have hfe := msgS_eq ⟨pf, pa, pb, pl, hv, hs⟩ m _ _ rfl rfl
       have hfl : 59 = (msgB ⟨pf, pa, pb, pl, hv, hs⟩ (m + 1)).length := by rw [← hfe, List.length_append, a42_len, List.length_take, hsl]; rfl
       exact fun w h => ⟨v6, hfl ▸ hi1, rfl, h.below, by rw [← hfl, ← hfe]; exact h.made SubC.h .nil⟩
   ·
    refine wpa_t 8 rfl trivial (t_alloc Tryd.ti113 (v8s (List.replicate 32 0)) rfl) rfl (fun _ => (fun w h => .inr (h.sub SubC.h SubC.h))) (fun b9 => ?_)
    refine wpd_tp 3 rfl (by kernel_rfl) trivial (t_callR (m := (msgB ⟨pf, pa, pb, pl, hv, hs⟩ m).length + 4) (m' := (msgB ⟨pf, pa, pb, pl, hv, hs⟩ m).length + 4 + (hs.getD m Hop.z).chs.length * 16) (xs := v8s ((msgB ⟨pf, pa, pb, pl, hv, hs⟩ m) ++ numK 4 (of64 (hs.getD m Hop.z).ix).toNat)) (ys := v8s (((msgB ⟨pf, pa, pb, pl, hv, hs⟩ m) ++ numK 4 (of64 (hs.getD m Hop.z).ix).toNat) ++ (hs.getD m Hop.z).chs.flatten)) Tryd.hb57 rfl fun w h hr => shA b81 ((msgB ⟨pf, pa, pb, pl, hv, hs⟩ m) ++ numK 4 (of64 (hs.getD m Hop.z).ix).toNat) (hs.getD m Hop.z).cv (hs.getD m Hop.z).chs ((msgB ⟨pf, pa, pb, pl, hv, hs⟩ m).length + 4) w hr (by rw [List.length_append, numK_len]) p81 (hsm.1.mono (rdo_nil h (by simp))) hsm.2.1 (by omega) (by omega)) rfl (fun _ => (fun w h => .inr (h.sub SubC.h SubC.h))) (fun b85 p85 => ?_)
    refine wpd_tp 6 rfl (by kernel_rfl) trivial (t_callR (m := (msgB ⟨pf, pa, pb, pl, hv, hs⟩ m).length + 4 + (hs.getD m Hop.z).chs.length * 16) (m' := (msgB ⟨pf, pa, pb, pl, hv, hs⟩ m).length + 4 + (hs.getD m Hop.z).chs.length * 16 + (hs.getD m Hop.z).ps.length * 16) (xs := v8s (((msgB ⟨pf, pa, pb, pl, hv, hs⟩ m) ++ numK 4 (of64 (hs.getD m Hop.z).ix).toNat) ++ (hs.getD m Hop.z).chs.flatten)) (ys := v8s ((((msgB ⟨pf, pa, pb, pl, hv, hs⟩ m) ++ numK 4 (of64 (hs.getD m Hop.z).ix).toNat) ++ (hs.getD m Hop.z).chs.flatten) ++ (hs.getD m Hop.z).ps.flatten)) Tryd.hb57 rfl fun w h hr => shA b85 (((msgB ⟨pf, pa, pb, pl, hv, hs⟩ m) ++ numK 4 (of64 (hs.getD m Hop.z).ix).toNat) ++ (hs.getD m Hop.z).chs.flatten) (hs.getD m Hop.z).pv (hs.getD m Hop.z).ps ((msgB ⟨pf, pa, pb, pl, hv, hs⟩ m).length + 4 + (hs.getD m Hop.z).chs.length * 16) w hr (by rw [List.length_append, List.length_append, numK_len, flat_len16 hsm.2.1]) p85 (hsm.2.2.1.mono (rdo_nil h (by simp))) hsm.2.2.2 (by omega) (by omega)) rfl (fun _ => (fun w h => .inr (h.sub SubC.h SubC.h))) (fun b88 p88 => ?_)
    refine wpd_t 7 rfl (by kernel_rfl) trivial (t_pur Tryd.hb58 rfl fun w h => refSum b88 ((((msgB ⟨pf, pa, pb, pl, hv, hs⟩ m) ++ numK 4 (of64 (hs.getD m Hop.z).ix).toNat) ++ (hs.getD m Hop.z).chs.flatten) ++ (hs.getD m Hop.z).ps.flatten) w (Seen.re8 (show Seen w.cell? b88 ((msgB ⟨pf, pa, pb, pl, hv, hs⟩ m).length + 4 + (hs.getD m Hop.z).chs.length * 16 + (hs.getD m Hop.z).ps.length * 16) 1 (v8s ((((msgB ⟨pf, pa, pb, pl, hv, hs⟩ m) ++ numK 4 (of64 (hs.getD m Hop.z).ix).toNat) ++ (hs.getD m Hop.z).chs.flatten) ++ (hs.getD m Hop.z).ps.flatten)) from h.seen_row (by repeat (first | exact List.mem_cons_self .. | apply List.mem_cons_of_mem)))) (by rw [List.length_append, List.length_append, List.length_append, numK_len, flat_len16 hsm.2.1, flat_len16 hsm.2.2.2]; omega)) rfl (fun _ => (fun w h => .inr (h.sub SubC.h SubC.h))) (fun b89 => ?_)
    refine wpd_t0 9 rfl (by kernel_rfl) trivial (t_stA Tryd.ti113 rfl rfl (by rw [v8s_length]; exact sumF_length _) (v8s_one _) (by rw [v8s_length, List.length_replicate])) (fun _ => skk rfl) (fun _ => ?_)
    refine wpd_done (by kernel_rfl) ?_
    refine ex_then ?_
    refine wpc_seq ?_
    refine wpc_seq ?_
    refine wpc_region ?_
    refine wpl_q (q_pure rfl) rfl ?_
    refine wpl_nil ?_
    refine ex_then ?_
    refine wpc_block ?_
    refine wpc_loopc (ι := { x : Nat × Value // (x.1 ≤ 32) ∧ (SV x.2 (27 + x.1)) }) [(9, _)] (fun x Lc => (10, .int .i64 ((x.1.1 : Nat) : Int)) :: (6, x.1.2) :: Lc) (fun x => Mem w [] [.row x.1.2 (27 + x.1.1) 5 1 (v8s (((((((numK 4 (hs.getD (m + 1) Hop.z).to.toNat) ++ numK 4 (hs.getD (m + 1) Hop.z).sy.toNat) ++ [(hs.getD (m + 1) Hop.z).cnt]) ++ [(hs.getD (m + 1) Hop.z).fl]) ++ [(hs.getD (m + 1) Hop.z).root.1].flatten) ++ [of8 (hs.getD (m + 1) Hop.z).ht]) ++ (sumF ((((msgB ⟨pf, pa, pb, pl, hv, hs⟩ m) ++ numK 4 (of64 (hs.getD m Hop.z).ix).toNat) ++ (hs.getD m Hop.z).chs.flatten) ++ (hs.getD m Hop.z).ps.flatten)).take x.1.1)), .blk b9 113 (v8s (sumF ((((msgB ⟨pf, pa, pb, pl, hv, hs⟩ m) ++ numK 4 (of64 (hs.getD m Hop.z).ix).toNat) ++ (hs.getD m Hop.z).chs.flatten) ++ (hs.getD m Hop.z).ps.flatten)))] []) (fun x => 32 - x.1.1) ⟨(0, b42), ⟨Nat.zero_le _, p42⟩⟩ (by repeat (first | exact trivial | refine ⟨rfl, ?_⟩)) ?_ ?_
    ·
     exact fun w h => by
       dsimp only
       rw [List.take_zero, List.append_nil]
       exact h.sel
    ·
     rintro ⟨⟨i, v6⟩, ⟨hi0, hi1⟩⟩; try dsimp only
     have hi0 : i ≤ 32 := hi0; have hi1 : SV v6 (27 + i) := hi1
     refine wpc_seq ?_
     refine wpc_seq ?_
     refine wpc_region ?_
     refine wpl_q (q_pure rfl) rfl ?_
     refine wpl_q (q_pure rfl) rfl ?_
     refine wpl_nil ?_
     refine ex_then ?_
     refine wpc_cond rfl (fun hc91 => ?_) (fun hc91 => ?_)
     ·
      simp only [decide_eq_true_eq] at hc91
      have hi32 : i < 32 := by omega
      have hsl := sumF_length ((((msgB ⟨pf, pa, pb, pl, hv, hs⟩ m) ++ numK 4 (of64 (hs.getD m Hop.z).ix).toNat) ++ (hs.getD m Hop.z).chs.flatten) ++ (hs.getD m Hop.z).ps.flatten)
      refine wpc_skip ?_
      refine ex_then ?_
      refine wpc_seq ?_
      refine wpc_block ?_
      refine wpc_region ?_
      refine wpl_q (q_pure rfl) rfl ?_
      refine wpl_q (q_pure rfl) rfl ?_
      refine wpl_q (q_idxA1 Tryd.underlying113 Tryd.ti5 rfl rfl (by omega)) rfl ?_
      refine wpl_q (q_ld Tryd.underlying5 rfl rfl (v8s_get (by rw [hsl]; exact hi32))) rfl ?_
      refine wpl_tp (t_bsV (v8s [_]) Tryd.underlying32 Tryd.ti5 rfl rfl (by decide) (by decide) rfl (v8s_one _)) rfl (fun b98 p98 => ?_)
      refine wpl_tp (t_apW Tryd.underlying32 Tryd.ti5 rfl (by decide) rfl rfl (fun w h => by first | exact h.seenV | exact h.seenA (by first | decide | (simp only [maxLen]; omega)) (by first | (with_reducible exact key_len _ _ (by (first | with_reducible assumption | exact L16.h))) | with_reducible rfl | (simp only [v8s_length, v32s_length, vis_length, vns_length, v64s_length, List.length_replicate]; first | done | with_reducible assumption | omega) | (rw [v8s_length]; (first | with_reducible assumption | exact L16.h)) | rfl) | exact h.seen_old (by assumption) | exact h.seen_oldL (by assumption) (by assumption) | exact h.seen_fact (by repeat (first | exact List.mem_cons_self .. | apply List.mem_cons_of_mem))) OneC.h (by first | omega | (simp only [maxLen]; omega) | (simp only [List.length_append, List.length_cons, List.length_nil, List.length_take, maxLen]; omega) | (simp only [List.length_append, List.length_cons, List.length_nil, List.length_take]; omega)) (by first | omega | (simp only [maxLen]; omega) | (simp only [List.length_append, List.length_cons, List.length_nil, List.length_take, maxLen]; omega) | (simp only [List.length_append, List.length_cons, List.length_nil, List.length_take]; omega)) (v8s (((((((numK 4 (hs.getD (m + 1) Hop.z).to.toNat) ++ numK 4 (hs.getD (m + 1) Hop.z).sy.toNat) ++ [(hs.getD (m + 1) Hop.z).cnt]) ++ [(hs.getD (m + 1) Hop.z).fl]) ++ [(hs.getD (m + 1) Hop.z).root.1].flatten) ++ [of8 (hs.getD (m + 1) Hop.z).ht]) ++ (sumF ((((msgB ⟨pf, pa, pb, pl, hv, hs⟩ m) ++ numK 4 (of64 (hs.getD m Hop.z).ix).toNat) ++ (hs.getD m Hop.z).chs.flatten) ++ (hs.getD m Hop.z).ps.flatten)).take (i + 1))) (by rw [take_getDU (by rw [hsl]; exact hi32), ← List.append_assoc]; exact (v8s_append _ _).symm)) rfl (fun b99 p99 => ?_)
      refine wpl_q (q_pure rfl) rfl ?_
      refine wpl_nil ?_
      refine ex_block ?_
      refine ex_then ?_
      refine wpc_region ?_
      refine wpl_q (q_pure rfl) rfl ?_
      refine wpl_q (q_addN (b := 1) rfl rfl (by first | omega | (simp only [maxLen]; omega) | (simp only [List.length_append, List.length_cons, List.length_nil, List.length_take, maxLen]; omega) | (simp only [List.length_append, List.length_cons, List.length_nil, List.length_take]; omega))) rfl ?_
      refine wpl_q (q_pure rfl) rfl ?_
      refine wpl_nil ?_
      refine ex_again ⟨(i + 1, b99), ⟨by dsimp only; omega, p99⟩⟩ ?_ ?_ ?_
      ·
       exact (by repeat (first | exact trivial | refine ⟨rfl, ?_⟩))
      ·
       exact fun w h => h.sel
      ·
       (show 32 - (i + 1) < 32 - i); omega
     ·
      simp only [decide_eq_false_iff_not] at hc91
      obtain rfl : i = 32 := by omega
      have hsl := sumF_length ((((msgB ⟨pf, pa, pb, pl, hv, hs⟩ m) ++ numK 4 (of64 (hs.getD m Hop.z).ix).toNat) ++ (hs.getD m Hop.z).chs.flatten) ++ (hs.getD m Hop.z).ps.flatten)
      refine wpc_exit ?_
      refine ex_then_exit ?_
      refine ex_then_exit ?_
      refine ex_block_hit ?_
      refine ex_then ?_
      refine wpc_seq ?_
      refine wpc_region ?_
      refine wpl_q (q_pure rfl) rfl ?_
      refine wpl_q (q_pure rfl) rfl ?_
      refine wpl_nil ?_
      refine ex_then ?_
      refine wpc_ret ?_
      refine ret1 (.inl rfl) rfl rfl ?_
      have hfe := msgS_eq ⟨pf, pa, pb, pl, hv, hs⟩ m _ _ rfl rfl
      have hfl : 59 = (msgB ⟨pf, pa, pb, pl, hv, hs⟩ (m + 1)).length := by rw [← hfe, List.length_append, a42_len, List.length_take, hsl]; rfl
      exact fun w h => ⟨v6, hfl ▸ hi1, rfl, h.below, by rw [← hfl, ← hfe]; exact h.made SubC.h .nil⟩

end Go.Proofs.YtjpfhkjmjnjggaaDoor

namespace Go.Proofs.YtjpfhkjmjnjggaaDoor
set_option linter.unusedSimpArgs false
set_option linter.unusedVariables false
open Go Go.PL Go.RowKit

theorem refMessage (p : Pth) (hlim : SmP p) : ∀ (j : Nat) (w : World) (hp : p.seen w.cell?) (hj : j < p.hs.length), Calls Tryd.prog 39 [.agg p.c.toArray, .int .i64 ((j : Nat) : Int)].toArray w (GivesP w (fun v => SV v (msgB p j).length) (fun v => v) (fun v => [.row v (msgB p j).length 5 1 (v8s (msgB p j))]) (fun _ => []))
  | 0, w, hp, hj => refMessage_step p 0 w hp hj hlim fun m hm => by cases hm
  | j + 1, w, hp, hj => refMessage_step p (j + 1) w hp hj hlim fun m hm w hp => by
    cases hm
    exact refMessage p hlim j w hp (by omega)

end Go.Proofs.YtjpfhkjmjnjggaaDoor

namespace Go.Proofs.YtjpfhkjmjnjggaaDoor
set_option linter.unusedSimpArgs false
set_option linter.unusedVariables false
open Go Go.PL Go.RowKit

theorem ex_mark0 {P : Program} {fn : Func} {post : Ending → World → Prop} {m : Nat} {e : Exit} {L : Slots} {R : World → Prop} (he : e = .ret ∨ e = .normal)
    (h : EX (bodyPost P fn post) e ⟨m, []⟩ R L) : EX (NPQ (bodyPostM Fence.wide 0 P fn post)) e ⟨m, []⟩ R L := fun a w hs hr => by
  have h1 := h a w hs hr
  have hd : a.defers = [] := hs.defers
  rcases he with rfl | rfl
  · obtain ⟨_, v, hv, hp⟩ := h1
    show LeavesInM _ _ _ _ _ _ a.defers _ _
    rw [hd]
    exact ⟨v, hv, hp⟩
  · obtain ⟨_, v, hv, hp⟩ := h1
    show LeavesInM _ _ _ _ _ _ a.defers _ _
    rw [hd]
    exact ⟨v, hv, hp⟩
/-- A hop whose handles can be read. -/
abbrev HopS := { h : Hop // h.sv }
def HopS.z : HopS := ⟨Hop.z, SV.nil, SV.nil⟩
def HopS.c (h : HopS) : List Value := h.1.c
theorem HopS.c_length (h : HopS) : h.c.length = 24 := h.1.c_length
instance lenC_hops {h : HopS} : LenC h.1.c 24 := ⟨h.1.c_length⟩
instance oneC_hops {h : HopS} : OneC h.1.c := h.2.one
end Go.Proofs.YtjpfhkjmjnjggaaDoor

namespace Go.Proofs.YtjpfhkjmjnjggaaDoor
set_option linter.unusedSimpArgs false
set_option linter.unusedVariables false
open Go Go.PL Go.RowKit
set_option maxRecDepth 100000 in
theorem eqk : EqC Tryd.prog 3 63 true 17 (fun cs => cs.length = 17 ∧ ((((cs.drop 0).take 16).length = 16 ∧ ∀ i, i < 16 → IntCell .u8 ((((cs.drop 0).take 16).drop (i * 1)).take 1)) ∧ (IntCell .i64 ((cs.drop (0 + 16)).take 1) ∧ True))) :=
by
  refine eqc_struct Tryd.underlying63 Tryd.ti63 (by kernel_rfl) ?_
  refine EqFs.cons (sz := 16) (W := fun c => c.length = 16 ∧ ∀ i, i < 16 → IntCell .u8 ((c.drop (i * 1)).take 1)) (W' := fun cs => IntCell .i64 ((cs.drop (0 + 16)).take 1) ∧ True) (by kernel_rfl) rfl eq8_61 ?_
  refine EqFs.cons (sz := 1) (W := IntCell .i64) (W' := fun _ => True) (by kernel_rfl) rfl (eqc_up (dp' := 2) (eqc_int Tryd.underlying3 Tryd.ti3) (by decide)) ?_
  exact EqFs.nil _
theorem wkey {xs : List UInt8} (a : Int) (h : xs.length = 16) : (v8s xs ++ [Value.int .i64 a]).length = 17 ∧ (((((v8s xs ++ [Value.int .i64 a]).drop 0).take 16).length = 16 ∧ ∀ i, i < 16 → IntCell .u8 (((((v8s xs ++ [Value.int .i64 a]).drop 0).take 16).drop (i * 1)).take 1)) ∧ (IntCell .i64 (((v8s xs ++ [Value.int .i64 a]).drop (0 + 16)).take 1) ∧ True)) := by
  refine ⟨key_len xs a h, ?_, ⟨a, ?_⟩, trivial⟩
  · rw [key_root xs a h]; exact w8s h
  · rw [List.drop_left' (by rw [v8s_length, h])]; rfl
theorem q_eqK {n : Cx} {R : World → Prop} {L : Slots} {t' : TypeId} {x y : Operand} {xs ys : List UInt8} {a b : Int} (hx : ev L x = some (.agg (v8s xs ++ [Value.int .i64 a]).toArray)) (hy : ev L y = some (.agg (v8s ys ++ [Value.int .i64 b]).toArray)) (h1 : xs.length = 16) (h2 : ys.length = 16) :
    QOp Tryd.prog n R L (.binOp .eql 63 x y t') (.bool (decide (xs = ys ∧ a = b))) :=
  q_eqA eqk (by decide) (by kernel_rfl) hx hy (wkey a h1) (wkey b h2) _ (by
    rw [decide_eq_true_eq]
    constructor
    · rintro ⟨rfl, rfl⟩; rfl
    · intro h
      obtain ⟨e1, e2⟩ := List.append_inj h (by rw [v8s_length, v8s_length, h1, h2])
      exact ⟨v8s_inj e1, by simpa using e2⟩)

def Hop.eqv (a b : Hop) : Prop := a.sy = b.sy ∧ a.cnt = b.cnt ∧ a.fl = b.fl ∧ a.to = b.to ∧ (a.root.1 = b.root.1 ∧ a.ht = b.ht) ∧ (a.ix = b.ix ∧ a.chs = b.chs ∧ a.ps = b.ps)
instance {a b : Hop} : Decidable (a.eqv b) := by unfold Hop.eqv; exact inferInstance
def HsEqv (l k : List Hop) : Prop := l.length = k.length ∧ ∀ i, i < l.length → Hop.eqv (l.getD i Hop.z) (k.getD i Hop.z)
instance {a b : List Hop} : Decidable (HsEqv a b) := by unfold HsEqv; exact inferInstance
/-- Two paths are the same but for their handles. -/
def Pth.eqv (p q : Pth) : Prop := (p.pf = q.pf ∧ p.pa = q.pa ∧ p.pb = q.pb ∧ p.pl = q.pl) ∧ HsEqv p.hs q.hs
instance {a b : Pth} : Decidable (a.eqv b) := by unfold Pth.eqv; exact inferInstance
def bigH (h : Hop) : Prop := 100 < h.chs.length ∨ 100 < h.ps.length
instance {h : Hop} : Decidable (bigH h) := by unfold bigH; exact inferInstance
def GreatP (p : Pth) : Prop := (4 < p.hs.length ∧ p.hs.length ≤ 30) ∨ 35 < p.hs.length ∨ ¬ (∀ i, i < p.hs.length → ¬ bigH (p.hs.getD i Hop.z))
instance {p : Pth} : Decidable (GreatP p) := by unfold GreatP; exact inferInstance
theorem great_1 {p : Pth} (h : 4 < p.hs.length) (h2 : p.hs.length ≤ 30) : GreatP p := .inl ⟨h, h2⟩
theorem great_2 {p : Pth} (h : 35 < p.hs.length) : GreatP p := .inr (.inl h)
theorem great_3 {p : Pth} {i : Nat} (h : i < p.hs.length) (h2 : bigH (p.hs.getD i Hop.z)) : GreatP p := .inr (.inr fun f => f i h h2)
theorem great_4 {p : Pth} (h : ¬ (4 < p.hs.length ∧ p.hs.length ≤ 30)) (h2 : ¬ 35 < p.hs.length) (h3 : ∀ i, i < p.hs.length → ¬ bigH (p.hs.getD i Hop.z)) : ¬ GreatP p := by
  rintro (h1 | h1 | h1)
  · exact h h1
  · exact h2 h1
  · exact h1 h3
theorem great_no {p : Pth} (h : ¬ GreatP p) : SmP p ∧ p.hs.length ≤ 35 := by
  unfold GreatP at h
  rw [not_or, not_or, Decidable.not_not] at h
  refine ⟨fun x hx => ?_, by omega⟩
  obtain ⟨i, hi, rfl⟩ := List.mem_iff_getElem.1 hx
  have := h.2.2 i hi
  rw [List.getD_eq_getElem?_getD, List.getElem?_eq_getElem hi] at this
  unfold bigH at this
  rw [not_or] at this
  exact ⟨Nat.not_lt.1 this.1, Nat.not_lt.1 this.2⟩
set_option maxRecDepth 100000 in
theorem refGreat42 (p : Pth) (w : World) (hp : p.seen w.cell?)  :
    Calls Tryd.prog 11 [.agg p.c.toArray].toArray w (Pur w (.bool (decide (GreatP p)))) := by
  obtain ⟨pf, pa, pb, pl, hv, hs⟩ := p
  have hh : Seen w.cell? hv hs.length 24 (hcs hs) := hp.1
  have hq : ∀ h ∈ hs, h.seen w.cell? := hp.2
  have svh := hh.sv
  have lh := svh.le
  simp only [maxLen] at lh
  refine enter (m := 34) (R := Mem w [] [] []) Tryd.func11 rfl rfl (Nat.le_of_ble_eq_true rfl) (Mem.start w) ?_
  refine wpc_seq ?_
  refine wpc_region ?_
  refine wpl_t (t_box rfl [.int .u8 (pf.toNat : Int), .int .u64 (pa.toNat : Int), .int .u64 (pb.toNat : Int), .int .i64 pl, hv] rfl) rfl (fun b1 => ?_)
  refine wpl_q (q_pure rfl) rfl ?_
  refine wpl_nil ?_
  refine ex_then ?_
  refine wpc_seq ?_
  refine wpc_seq ?_
  refine wpc_region ?_
  refine wpl_q (q_field Tryd.underlying29 rfl Tryd.ti27 rfl rfl _ rfl) rfl ?_
  refine wpl_q (q_ld Tryd.underlying27 rfl rfl rfl) rfl ?_
  refine wpl_q (q_lenW Tryd.underlying27 rfl (by first | assumption | exact SV.nil | exact SV.slv (by assumption) (by omega) (by omega) | exact arv_sv (by first | decide | (simp only [maxLen]; omega)))) rfl ?_
  refine wpl_q (q_pure rfl) rfl ?_
  refine wpl_q (q_pure rfl) rfl ?_
  refine wpl_bool2 8 7 rfl rfl (fun hb8 => ?_) (fun hb8 => ?_)
  ·
   try simp only [decide_eq_true_eq] at hb8
   have h4 : 4 < hs.length := by omega
   refine wpl_on rfl rfl ?_
   refine wpl_q (q_field Tryd.underlying29 rfl Tryd.ti27 rfl rfl _ rfl) rfl ?_
   refine wpl_on rfl rfl ?_
   refine wpl_q (q_ld Tryd.underlying27 rfl rfl rfl) rfl ?_
   refine wpl_on rfl rfl ?_
   refine wpl_q (q_lenW Tryd.underlying27 rfl (by first | assumption | exact SV.nil | exact SV.slv (by assumption) (by omega) (by omega) | exact arv_sv (by first | decide | (simp only [maxLen]; omega)))) rfl ?_
   refine wpl_on rfl rfl ?_
   refine wpl_q (q_pure rfl) rfl ?_
   refine wpl_q (q_pure rfl) rfl ?_
   refine wpl_q (q_pure rfl) rfl ?_
   refine wpl_bool2 14 12 rfl rfl (fun hb14 => ?_) (fun hb14 => ?_)
   ·
    try simp only [decide_eq_true_eq] at hb14
    have hR : GreatP ⟨pf, pa, pb, pl, hv, hs⟩ := great_1 (p := ⟨pf, pa, pb, pl, hv, hs⟩) h4 (by show hs.length ≤ 30; omega)
    refine wpl_off rfl rfl rfl rfl ?_
    refine wpl_off rfl rfl rfl rfl ?_
    refine wpl_off rfl rfl rfl rfl ?_
    refine wpl_off rfl rfl rfl rfl ?_
    refine wpl_q (q_pure rfl) rfl ?_
    refine wpl_nil ?_
    refine ex_then ?_
    refine wpc_cond_t rfl ?_
    refine wpc_seq ?_
    refine wpc_region ?_
    refine wpl_q (q_pure rfl) rfl ?_
    refine wpl_nil ?_
    refine ex_then ?_
    refine wpc_ret ?_
    refine ex_then_ret ?_
    refine ret1 (.inl rfl) rfl rfl ?_
    exact fun w h => ⟨by rw [decide_eq_true hR], h.below⟩
   ·
    try simp only [decide_eq_false_iff_not] at hb14
    have h4 : ¬ (4 < hs.length ∧ hs.length ≤ 30) := by omega
    refine wpl_on rfl rfl ?_
    refine wpl_q (q_field Tryd.underlying29 rfl Tryd.ti27 rfl rfl _ rfl) rfl ?_
    refine wpl_on rfl rfl ?_
    refine wpl_q (q_ld Tryd.underlying27 rfl rfl rfl) rfl ?_
    refine wpl_on rfl rfl ?_
    refine wpl_q (q_lenW Tryd.underlying27 rfl (by first | assumption | exact SV.nil | exact SV.slv (by assumption) (by omega) (by omega) | exact arv_sv (by first | decide | (simp only [maxLen]; omega)))) rfl ?_
    refine wpl_on rfl rfl ?_
    refine wpl_q (q_pure rfl) rfl ?_
    refine wpl_q (q_pure rfl) rfl ?_
    refine wpl_nil ?_
    refine ex_then ?_
    refine wpc_cond rfl (fun hc19 => ?_) (fun hc19 => ?_)
    ·
     simp only [decide_eq_true_eq] at hc19
     have hR : GreatP ⟨pf, pa, pb, pl, hv, hs⟩ := great_2 (p := ⟨pf, pa, pb, pl, hv, hs⟩) (by show 35 < hs.length; omega)
     refine wpc_seq ?_
     refine wpc_region ?_
     refine wpl_q (q_pure rfl) rfl ?_
     refine wpl_nil ?_
     refine ex_then ?_
     refine wpc_ret ?_
     refine ex_then_ret ?_
     refine ret1 (.inl rfl) rfl rfl ?_
     exact fun w h => ⟨by rw [decide_eq_true hR], h.below⟩
    ·
     simp only [decide_eq_false_iff_not] at hc19
     have h35 : ¬ 35 < hs.length := by omega
     refine wpc_skip ?_
     refine ex_then ?_
     refine wpc_seq ?_
     refine wpc_seq ?_
     refine wpc_region ?_
     refine wpl_q (q_pure rfl) rfl ?_
     refine wpl_nil ?_
     refine ex_then ?_
     refine wpc_block ?_
     refine wpc_loopc (ι := { x : Nat // (x ≤ hs.length) ∧ (∀ j, j < x → ¬ bigH (hs.getD j Hop.z)) }) [(1, _)] (fun x Lc => (3, .int .i64 ((x.1 : Nat) : Int)) :: Lc) (fun x => Mem w [] [.blk b1 29 [.int .u8 (pf.toNat : Int), .int .u64 (pa.toNat : Int), .int .u64 (pb.toNat : Int), .int .i64 pl, hv]] []) (fun x => hs.length - x.1) ⟨0, ⟨Nat.zero_le _, fun j hj => by omega⟩⟩ (by repeat (first | exact trivial | refine ⟨rfl, ?_⟩)) ?_ ?_
     ·
      exact fun w h => h
     ·
      rintro ⟨i, ⟨hi0, hi1⟩⟩; try dsimp only
      have hi0 : i ≤ hs.length := hi0; have hi1 : ∀ j, j < i → ¬ bigH (hs.getD j Hop.z) := hi1
      refine wpc_seq ?_
      refine wpc_seq ?_
      refine wpc_region ?_
      refine wpl_q (q_pure rfl) rfl ?_
      refine wpl_q (q_field Tryd.underlying29 rfl Tryd.ti27 rfl rfl _ rfl) rfl ?_
      refine wpl_q (q_ld Tryd.underlying27 rfl rfl rfl) rfl ?_
      refine wpl_q (q_lenW Tryd.underlying27 rfl (by first | assumption | exact SV.nil | exact SV.slv (by assumption) (by omega) (by omega) | exact arv_sv (by first | decide | (simp only [maxLen]; omega)))) rfl ?_
      refine wpl_q (q_pure rfl) rfl ?_
      refine wpl_nil ?_
      refine ex_then ?_
      refine wpc_cond rfl (fun hc24 => ?_) (fun hc24 => ?_)
      ·
       simp only [decide_eq_true_eq] at hc24
       have hil : i < hs.length := by omega
       have hsi := hq _ (getD_memO hil)
       refine wpc_skip ?_
       refine ex_then ?_
       refine wpc_seq ?_
       refine wpc_block ?_
       refine wpc_seq ?_
       refine wpc_region ?_
       refine wpl_q (q_field Tryd.underlying29 rfl Tryd.ti27 rfl rfl _ rfl) rfl ?_
       refine wpl_q (q_ld Tryd.underlying27 rfl rfl rfl) rfl ?_
       refine wpl_q (q_pure rfl) rfl ?_
       refine wpl_q (q_idxW Tryd.underlying27 Tryd.ti68 rfl rfl (by first | assumption | exact SV.nil | exact SV.slv (by assumption) (by omega) (by omega) | exact arv_sv (by first | decide | (simp only [maxLen]; omega))) (by first | omega | (simp only [maxLen]; omega) | (simp only [List.length_append, List.length_cons, List.length_nil, List.length_take, maxLen]; omega) | (simp only [List.length_append, List.length_cons, List.length_nil, List.length_take]; omega))) rfl ?_
       refine wpl_q (q_fieldPo 21 Tryd.underlying68 rfl Tryd.ti66 rfl rfl rfl) rfl ?_
       refine wpl_q (q_ldWFN Tryd.underlying66 rfl Tryd.ti66 rfl (fun w h => h.seen_old hh) (hs.getD i Hop.z).sig (hcs_sig hil) rfl) rfl ?_
       refine wpl_t (t_pur Tryd.hb36 rfl fun w h => refGreat7 _ _ _ _ _ w (hsi.old h).1 (hsi.old h).2.1 (hsi.old h).2.2.1 (hsi.old h).2.2.2) rfl (fun b33 => ?_)
       refine wpl_nil ?_
       refine ex_then ?_
       refine wpc_cond rfl (fun hc33 => ?_) (fun hc33 => ?_)
       ·
        have hbg : bigH (hs.getD i Hop.z) := of_decide_eq_true hc33
        have hR : GreatP ⟨pf, pa, pb, pl, hv, hs⟩ := great_3 (p := ⟨pf, pa, pb, pl, hv, hs⟩) hil hbg
        refine wpc_seq ?_
        refine wpc_region ?_
        refine wpl_q (q_pure rfl) rfl ?_
        refine wpl_nil ?_
        refine ex_then ?_
        refine wpc_ret ?_
        refine ex_block_ret ?_
        refine ex_then_ret ?_
        refine ex_then_ret ?_
        refine ex_block_ret ?_
        refine ex_then_ret ?_
        refine ret1 (.inl rfl) rfl rfl ?_
        exact fun w h => ⟨by rw [decide_eq_true hR], h.below⟩
       ·
        have hok : ¬ bigH (hs.getD i Hop.z) := of_decide_eq_false hc33
        refine wpc_skip ?_
        refine ex_block ?_
        refine ex_then ?_
        refine wpc_region ?_
        refine wpl_q (q_pure rfl) rfl ?_
        refine wpl_q (q_addN (b := 1) rfl rfl (by first | omega | (simp only [maxLen]; omega) | (simp only [List.length_append, List.length_cons, List.length_nil, List.length_take, maxLen]; omega) | (simp only [List.length_append, List.length_cons, List.length_nil, List.length_take]; omega))) rfl ?_
        refine wpl_q (q_pure rfl) rfl ?_
        refine wpl_nil ?_
        refine ex_again ⟨i + 1, ⟨by show i + 1 ≤ hs.length; omega, fun j hj => by rcases Nat.lt_or_ge j i with h | h; exact hi1 j h; obtain rfl : j = i := (by have hj : j < i + 1 := hj; omega); exact hok⟩⟩ ?_ ?_ ?_
        ·
         exact (by repeat (first | exact trivial | refine ⟨rfl, ?_⟩))
        ·
         exact fun w h => by first | exact h | exact h.sub SubC.h SubC.h | exact h.sub (by repeat (first | exact Sub.nil | exact Sub.refl _ | with_reducible refine Sub.keep ?_ | refine Sub.drop ?_)) (by repeat (first | exact Sub.nil | exact Sub.refl _ | with_reducible refine Sub.keep ?_ | refine Sub.drop ?_))
        ·
         (show hs.length - (i + 1) < hs.length - i); omega
      ·
       simp only [decide_eq_false_iff_not] at hc24
       obtain rfl : i = hs.length := by omega
       have hR : ¬ GreatP ⟨pf, pa, pb, pl, hv, hs⟩ := great_4 (p := ⟨pf, pa, pb, pl, hv, hs⟩) h4 h35 hi1
       refine wpc_exit ?_
       refine ex_then_exit ?_
       refine ex_then_exit ?_
       refine ex_block_hit ?_
       refine ex_then ?_
       refine wpc_seq ?_
       refine wpc_region ?_
       refine wpl_q (q_pure rfl) rfl ?_
       refine wpl_nil ?_
       refine ex_then ?_
       refine wpc_ret ?_
       refine ret1 (.inl rfl) rfl rfl ?_
       exact fun w h => ⟨by rw [decide_eq_false hR], h.below⟩
  ·
   try simp only [decide_eq_false_iff_not] at hb8
   have h4 : ¬ (4 < hs.length ∧ hs.length ≤ 30) := by omega
   refine wpl_off rfl rfl rfl rfl ?_
   refine wpl_off rfl rfl rfl rfl ?_
   refine wpl_off rfl rfl rfl rfl ?_
   refine wpl_off rfl rfl rfl rfl ?_
   refine wpl_q (q_pure rfl) rfl ?_
   refine wpl_q (q_pure rfl) rfl ?_
   refine wpl_on rfl rfl ?_
   refine wpl_q (q_field Tryd.underlying29 rfl Tryd.ti27 rfl rfl _ rfl) rfl ?_
   refine wpl_on rfl rfl ?_
   refine wpl_q (q_ld Tryd.underlying27 rfl rfl rfl) rfl ?_
   refine wpl_on rfl rfl ?_
   refine wpl_q (q_lenW Tryd.underlying27 rfl (by first | assumption | exact SV.nil | exact SV.slv (by assumption) (by omega) (by omega) | exact arv_sv (by first | decide | (simp only [maxLen]; omega)))) rfl ?_
   refine wpl_on rfl rfl ?_
   refine wpl_q (q_pure rfl) rfl ?_
   refine wpl_q (q_pure rfl) rfl ?_
   refine wpl_nil ?_
   refine ex_then ?_
   refine wpc_cond rfl (fun hc19 => ?_) (fun hc19 => ?_)
   ·
    simp only [decide_eq_true_eq] at hc19
    have hR : GreatP ⟨pf, pa, pb, pl, hv, hs⟩ := great_2 (p := ⟨pf, pa, pb, pl, hv, hs⟩) (by show 35 < hs.length; omega)
    refine wpc_seq ?_
    refine wpc_region ?_
    refine wpl_q (q_pure rfl) rfl ?_
    refine wpl_nil ?_
    refine ex_then ?_
    refine wpc_ret ?_
    refine ex_then_ret ?_
    refine ret1 (.inl rfl) rfl rfl ?_
    exact fun w h => ⟨by rw [decide_eq_true hR], h.below⟩
   ·
    simp only [decide_eq_false_iff_not] at hc19
    have h35 : ¬ 35 < hs.length := by omega
    refine wpc_skip ?_
    refine ex_then ?_
    refine wpc_seq ?_
    refine wpc_seq ?_
    refine wpc_region ?_
    refine wpl_q (q_pure rfl) rfl ?_
    refine wpl_nil ?_
    refine ex_then ?_
    refine wpc_block ?_
    refine wpc_loopc (ι := { x : Nat // (x ≤ hs.length) ∧ (∀ j, j < x → ¬ bigH (hs.getD j Hop.z)) }) [(1, _)] (fun x Lc => (3, .int .i64 ((x.1 : Nat) : Int)) :: Lc) (fun x => Mem w [] [.blk b1 29 [.int .u8 (pf.toNat : Int), .int .u64 (pa.toNat : Int), .int .u64 (pb.toNat : Int), .int .i64 pl, hv]] []) (fun x => hs.length - x.1) ⟨0, ⟨Nat.zero_le _, fun j hj => by omega⟩⟩ (by repeat (first | exact trivial | refine ⟨rfl, ?_⟩)) ?_ ?_
    ·
     exact fun w h => h
    ·
     rintro ⟨i, ⟨hi0, hi1⟩⟩; try dsimp only
     have hi0 : i ≤ hs.length := hi0; have hi1 : ∀ j, j < i → ¬ bigH (hs.getD j Hop.z) := hi1
     refine wpc_seq ?_
     refine wpc_seq ?_
     refine wpc_region ?_
     refine wpl_q (q_pure rfl) rfl ?_
     refine wpl_q (q_field Tryd.underlying29 rfl Tryd.ti27 rfl rfl _ rfl) rfl ?_
     refine wpl_q (q_ld Tryd.underlying27 rfl rfl rfl) rfl ?_
     refine wpl_q (q_lenW Tryd.underlying27 rfl (by first | assumption | exact SV.nil | exact SV.slv (by assumption) (by omega) (by omega) | exact arv_sv (by first | decide | (simp only [maxLen]; omega)))) rfl ?_
     refine wpl_q (q_pure rfl) rfl ?_
     refine wpl_nil ?_
     refine ex_then ?_
     refine wpc_cond rfl (fun hc24 => ?_) (fun hc24 => ?_)
     ·
      simp only [decide_eq_true_eq] at hc24
      have hil : i < hs.length := by omega
      have hsi := hq _ (getD_memO hil)
      refine wpc_skip ?_
      refine ex_then ?_
      refine wpc_seq ?_
      refine wpc_block ?_
      refine wpc_seq ?_
      refine wpc_region ?_
      refine wpl_q (q_field Tryd.underlying29 rfl Tryd.ti27 rfl rfl _ rfl) rfl ?_
      refine wpl_q (q_ld Tryd.underlying27 rfl rfl rfl) rfl ?_
      refine wpl_q (q_pure rfl) rfl ?_
      refine wpl_q (q_idxW Tryd.underlying27 Tryd.ti68 rfl rfl (by first | assumption | exact SV.nil | exact SV.slv (by assumption) (by omega) (by omega) | exact arv_sv (by first | decide | (simp only [maxLen]; omega))) (by first | omega | (simp only [maxLen]; omega) | (simp only [List.length_append, List.length_cons, List.length_nil, List.length_take, maxLen]; omega) | (simp only [List.length_append, List.length_cons, List.length_nil, List.length_take]; omega))) rfl ?_
      refine wpl_q (q_fieldPo 21 Tryd.underlying68 rfl Tryd.ti66 rfl rfl rfl) rfl ?_
      refine wpl_q (q_ldWFN Tryd.underlying66 rfl Tryd.ti66 rfl (fun w h => h.seen_old hh) (hs.getD i Hop.z).sig (hcs_sig hil) rfl) rfl ?_
      refine wpl_t (t_pur Tryd.hb36 rfl fun w h => refGreat7 _ _ _ _ _ w (hsi.old h).1 (hsi.old h).2.1 (hsi.old h).2.2.1 (hsi.old h).2.2.2) rfl (fun b33 => ?_)
      refine wpl_nil ?_
      refine ex_then ?_
      refine wpc_cond rfl (fun hc33 => ?_) (fun hc33 => ?_)
      ·
       have hbg : bigH (hs.getD i Hop.z) := of_decide_eq_true hc33
       have hR : GreatP ⟨pf, pa, pb, pl, hv, hs⟩ := great_3 (p := ⟨pf, pa, pb, pl, hv, hs⟩) hil hbg
       refine wpc_seq ?_
       refine wpc_region ?_
       refine wpl_q (q_pure rfl) rfl ?_
       refine wpl_nil ?_
       refine ex_then ?_
       refine wpc_ret ?_
       refine ex_block_ret ?_
       refine ex_then_ret ?_
       refine ex_then_ret ?_
       refine ex_block_ret ?_
       refine ex_then_ret ?_
       refine ret1 (.inl rfl) rfl rfl ?_
       exact fun w h => ⟨by rw [decide_eq_true hR], h.below⟩
      ·
       have hok : ¬ bigH (hs.getD i Hop.z) := of_decide_eq_false hc33
       refine wpc_skip ?_
       refine ex_block ?_
       refine ex_then ?_
       refine wpc_region ?_
       refine wpl_q (q_pure rfl) rfl ?_
       refine wpl_q (q_addN (b := 1) rfl rfl (by first | omega | (simp only [maxLen]; omega) | (simp only [List.length_append, List.length_cons, List.length_nil, List.length_take, maxLen]; omega) | (simp only [List.length_append, List.length_cons, List.length_nil, List.length_take]; omega))) rfl ?_
       refine wpl_q (q_pure rfl) rfl ?_
       refine wpl_nil ?_
       refine ex_again ⟨i + 1, ⟨by show i + 1 ≤ hs.length; omega, fun j hj => by rcases Nat.lt_or_ge j i with h | h; exact hi1 j h; obtain rfl : j = i := (by have hj : j < i + 1 := hj; omega); exact hok⟩⟩ ?_ ?_ ?_
       ·
        exact (by repeat (first | exact trivial | refine ⟨rfl, ?_⟩))
       ·
        exact fun w h => by first | exact h | exact h.sub SubC.h SubC.h | exact h.sub (by repeat (first | exact Sub.nil | exact Sub.refl _ | with_reducible refine Sub.keep ?_ | refine Sub.drop ?_)) (by repeat (first | exact Sub.nil | exact Sub.refl _ | with_reducible refine Sub.keep ?_ | refine Sub.drop ?_))
       ·
        (show hs.length - (i + 1) < hs.length - i); omega
     ·
      simp only [decide_eq_false_iff_not] at hc24
      obtain rfl : i = hs.length := by omega
      have hR : ¬ GreatP ⟨pf, pa, pb, pl, hv, hs⟩ := great_4 (p := ⟨pf, pa, pb, pl, hv, hs⟩) h4 h35 hi1
      refine wpc_exit ?_
      refine ex_then_exit ?_
      refine ex_then_exit ?_
      refine ex_block_hit ?_
      refine ex_then ?_
      refine wpc_seq ?_
      refine wpc_region ?_
      refine wpl_q (q_pure rfl) rfl ?_
      refine wpl_nil ?_
      refine ex_then ?_
      refine wpc_ret ?_
      refine ret1 (.inl rfl) rfl rfl ?_
      exact fun w h => ⟨by rw [decide_eq_false hR], h.below⟩

end Go.Proofs.YtjpfhkjmjnjggaaDoor

namespace Go.Proofs.YtjpfhkjmjnjggaaDoor
set_option linter.unusedSimpArgs false
set_option linter.unusedVariables false
open Go Go.PL Go.RowKit

instance lenC_pthz : LenC Pth.z.c 5 := ⟨rfl⟩
end Go.Proofs.YtjpfhkjmjnjggaaDoor

namespace Go.Proofs.YtjpfhkjmjnjggaaDoor
set_option linter.unusedSimpArgs false
set_option linter.unusedVariables false
open Go Go.PL Go.RowKit

instance lenC_pth {p : Pth} : LenC p.c 5 := ⟨rfl⟩

end Go.Proofs.YtjpfhkjmjnjggaaDoor

namespace Go.Proofs.YtjpfhkjmjnjggaaDoor
set_option linter.unusedSimpArgs false
set_option linter.unusedVariables false
open Go Go.PL Go.RowKit

theorem sixteen {l : List UInt8} (h : l.length = 16) : ∃ a0 a1 a2 a3 a4 a5 a6 a7 a8 a9 b0 b1 b2 b3 b4 b5, l = [a0, a1, a2, a3, a4, a5, a6, a7, a8, a9, b0, b1, b2, b3, b4, b5] := by
  match l, h with
  | [a0, a1, a2, a3, a4, a5, a6, a7, a8, a9, b0, b1, b2, b3, b4, b5], _ => exact ⟨_, _, _, _, _, _, _, _, _, _, _, _, _, _, _, _, rfl⟩


abbrev RK := UInt32 × S16 × Int
def RK.c (k : RK) : List Value := .int .u32 (k.1.toNat : Int) :: (v8s k.2.1.1 ++ [.int .i64 k.2.2])
def RK.z : RK := (0, ⟨List.replicate 16 0, rfl⟩, 0)
theorem RK.c_length (k : RK) : (RK.c k).length = 18 := by simp [RK.c, v8s_length, k.2.1.2]
instance lenC_rk {k : RK} : LenC (RK.c k) 18 := ⟨RK.c_length k⟩
theorem RK.c_one (k : RK) : ∀ u ∈ RK.c k, u.oneCell' = true := by
  intro u hu
  simp only [RK.c, List.mem_cons, List.mem_append, List.not_mem_nil, or_false] at hu
  rcases hu with rfl | hu | rfl
  · rfl
  · exact v8s_one _ u hu
  · rfl
instance oneC_rk {k : RK} : OneC (RK.c k) := ⟨RK.c_one k⟩
def rks (l : List RK) : List Value := (l.map RK.c).flatten
theorem RK.c_inj {k l : RK} (h : RK.c k = RK.c l) : k = l := by
  unfold RK.c at h
  obtain ⟨h1, h2⟩ := List.cons.inj h
  obtain ⟨h3, h4⟩ := List.append_inj h2 (by rw [v8s_length, v8s_length, k.2.1.2, l.2.1.2])
  have e1 : k.1 = l.1 := u32_inj h1
  have e2 : k.2.1 = l.2.1 := Subtype.ext (v8s_inj h3)
  have e3 : k.2.2 = l.2.2 := by simpa using h4
  exact Prod.ext e1 (Prod.ext e2 e3)
def WK (cs : List Value) : Prop := cs.length = 17 ∧ ((((cs.drop 0).take 16).length = 16 ∧ ∀ i, i < 16 → IntCell .u8 ((((cs.drop 0).take 16).drop (i * 1)).take 1)) ∧ (IntCell .i64 ((cs.drop (0 + 16)).take 1) ∧ True))
set_option maxRecDepth 100000 in
theorem eqRK : EqC Tryd.prog 4 80 true 18 (fun cs => cs.length = 18 ∧ (IntCell .u32 ((cs.drop 0).take 1) ∧ (WK ((cs.drop (0 + 1)).take 17) ∧ True))) := by
  refine eqc_struct Tryd.underlying80 Tryd.ti80 (by kernel_rfl) ?_
  refine EqFs.cons (sz := 1) (W := IntCell .u32) (W' := fun cs => WK ((cs.drop (0 + 1)).take 17) ∧ True) (by kernel_rfl) rfl (eqc_up (dp' := 3) (eqc_int Tryd.underlying49 Tryd.ti49) (by decide)) ?_
  refine EqFs.cons (sz := 17) (W := WK) (W' := fun _ => True) (by kernel_rfl) rfl eqk ?_
  exact EqFs.nil _
theorem wRK (k : RK) : (RK.c k).length = 18 ∧ (IntCell .u32 (((RK.c k).drop 0).take 1) ∧ (WK (((RK.c k).drop (0 + 1)).take 17) ∧ True)) := by
  refine ⟨RK.c_length k, ⟨_, rfl⟩, ?_, trivial⟩
  have e : ((RK.c k).drop (0 + 1)).take 17 = v8s k.2.1.1 ++ [.int .i64 k.2.2] := List.take_of_length_le (by simp [RK.c, v8s_length, k.2.1.2])
  rw [e]
  exact wkey _ k.2.1.2
theorem q_eqRK {n : Cx} {R : World → Prop} {L : Slots} {t' : TypeId} {x y : Operand} {k l : RK} (hx : ev L x = some (.agg (RK.c k).toArray)) (hy : ev L y = some (.agg (RK.c l).toArray)) :
    QOp Tryd.prog n R L (.binOp .eql 80 x y t') (.bool (decide (k = l))) :=
  q_eqA eqRK (by decide) (by kernel_rfl) hx hy (wRK k) (wRK l) _ (by
    rw [decide_eq_true_eq]
    exact ⟨fun h => by rw [h], RK.c_inj⟩)
def idxF (ks : List RK) (k : RK) : Int := if k ∈ ks then ((ks.findIdx (fun x => decide (x = k)) : Nat) : Int) else -1
theorem idxF_ge (ks : List RK) (k : RK) : (0 ≤ idxF ks k) ↔ k ∈ ks := by
  unfold idxF
  split
  · rename_i h; exact ⟨fun _ => h, fun _ => Int.natCast_nonneg _⟩
  · rename_i h; exact ⟨fun q => absurd q (by decide), fun q => absurd q h⟩
theorem getD_memRK {l : List RK} {i : Nat} (h : i < l.length) : l.getD i RK.z ∈ l := by
  rw [List.getD_eq_getElem?_getD, List.getElem?_eq_getElem h]; exact List.getElem_mem h
theorem getD_RK {l : List RK} {i : Nat} (h : i < l.length) : l.getD i RK.z = l[i] := by
  rw [List.getD_eq_getElem?_getD, List.getElem?_eq_getElem h]; rfl
theorem idxF_at {ks : List RK} {k : RK} {i : Nat} (hi : i < ks.length) (h : ks.getD i RK.z = k) (hb : ∀ j, j < i → ks.getD j RK.z ≠ k) : idxF ks k = (i : Int) := by
  unfold idxF
  rw [if_pos (h ▸ getD_memRK hi)]
  congr 1
  rw [List.findIdx_eq hi]
  refine ⟨by rw [← getD_RK hi, h]; exact decide_eq_true rfl, fun j hj => ?_⟩
  have := hb j hj
  rw [getD_RK (by omega)] at this
  exact decide_eq_false this
theorem mem_RK {ks : List RK} {k : RK} (h : ∀ j, j < ks.length → ks.getD j RK.z ≠ k) : ¬ k ∈ ks := fun hm => by
  obtain ⟨i, hi, he⟩ := List.mem_iff_getElem.1 hm
  exact h i hi (by rw [getD_RK hi]; exact he)
theorem idxF_no {ks : List RK} {k : RK} (h : ∀ j, j < ks.length → ks.getD j RK.z ≠ k) : idxF ks k = -1 := if_neg (mem_RK h)
theorem built_rk (a : UInt32) (r : S16) (t : Int) : Tryd.prog.built 80 [(0, .int .u32 (a.toNat : Int)), (1, .agg (v8s r.1 ++ [Value.int .i64 t]).toArray)] = some (RK.c (a, r, t)).toArray := by
  obtain ⟨l, hl⟩ := r
  obtain ⟨a0, a1, a2, a3, a4, a5, a6, a7, a8, a9, b0, b1, b2, b3, b4, b5, rfl⟩ := sixteen hl
  kernel_rfl

end Go.Proofs.YtjpfhkjmjnjggaaDoor

namespace Go.Proofs.YtjpfhkjmjnjggaaDoor
set_option linter.unusedSimpArgs false
set_option linter.unusedVariables false
open Go Go.PL Go.RowKit
set_option maxRecDepth 100000 in
theorem index (kv : Value) (ks : List RK) (k : RK) (w : World) (hkv : Seen w.cell? kv ks.length 18 (rks ks))  :
    Calls Tryd.prog 71 [kv, .agg (RK.c k).toArray].toArray w (Pur w (.int .i64 (idxF ks k))) := by
  have skv := hkv.sv
  have lkv := skv.le
  simp only [maxLen] at lkv
  refine enter (m := 19) (R := Mem w [] [] []) Tryd.func71 rfl rfl (Nat.le_of_ble_eq_true rfl) (Mem.start w) ?_
  refine wpc_seq ?_
  refine wpc_region ?_
  refine wpl_t (t_box rfl (RK.c k) rfl) rfl (fun b3 => ?_)
  refine wpl_q (q_pure rfl) rfl ?_
  refine wpl_nil ?_
  refine ex_then ?_
  refine wpc_seq ?_
  refine wpc_seq ?_
  refine wpc_region ?_
  refine wpl_q (q_pure rfl) rfl ?_
  refine wpl_q (q_lenW Tryd.underlying50 rfl (by first | assumption | exact SV.nil | exact SV.slv (by assumption) (by omega) (by omega) | exact arv_sv (by first | decide | (simp only [maxLen]; omega)))) rfl ?_
  refine wpl_q (q_pure rfl) rfl ?_
  refine wpl_nil ?_
  refine ex_then ?_
  refine wpc_block ?_
  refine wpc_loopc (ι := { x : Nat // (x ≤ ks.length) ∧ (∀ j, j < x → ks.getD j RK.z ≠ k) }) [(0, _), (3, _), (7, _)] (fun x Lc => (8, .int .i64 ((x.1 : Nat) : Int)) :: Lc) (fun x => Mem w [] [.blk b3 80 (RK.c k)] []) (fun x => ks.length - x.1) ⟨0, ⟨Nat.zero_le _, fun j hj => by omega⟩⟩ (by repeat (first | exact trivial | refine ⟨rfl, ?_⟩)) ?_ ?_
  ·
   exact fun w h => h
  ·
   rintro ⟨i, ⟨hi0, hi1⟩⟩; try dsimp only
   have hi0 : i ≤ ks.length := hi0; have hi1 : ∀ j, j < i → ks.getD j RK.z ≠ k := hi1
   refine wpc_seq ?_
   refine wpc_region ?_
   refine wpl_q (q_pure rfl) rfl ?_
   refine wpl_nil ?_
   refine ex_then ?_
   refine wpc_seq ?_
   refine wpc_cond rfl (fun hc9 => ?_) (fun hc9 => ?_)
   ·
    simp only [decide_eq_true_eq] at hc9
    have hil : i < ks.length := by omega
    refine wpc_skip ?_
    refine ex_then ?_
    refine wpc_seq ?_
    refine wpc_block ?_
    refine wpc_seq ?_
    refine wpc_region ?_
    refine wpl_q (q_pure rfl) rfl ?_
    refine wpl_q (q_pure rfl) rfl ?_
    refine wpl_nil ?_
    refine ex_then ?_
    refine wpc_seq ?_
    refine wpc_draw 6 (by kernel_rfl) (fun _ h => h.drew) ?_
    refine wpd_q 0 rfl (by kernel_rfl) trivial (q_ldN Tryd.underlying80 rfl Tryd.ti80 rfl LenC.h) rfl (fun _ h => h) ?_
    refine wpd_p 1 rfl (by kernel_rfl) trivial (q_pure rfl) rfl sk0 ?_
    refine wpd_p 2 rfl (by kernel_rfl) trivial (q_pure rfl) rfl sk0 ?_
    refine wpd_p 3 rfl (by kernel_rfl) trivial (q_idxW Tryd.underlying50 Tryd.ti80 rfl rfl (by first | assumption | exact SV.nil | exact SV.slv (by assumption) (by omega) (by omega) | exact arv_sv (by first | decide | (simp only [maxLen]; omega))) (by first | omega | (simp only [maxLen]; omega) | (simp only [List.length_append, List.length_cons, List.length_nil, List.length_take, maxLen]; omega) | (simp only [List.length_append, List.length_cons, List.length_nil, List.length_take]; omega))) rfl sk0 ?_
    refine wpd_q 4 rfl (by kernel_rfl) trivial (q_ldWN Tryd.underlying80 rfl Tryd.ti80 rfl (fun w h => h.seen_old hkv) (RK.c (ks.getD i RK.z)) (cat_part RK.c_length RK.z hil) (RK.c_length _)) rfl (fun _ h => h) ?_
    refine wpd_q 5 rfl (by kernel_rfl) trivial (q_eqRK rfl rfl) rfl (fun _ h => h) ?_
    refine wpd_done (by kernel_rfl) ?_
    refine ex_then ?_
    refine wpc_cond rfl (fun hc16 => ?_) (fun hc16 => ?_)
    ·
     have he : k = (ks.getD i RK.z) := of_decide_eq_true hc16
     have hR := idxF_at hil he.symm hi1
     refine wpc_seq ?_
     refine wpc_region ?_
     refine wpl_q (q_pure rfl) rfl ?_
     refine wpl_q (q_pure rfl) rfl ?_
     refine wpl_nil ?_
     refine ex_then ?_
     refine wpc_ret ?_
     refine ex_block_ret ?_
     refine ex_then_ret ?_
     refine ex_then_ret ?_
     refine ex_block_ret ?_
     refine ex_then_ret ?_
     refine ret1 (.inl rfl) rfl rfl ?_
     exact fun w h => ⟨by rw [hR], h.below⟩
    ·
     have hne : ¬ k = (ks.getD i RK.z) := of_decide_eq_false hc16
     refine wpc_skip ?_
     refine ex_block ?_
     refine ex_then ?_
     refine wpc_region ?_
     refine wpl_q (q_addN (b := 1) rfl rfl (by first | omega | (simp only [maxLen]; omega) | (simp only [List.length_append, List.length_cons, List.length_nil, List.length_take, maxLen]; omega) | (simp only [List.length_append, List.length_cons, List.length_nil, List.length_take]; omega))) rfl ?_
     refine wpl_q (q_pure rfl) rfl ?_
     refine wpl_nil ?_
     refine ex_again ⟨i + 1, ⟨by show i + 1 ≤ ks.length; omega, fun j hj => by rcases Nat.lt_or_ge j i with h | h; exact hi1 j h; obtain rfl : j = i := (by have hj : j < i + 1 := hj; omega); exact fun e => hne e.symm⟩⟩ ?_ ?_ ?_
     ·
      exact (by repeat (first | exact trivial | refine ⟨rfl, ?_⟩))
     ·
      exact fun w h => by first | exact h | exact h.sub SubC.h SubC.h | exact h.sub (by repeat (first | exact Sub.nil | exact Sub.refl _ | with_reducible refine Sub.keep ?_ | refine Sub.drop ?_)) (by repeat (first | exact Sub.nil | exact Sub.refl _ | with_reducible refine Sub.keep ?_ | refine Sub.drop ?_))
     ·
      (show ks.length - (i + 1) < ks.length - i); omega
   ·
    simp only [decide_eq_false_iff_not] at hc9
    obtain rfl : i = ks.length := by omega
    refine wpc_exit ?_
    refine ex_then_exit ?_
    refine ex_then_exit ?_
    refine ex_block_hit ?_
    refine ex_then ?_
    refine wpc_seq ?_
    refine wpc_region ?_
    refine wpl_q (q_pure rfl) rfl ?_
    refine wpl_nil ?_
    refine ex_then ?_
    refine wpc_ret ?_
    refine ret1 (.inl rfl) rfl rfl ?_
    exact fun w h => ⟨by rw [idxF_no hi1], h.below⟩

set_option maxRecDepth 100000 in
theorem contains (kv : Value) (ks : List RK) (k : RK) (w : World) (hkv : Seen w.cell? kv ks.length 18 (rks ks))  :
    Calls Tryd.prog 48 [kv, .agg (RK.c k).toArray].toArray w (Pur w (.bool (decide (k ∈ ks)))) := by
  have skv := hkv.sv
  have lkv := skv.le
  simp only [maxLen] at lkv
  refine enter (m := 9) (R := Mem w [] [] []) Tryd.func48 rfl rfl (Nat.le_of_ble_eq_true rfl) (Mem.start w) ?_
  refine wpc_seq ?_
  refine wpc_region ?_
  refine wpl_t (t_box rfl (RK.c k) rfl) rfl (fun b3 => ?_)
  refine wpl_q (q_pure rfl) rfl ?_
  refine wpl_nil ?_
  refine ex_then ?_
  refine wpc_seq ?_
  refine wpc_region ?_
  refine wpl_q (q_pure rfl) rfl ?_
  refine wpl_q (q_ldN Tryd.underlying80 rfl Tryd.ti80 rfl LenC.h) rfl ?_
  refine wpl_t (t_pur Tryd.hb71 rfl fun w h => index kv ks k w (h.seen_old hkv)) rfl (fun b7 => ?_)
  refine wpl_q (q_pure rfl) rfl ?_
  refine wpl_q (q_pure rfl) rfl ?_
  refine wpl_nil ?_
  refine ex_then ?_
  refine wpc_ret ?_
  refine ret1 (.inl rfl) rfl rfl ?_
  exact fun w h => ⟨by rw [decide_eq_decide.2 (idxF_ge ks k).symm], h.below⟩


def Hop.rk (h : Hop) : RK := (h.sy, h.root, h.ht)

set_option maxRecDepth 100000 in
theorem wrong1 (hp : Hop) (pb : Nat) (kv : Value) (ks : List RK) (w : World) (hsv : hp.sv) (hpb : CellsAt w.cell? ⟨pb, 0, none⟩ [kv]) (hkv : Seen w.cell? kv ks.length 18 (rks ks)) :
    Calls Tryd.prog 47 [.agg hp.c.toArray, .pointer (some ⟨pb, 0, none⟩)].toArray w (Pur w (.bool (decide (hp.rk ∈ ks)))) := by
  haveI := hsv.one
  refine enter (m := 11) (R := Mem w [] [] []) Tryd.func47 rfl rfl (Nat.le_of_ble_eq_true rfl) (Mem.start w) ?_
  refine wpc_seq ?_
  refine wpc_region ?_
  refine wpl_t (t_box rfl hp.c rfl) rfl (fun b2 => ?_)
  refine wpl_q (q_pure rfl) rfl ?_
  refine wpl_nil ?_
  refine ex_then ?_
  refine wpc_seq ?_
  refine wpc_region ?_
  refine wpl_q (q_load1 Tryd.underlying50 rfl rfl (fun w h => (h.at_old hpb 0 kv rfl : w.cell? (Addr.add ⟨pb, 0, none⟩ 0) = some kv))) rfl ?_
  refine wpl_q (q_field Tryd.underlying68 rfl Tryd.ti49 rfl rfl _ rfl) rfl ?_
  refine wpl_q (q_ld Tryd.underlying49 rfl rfl hp.c_sy) rfl ?_
  refine wpl_q (q_field Tryd.underlying68 rfl Tryd.ti63 rfl rfl _ rfl) rfl ?_
  refine wpl_q (q_ldP Tryd.underlying63 rfl Tryd.ti63 rfl hp.key hp.c_key hp.key_length) rfl ?_
  refine wpl_q (q_build (cs := RK.c hp.rk) rfl (built_rk hp.sy hp.root hp.ht)) rfl ?_
  refine wpl_t (t_pur Tryd.hb48 rfl fun w h => contains kv ks hp.rk w (h.seen_old hkv)) rfl (fun b10 => ?_)
  refine wpl_q (q_pure rfl) rfl ?_
  refine wpl_nil ?_
  refine ex_then ?_
  refine wpc_ret ?_
  refine ret1 (.inl rfl) rfl rfl ?_
  exact fun w h => ⟨rfl, h.below⟩

end Go.Proofs.YtjpfhkjmjnjggaaDoor

namespace Go.Proofs.YtjpfhkjmjnjggaaDoor
set_option linter.unusedSimpArgs false
set_option linter.unusedVariables false
open Go Go.PL Go.RowKit

theorem rdo_all {w0 w : World} {M : List Ent} {S : List Fact} (h : Mem w0 [] M S w) : ∀ a v, w0.cell? a = some v → rdO (nums M) w a = some v := fun a v hv => by
  unfold rdO
  rw [if_neg]
  · exact h.cell_old hv
  · intro hm
    obtain ⟨f, hf, hn⟩ := mem_nums.1 hm
    rcases h.new f hf _ hn with h4 | h4
    · have := World.block_lt_of_cell? w0 a hv; omega
    · cases h4
theorem glob_all {w0 w1 w2 : World} {M M2 : List Ent} {S S2 : List Fact} (h : Mem w0 [] M S w1) (h2 : Mem w1 (nums M) M2 S2 w2) (hG : Glb w0) : Glb w2 := ⟨hG.1.mono fun a v hv => rdo_old h2 a v (rdo_all h a v hv), Nat.lt_of_lt_of_le hG.2 (Nat.le_trans h.size h2.size)⟩
theorem seen_all {w0 w1 w2 : World} {M M2 : List Ent} {S S2 : List Fact} (h : Mem w0 [] M S w1) (h2 : Mem w1 (nums M) M2 S2 w2) {v : Value} {m sz : Nat} {vs : List Value} (hs : Seen w0.cell? v m sz vs) : Seen w2.cell? v m sz vs := hs.mono fun a u hv => rdo_old h2 a u (rdo_all h a u hv)
theorem hop_all {w0 w1 w2 : World} {M M2 : List Ent} {S S2 : List Fact} (h : Mem w0 [] M S w1) (h2 : Mem w1 (nums M) M2 S2 w2) {x : Hop} (hs : x.seen w0.cell?) : x.seen w2.cell? := hs.mono fun a u hv => rdo_old h2 a u (rdo_all h a u hv)
theorem inM_nums {M : List Ent} {k : Nat} (h : inM M k = false) : k ∉ nums M := fun hm => by
  obtain ⟨f, hf, hn⟩ := mem_nums.1 hm
  exact inM_not h f hf hn
/-- The signature of a hop holds for a message. -/
def verH (h : Hop) (b : List UInt8) : Prop := checkF h.ht h.ix h.chs.length h.ps.length = 0 ∧ rootF h.ht h.ix b h.chs h.ps = h.root.1
instance {h : Hop} {b : List UInt8} : Decidable (verH h b) := by unfold verH; exact inferInstance
/-- A hop is wrong. -/
def wrongH (p : Pth) (ks : List RK) (i : Nat) : Prop := ¬ (p.hs.getD i Hop.z).rk ∈ ks ∨ ¬ verH (p.hs.getD i Hop.z) (msgB p i)
instance {p : Pth} {ks : List RK} {i : Nat} : Decidable (wrongH p ks i) := by unfold wrongH; exact inferInstance
def firstW (p : Pth) (ks : List RK) : Int := match (List.range p.hs.length).find? (fun i => decide (wrongH p ks i)) with
  | some i => (i : Int)
  | none => -1
theorem firstW_at {p : Pth} {ks : List RK} {i : Nat} (hi : i < p.hs.length) (h : wrongH p ks i) (hb : ∀ j, j < i → ¬ wrongH p ks j) : firstW p ks = (i : Int) := by
  have e : (List.range p.hs.length).find? (fun i => decide (wrongH p ks i)) = some i := by
    rw [List.find?_eq_some_iff_append]
    refine ⟨decide_eq_true h, List.range i, (List.range (p.hs.length - i)).map (i + 1 + ·) |>.take (p.hs.length - i - 1), ?_, fun j hj => by rw [List.mem_range] at hj; simpa using hb j hj⟩
    apply List.ext_getElem
    · simp; omega
    · intro m h1 h2
      rw [List.getElem_range]
      rw [List.getElem_append]
      split
      · rw [List.getElem_range]
      · rename_i hm
        rw [List.length_range] at hm
        rcases Nat.lt_or_ge i m with h3 | h3
        · rw [List.getElem_cons]
          split
          · simp at *; omega
          · simp; omega
        · obtain rfl : m = i := by omega
          simp
  unfold firstW
  rw [e]
theorem firstW_no {p : Pth} {ks : List RK} (h : ∀ j, j < p.hs.length → ¬ wrongH p ks j) : firstW p ks = -1 := by
  have e : (List.range p.hs.length).find? (fun i => decide (wrongH p ks i)) = none := List.find?_eq_none.2 fun j hj => by
    rw [List.mem_range] at hj; simpa using h j hj
  unfold firstW
  rw [e]
def wrE (p : Pth) (ks : List RK) : Int := if chkP p ≠ 0 then chkP p else if 100 < ks.length then 4 else 0
def wrI (p : Pth) (ks : List RK) : Int := if wrE p ks = 0 then firstW p ks else 0
theorem wrE_chk {p : Pth} {ks : List RK} (h : chkP p ≠ 0) : wrE p ks = chkP p := if_pos h
theorem wrE_many {p : Pth} {ks : List RK} (h : chkP p = 0) (h2 : 100 < ks.length) : wrE p ks = 4 := (if_neg (by simp [h])).trans (if_pos h2)
theorem wrE_ok {p : Pth} {ks : List RK} (h : chkP p = 0) (h2 : ¬ 100 < ks.length) : wrE p ks = 0 := (if_neg (by simp [h])).trans (if_neg h2)
theorem wrI_no {p : Pth} {ks : List RK} (h : wrE p ks ≠ 0) : wrI p ks = 0 := if_neg h
theorem wrI_ok {p : Pth} {ks : List RK} (h : wrE p ks = 0) : wrI p ks = firstW p ks := if_pos h
theorem msgs_before {p : Pth} {pre : List (Nat × List UInt8)} {x : Nat × List UInt8} (h : (pre ++ [x]) <+: msgs p) : ∀ j, j < x.1 → ∃ y ∈ pre, y.1 = j := fun j hj => by
  obtain ⟨t, ht⟩ := h
  have hl : pre.length < (msgs p).length := by rw [← ht]; simp
  have e : (msgs p)[pre.length]? = some x := by rw [← ht]; simp
  rw [msgs_len] at hl
  rw [msgs, List.getElem?_map, List.getElem?_range hl] at e
  cases e
  have e2 : (msgs p)[j]? = pre[j]? := by
    rw [← ht, List.append_assoc, List.getElem?_append_left hj]
  rw [msgs, List.getElem?_map, List.getElem?_range (Nat.lt_trans hj hl), List.getElem?_eq_getElem hj] at e2
  refine ⟨pre[j], List.getElem_mem hj, ?_⟩
  exact (congrArg Prod.fst (Option.some.inj e2)).symm

end Go.Proofs.YtjpfhkjmjnjggaaDoor

namespace Go.Proofs.YtjpfhkjmjnjggaaDoor
set_option linter.unusedSimpArgs false
set_option linter.unusedVariables false
open Go Go.PL Go.RowKit

theorem wrE_inv {p : Pth} {ks : List RK} (h : wrE p ks = 0) : chkP p = 0 ∧ ks.length ≤ 100 := by
  unfold wrE at h
  split at h
  · rename_i hk; exact absurd h hk
  · rename_i hk
    split at h
    · cases h
    · exact ⟨Decidable.not_not.1 hk, by omega⟩

set_option maxRecDepth 100000 in
theorem wrong (p : Pth) (kv : Value) (ks : List RK) (w : World) (hp : p.seen w.cell?) (hkv : Seen w.cell? kv ks.length 18 (rks ks)) (hlim : SmP p) (hG : Glb w) :
    Calls Tryd.prog 22 [.agg p.c.toArray, kv].toArray w (Pur w (.tuple #[.int .i64 (wrI p ks), .int .i64 (wrE p ks)])) := by
  obtain ⟨pf, pa, pb, pl, hv, hs⟩ := p
  have hh : Seen w.cell? hv hs.length 24 (hcs hs) := hp.1
  have svh := hh.sv
  have lh := svh.le
  simp only [maxLen] at lh
  have skv := hkv.sv
  have lkv := skv.le
  simp only [maxLen] at lkv
  refine enterN (m := 47) (R := Mem w [] [] []) Tryd.func22 rfl rfl (Nat.le_of_ble_eq_true rfl) (Mem.start w) ?_
  refine wpc_seq ?_
  refine wpc_region ?_
  refine wpl_t (t_box rfl [.int .u8 (pf.toNat : Int), .int .u64 (pa.toNat : Int), .int .u64 (pb.toNat : Int), .int .i64 pl, hv] rfl) rfl (fun b2 => ?_)
  refine wpl_t (t_box rfl [kv] skv.cells) rfl (fun b3 => ?_)
  refine wpl_t (t_alloc Tryd.ti3 [.int .i64 0] rfl) rfl (fun b4 => ?_)
  refine wpl_t (t_alloc Tryd.ti33 [.int .i64 0] rfl) rfl (fun b5 => ?_)
  refine wpl_nil ?_
  refine ex_then ?_
  refine wpc_seq ?_
  refine wpc_region ?_
  refine wpl_q (q_ldN Tryd.underlying29 rfl Tryd.ti29 rfl LenC.h) rfl ?_
  refine wpl_t (t_pur Tryd.hb17 rfl fun w h => hopCheck ⟨pf, pa, pb, pl, hv, hs⟩ w (hp.old h)) rfl (fun b12 => ?_)
  refine wpl_q (q_pure rfl) rfl ?_
  refine wpl_nil ?_
  refine ex_then ?_
  refine wpc_cutc ({ x : Int // (x = wrE ⟨pf, pa, pb, pl, hv, hs⟩ ks) }) [(2, .pointer (some ⟨b2, 0, none⟩)), (3, .pointer (some ⟨b3, 0, none⟩)), (4, .pointer (some ⟨b4, 0, none⟩)), (5, .pointer (some ⟨b5, 0, none⟩))] (fun x Lc => (6, .int .i64 x.1) :: Lc) (fun x => Mem w [] [.blk b5 33 [.int .i64 0], .blk b4 3 [.int .i64 0], .blk b3 50 [kv], .blk b2 29 [.int .u8 (pf.toNat : Int), .int .u64 (pa.toNat : Int), .int .u64 (pb.toNat : Int), .int .i64 pl, hv]] []) ?_ ?_
  ·
   refine wpc_seq ?_
   refine wpc_region ?_
   refine wpl_q (q_pure rfl) rfl ?_
   refine wpl_q (q_pure rfl) rfl ?_
   refine wpl_q (q_pure rfl) rfl ?_
   refine wpl_bool2 15 14 rfl rfl (fun hb15 => ?_) (fun hb15 => ?_)
   ·
    have hk0 : chkP ⟨pf, pa, pb, pl, hv, hs⟩ = 0 := by simpa using hb15
    refine wpl_on rfl rfl ?_
    refine wpl_q (q_ld Tryd.underlying50 rfl rfl rfl) rfl ?_
    refine wpl_on rfl rfl ?_
    refine wpl_q (q_lenW Tryd.underlying50 rfl (by first | assumption | exact SV.nil | exact SV.slv (by assumption) (by omega) (by omega) | exact arv_sv (by first | decide | (simp only [maxLen]; omega)))) rfl ?_
    refine wpl_on rfl rfl ?_
    refine wpl_q (q_pure rfl) rfl ?_
    refine wpl_q (q_pure rfl) rfl ?_
    refine wpl_nil ?_
    refine ex_then ?_
    refine wpc_cond rfl (fun hc19 => ?_) (fun hc19 => ?_)
    ·
     simp only [decide_eq_true_eq] at hc19
     have hX : 4 = wrE ⟨pf, pa, pb, pl, hv, hs⟩ ks := (wrE_many hk0 (by omega)).symm
     refine wpc_region ?_
     refine wpl_q (q_pure rfl) rfl ?_
     refine wpl_nil ?_
     refine ex_mid ⟨4, hX⟩ ?_ ?_
     ·
      exact (by repeat (first | exact trivial | refine ⟨rfl, ?_⟩))
     ·
      exact fun w h => by first | exact h | exact h.sub SubC.h SubC.h | exact h.sub (by repeat (first | exact Sub.nil | exact Sub.refl _ | with_reducible refine Sub.keep ?_ | refine Sub.drop ?_)) (by repeat (first | exact Sub.nil | exact Sub.refl _ | with_reducible refine Sub.keep ?_ | refine Sub.drop ?_))
    ·
     simp only [decide_eq_false_iff_not] at hc19
     have hX : chkP ⟨pf, pa, pb, pl, hv, hs⟩ = wrE ⟨pf, pa, pb, pl, hv, hs⟩ ks := hk0.trans (wrE_ok hk0 (by omega)).symm
     refine wpc_skip ?_
     refine ex_mid ⟨chkP ⟨pf, pa, pb, pl, hv, hs⟩, hX⟩ ?_ ?_
     ·
      exact (by repeat (first | exact trivial | refine ⟨rfl, ?_⟩))
     ·
      exact fun w h => by first | exact h | exact h.sub SubC.h SubC.h | exact h.sub (by repeat (first | exact Sub.nil | exact Sub.refl _ | with_reducible refine Sub.keep ?_ | refine Sub.drop ?_)) (by repeat (first | exact Sub.nil | exact Sub.refl _ | with_reducible refine Sub.keep ?_ | refine Sub.drop ?_))
   ·
    have hk : chkP ⟨pf, pa, pb, pl, hv, hs⟩ ≠ 0 := by simpa using hb15
    have hX : chkP ⟨pf, pa, pb, pl, hv, hs⟩ = wrE ⟨pf, pa, pb, pl, hv, hs⟩ ks := (wrE_chk hk).symm
    refine wpl_off rfl rfl rfl rfl ?_
    refine wpl_off rfl rfl rfl rfl ?_
    refine wpl_off rfl rfl rfl rfl ?_
    refine wpl_q (q_pure rfl) rfl ?_
    refine wpl_nil ?_
    refine ex_then ?_
    refine wpc_cond_f rfl ?_
    refine wpc_skip ?_
    refine ex_mid ⟨chkP ⟨pf, pa, pb, pl, hv, hs⟩, hX⟩ ?_ ?_
    ·
     exact (by repeat (first | exact trivial | refine ⟨rfl, ?_⟩))
    ·
     exact fun w h => by first | exact h | exact h.sub SubC.h SubC.h | exact h.sub (by repeat (first | exact Sub.nil | exact Sub.refl _ | with_reducible refine Sub.keep ?_ | refine Sub.drop ?_)) (by repeat (first | exact Sub.nil | exact Sub.refl _ | with_reducible refine Sub.keep ?_ | refine Sub.drop ?_))
  ·
   rintro ⟨e, hi0⟩; try dsimp only
   have hi0 : e = wrE ⟨pf, pa, pb, pl, hv, hs⟩ ks := hi0
   refine wpc_seq ?_
   refine wpc_seq ?_
   refine wpc_region ?_
   refine wpl_q (q_pure rfl) rfl ?_
   refine wpl_q (q_pure rfl) rfl ?_
   refine wpl_nil ?_
   refine ex_then ?_
   refine wpc_cond rfl (fun hc21 => ?_) (fun hc21 => ?_)
   ·
    have hE0 : wrE ⟨pf, pa, pb, pl, hv, hs⟩ ks ≠ 0 := by rw [← hi0]; simpa using hc21
    refine wpc_seq ?_
    refine wpc_region ?_
    refine wpl_q (q_pure rfl) rfl ?_
    refine wpl_t0 (t_st1 Tryd.ti3 rfl rfl rfl (by first | decide | omega | exact Nat.zero_lt_one | (simp; omega) | (simp; done) | (simp only [v8s_length, v32s_length, vis_length, vns_length, v64s_length]; omega)) [.int .i64 0] rfl) (fun _ => ?_)
    refine wpl_t0 (t_st1 Tryd.ti33 rfl rfl rfl (by first | decide | omega | exact Nat.zero_lt_one | (simp; omega) | (simp; done) | (simp only [v8s_length, v32s_length, vis_length, vns_length, v64s_length]; omega)) [.int .i64 e] rfl) (fun _ => ?_)
    refine wpl_nil ?_
    refine ex_then ?_
    refine wpc_ret ?_
    refine ex_then_ret ?_
    refine ex_mark0 (.inl rfl) ?_
    refine retv2 (.inl rfl) rfl (rv_one Tryd.underlying3 rfl rfl (fun w h => h.cell_blk (b := b4) (by repeat (first | exact List.mem_cons_self .. | apply List.mem_cons_of_mem)) rfl)) (rv_one Tryd.underlying33 rfl rfl (fun w h => h.cell_blk (b := b5) (by repeat (first | exact List.mem_cons_self .. | apply List.mem_cons_of_mem)) rfl)) ?_
    exact fun w2 h => ⟨by rw [wrI_no hE0, hi0], h.below⟩
   ·
    have hE : wrE ⟨pf, pa, pb, pl, hv, hs⟩ ks = 0 := by rw [← hi0]; simpa using hc21
    obtain ⟨hk0, hk100⟩ := wrE_inv hE
    refine wpc_skip ?_
    refine ex_then ?_
    refine wpc_seq ?_
    refine wpc_region ?_
    refine wpl_q (q_fn (us := []) (vs := [.pointer (some ⟨b3, 0, none⟩)]) rfl rfl) rfl ?_
    refine wpl_t (t_alloc Tryd.ti101 [.nilFunc] rfl) rfl (fun b7 => ?_)
    refine wpl_t0 (t_st1 Tryd.ti101 rfl rfl rfl (by first | decide | omega | exact Nat.zero_lt_one | (simp; omega) | (simp; done) | (simp only [v8s_length, v32s_length, vis_length, vns_length, v64s_length]; omega)) [.func (.func 47) #[] #[.pointer (some ⟨b3, 0, none⟩)]] rfl) (fun _ => ?_)
    refine wpl_nil ?_
    refine ex_then ?_
    refine wpc_seq ?_
    refine wpc_seq ?_
    refine wpc_region ?_
    refine wpl_q (q_ldN Tryd.underlying29 rfl Tryd.ti29 rfl LenC.h) rfl ?_
    refine wpl_t (t_call (N := fun pq => [.blk pq 29 [.int .u8 (pf.toNat : Int), .int .u64 (pa.toNat : Int), .int .u64 (pb.toNat : Int), .int .i64 pl, hv]]) (T := fun _ => []) Tryd.hb49 rfl fun w h => messages ⟨pf, pa, pb, pl, hv, hs⟩ w svh) rfl (fun b25 => ?_)
    refine wpl_nil ?_
    refine ex_then ?_
    refine wpc_block ?_
    refine wpc_mono (R' := Mem w [] ([.blk b25 29 [.int .u8 (pf.toNat : Int), .int .u64 (pa.toNat : Int), .int .u64 (pb.toNat : Int), .int .i64 pl, hv]] ++ [.blk b7 101 [.func (.func 47) #[] #[.pointer (some ⟨b3, 0, none⟩)]], .blk b5 33 [.int .i64 0], .blk b4 3 [.int .i64 0], .blk b3 50 [kv], .blk b2 29 [.int .u8 (pf.toNat : Int), .int .u64 (pa.toNat : Int), .int .u64 (pb.toNat : Int), .int .i64 pl, hv]]) []) (fun w h => h) ?_
    refine wpc_rangeS (encs := encM) (At := AtM) (Inv := (InvM ⟨pf, pa, pb, pl, hv, hs⟩)) (xs := (msgs ⟨pf, pa, pb, pl, hv, hs⟩)) (ρ := Nat) (β := Unit) [.blk b25 29 [.int .u8 (pf.toNat : Int), .int .u64 (pa.toNat : Int), .int .u64 (pb.toNat : Int), .int .i64 pl, hv]] (fun _ : Unit => [.blk b7 101 [.func (.func 47) #[] #[.pointer (some ⟨b3, 0, none⟩)]], .blk b5 33 [.int .i64 0], .blk b4 3 [.int .i64 0], .blk b3 50 [kv], .blk b2 29 [.int .u8 (pf.toNat : Int), .int .u64 (pa.toNat : Int), .int .u64 (pb.toNat : Int), .int .i64 pl, hv]]) (fun pre _ => ∀ y ∈ pre, ¬ wrongH ⟨pf, pa, pb, pl, hv, hs⟩ ks y.1) () (fun r => r < hs.length ∧ wrongH ⟨pf, pa, pb, pl, hv, hs⟩ ks r ∧ ∀ j, j < r → ¬ wrongH ⟨pf, pa, pb, pl, hv, hs⟩ ks j) (fun _ => .ret) (fun r => [.blk b7 101 [.func (.func 47) #[] #[.pointer (some ⟨b3, 0, none⟩)]], .blk b5 33 [.int .i64 0], .blk b4 3 [.int .i64 ((r : Nat) : Int)], .blk b3 50 [kv], .blk b2 29 [.int .u8 (pf.toNat : Int), .int .u64 (pa.toNat : Int), .int .u64 (pb.toNat : Int), .int .i64 pl, hv]]) (fun x i _ => []) (fun x i b => [(2, .pointer (some ⟨b2, 0, none⟩)), (3, .pointer (some ⟨b3, 0, none⟩)), (4, .pointer (some ⟨b4, 0, none⟩)), (5, .pointer (some ⟨b5, 0, none⟩)), (7, .pointer (some ⟨b7, 0, none⟩)), (8, .int .i64 ((x.1 : Nat) : Int)), (9, i)]) rfl Tryd.hb72 (fun y hy => by cases hy) (fun w h k hk => by rw [show k = b25 by simpa [nums, Ent.num] using hk]; exact (h.new (.blk b25 29 [.int .u8 (pf.toNat : Int), .int .u64 (pa.toNat : Int), .int .u64 (pb.toNat : Int), .int .i64 pl, hv]) (by simp) b25 rfl).resolve_right (by simp)) (fun w h => msgs_it ⟨pf, pa, pb, pl, hv, hs⟩ b25 w (h.own (.blk b25 29 [.int .u8 (pf.toNat : Int), .int .u64 (pa.toNat : Int), .int .u64 (pb.toNat : Int), .int .i64 pl, hv]) (by simp)) hlim) (fun _ _ _ _ h => ⟨hp.old h, glob h hG⟩) (fun _ _ _ _ _ h hk => RowAt.keep h hk) (fun _ _ => rfl) (by decide) ?_ ?_ ?_ ?_
    ·
     intro l x i w1 K hK
     refine wic_seq ?_
     refine wic_region ?_
     refine wil_q (q_pure rfl) rfl ?_
     refine wil_nil ?_
     refine eix_then ?_
     refine wic_region ?_
     refine wil_q (q_pure rfl) rfl ?_
     refine wil_nil ?_
     exact fun a w hs h => hK () a w (hs.weaken (subs_get (by repeat (first | exact trivial | refine ⟨rfl, ?_⟩)))) h
    ·
     intro l pre x i s b w1 T hgs hpre hm hat hT
     obtain ⟨hx2, hx1⟩ := msgs_mem (pre_mem hpre)
     have hx1 : x.1 < hs.length := hx1
     have hm : Mem w [] [.blk b7 101 [.func (.func 47) #[] #[.pointer (some ⟨b3, 0, none⟩)]], .blk b5 33 [.int .i64 0], .blk b4 3 [.int .i64 0], .blk b3 50 [kv], .blk b2 29 [.int .u8 (pf.toNat : Int), .int .u64 (pa.toNat : Int), .int .u64 (pb.toNat : Int), .int .i64 pl, hv]] [] w1 := hm
     have hat : RowAt T (.row i x.2.length 5 1 (v8s x.2)) w1 := hat
     have hTn : ∀ j, j ∈ T → j ∉ nums [.blk b7 101 [.func (.func 47) #[] #[.pointer (some ⟨b3, 0, none⟩)]], .blk b5 33 [.int .i64 0], .blk b4 3 [.int .i64 0], .blk b3 50 [kv], .blk b2 29 [.int .u8 (pf.toNat : Int), .int .u64 (pa.toNat : Int), .int .u64 (pb.toNat : Int), .int .i64 pl, hv]] := fun j hj => inM_nums (hT j hj).2
     have hsx : ((hs.getD x.1 Hop.z)).seen w.cell? := hp.2 _ (getD_memO hx1)
     haveI := hsx.sv.one
     show WPCI _ _ _ _ (Mem w1 (nums [.blk b7 101 [.func (.func 47) #[] #[.pointer (some ⟨b3, 0, none⟩)]], .blk b5 33 [.int .i64 0], .blk b4 3 [.int .i64 0], .blk b3 50 [kv], .blk b2 29 [.int .u8 (pf.toNat : Int), .int .u64 (pa.toNat : Int), .int .u64 (pb.toNat : Int), .int .i64 pl, hv]]) [.blk b7 101 [.func (.func 47) #[] #[.pointer (some ⟨b3, 0, none⟩)]], .blk b5 33 [.int .i64 0], .blk b4 3 [.int .i64 0], .blk b3 50 [kv], .blk b2 29 [.int .u8 (pf.toNat : Int), .int .u64 (pa.toNat : Int), .int .u64 (pb.toNat : Int), .int .i64 pl, hv]] []) _ _
     refine wic_block ?_
     refine wic_seq ?_
     refine wic_region ?_
     refine wil_q (q_field Tryd.underlying29 rfl Tryd.ti27 rfl rfl _ rfl) rfl ?_
     refine wil_q (q_ld Tryd.underlying27 rfl rfl rfl) rfl ?_
     refine wil_q (q_pure rfl) rfl ?_
     refine wil_q (q_idxW Tryd.underlying27 Tryd.ti68 rfl rfl (by first | assumption | exact SV.nil | exact SV.slv (by assumption) (by omega) (by omega) | exact arv_sv (by first | decide | (simp only [maxLen]; omega))) (by first | omega | (simp only [maxLen]; omega) | (simp only [List.length_append, List.length_cons, List.length_nil, List.length_take, maxLen]; omega) | (simp only [List.length_append, List.length_cons, List.length_nil, List.length_take]; omega))) rfl ?_
     refine wil_q (q_ldWN Tryd.underlying68 rfl Tryd.ti68 rfl (fun w2 h => seen_all hm h hh) (hs.getD x.1 Hop.z).c (cat_part Hop.c_length Hop.z hx1) (Hop.c_length _)) rfl ?_
     refine wil_t (t_alloc Tryd.ti68 Hop.z.c rfl) rfl (fun b10 => ?_)
     refine wil_t0 (t_stA Tryd.ti68 rfl rfl LenC.h OneC.h LenC.h) (fun _ => ?_)
     refine wil_nil ?_
     refine eix_then ?_
     refine wic_seq ?_
     refine wic_region ?_
     refine wil_q (q_ld Tryd.underlying101 rfl rfl rfl) rfl ?_
     refine wil_q (q_ldN Tryd.underlying68 rfl Tryd.ti68 rfl LenC.h) rfl ?_
     refine wil_t (t_purV rfl Tryd.hb47 rfl fun w2 h => wrong1 (hs.getD x.1 Hop.z) b3 kv ks w2 hsx.sv (h.at_blk (by repeat (first | exact List.mem_cons_self .. | apply List.mem_cons_of_mem))) (seen_all hm h hkv)) rfl (fun b35 => ?_)
     refine wil_q (q_pure rfl) rfl ?_
     refine wil_q (q_pure rfl) rfl ?_
     refine wil_bool2 37 36 rfl rfl (fun hb37 => ?_) (fun hb37 => ?_)
     ·
      have hwr : wrongH ⟨pf, pa, pb, pl, hv, hs⟩ ks x.1 := .inl (by simpa only [Bool.not_eq_true', decide_eq_false_iff_not] using hb37)
      refine wil_off rfl rfl rfl rfl ?_
      refine wil_off rfl rfl rfl rfl ?_
      refine wil_off rfl rfl rfl rfl ?_
      refine wil_off rfl rfl rfl rfl ?_
      refine wil_off rfl rfl rfl rfl ?_
      refine wil_off rfl rfl rfl rfl ?_
      refine wil_off rfl rfl rfl rfl ?_
      refine wil_q (q_pure rfl) rfl ?_
      refine wil_nil ?_
      refine eix_then ?_
      refine wic_cond_t rfl ?_
      refine wic_seq ?_
      refine wic_region ?_
      refine wil_q (q_pure rfl) rfl ?_
      refine wil_t0 (t_st1 Tryd.ti3 rfl rfl rfl (by first | decide | omega | exact Nat.zero_lt_one | (simp; omega) | (simp; done) | (simp only [v8s_length, v32s_length, vis_length, vns_length, v64s_length]; omega)) [.int .i64 ((x.1 : Nat) : Int)] rfl) (fun _ => ?_)
      refine wil_t0 (t_st1 Tryd.ti33 rfl rfl rfl (by first | decide | omega | exact Nat.zero_lt_one | (simp; omega) | (simp; done) | (simp only [v8s_length, v32s_length, vis_length, vns_length, v64s_length]; omega)) [.int .i64 0] rfl) (fun _ => ?_)
      refine wil_nil ?_
      refine eix_then ?_
      refine wic_ret ?_
      refine ex_block_ret ?_
      refine ex_roundR ?_
      exact fun w2 h => ⟨x.1, ⟨hx1, hwr, fun j hj => by obtain ⟨y, hy, he⟩ := msgs_before hpre j hj; rw [← he]; exact hgs y hy⟩, rfl, h.sub (by repeat (first | exact Sub.nil | exact Sub.refl _ | with_reducible refine Sub.keep ?_ | refine Sub.drop ?_)) .nil⟩
     ·
      have hls : (hs.getD x.1 Hop.z).rk ∈ ks := by simpa only [Bool.not_eq_false', decide_eq_true_eq] using hb37
      refine wil_on rfl rfl ?_
      refine wil_q (q_field Tryd.underlying68 rfl Tryd.ti63 rfl rfl _ rfl) rfl ?_
      refine wil_on rfl rfl ?_
      refine wil_q (q_ldP Tryd.underlying63 rfl Tryd.ti63 rfl (hs.getD x.1 Hop.z).key (Hop.c_key _) (Hop.key_length _)) rfl ?_
      refine wil_on rfl rfl ?_
      refine wil_q (q_pure rfl) rfl ?_
      refine wil_on rfl rfl ?_
      refine wil_q (q_field Tryd.underlying68 rfl Tryd.ti66 rfl rfl _ rfl) rfl ?_
      refine wil_on rfl rfl ?_
      refine wil_q (q_ldP Tryd.underlying66 rfl Tryd.ti66 rfl (hs.getD x.1 Hop.z).sig (Hop.c_sig _) rfl) rfl ?_
      refine wil_on rfl rfl ?_
      refine wil_t (t_pur (v := .bool (decide (verH (hs.getD x.1 Hop.z) (msgB ⟨pf, pa, pb, pl, hv, hs⟩ x.1)))) Tryd.hb35 rfl fun w2 h => by
        have q := verify7 (hs.getD x.1 Hop.z).root.1 (hs.getD x.1 Hop.z).ht i x.2 (hs.getD x.1 Hop.z).cv (hs.getD x.1 Hop.z).pv (hs.getD x.1 Hop.z).chs (hs.getD x.1 Hop.z).ps (hs.getD x.1 Hop.z).ix w2 (hs.getD x.1 Hop.z).root.2 (hat.seen h hTn) (hop_all hm h hsx).1 hsx.2.1 (hop_all hm h hsx).2.2.1 hsx.2.2.2 (glob_all hm h hG)
        rw [hx2] at q
        exact q) rfl (fun b43 => ?_)
      refine wil_on rfl rfl ?_
      refine wil_q (q_pure rfl) rfl ?_
      refine wil_q (q_pure rfl) rfl ?_
      refine wil_nil ?_
      refine eix_then ?_
      refine wic_cond rfl (fun hc45 => ?_) (fun hc45 => ?_)
      ·
       have hwr : wrongH ⟨pf, pa, pb, pl, hv, hs⟩ ks x.1 := .inr (by simpa only [Bool.not_eq_true', decide_eq_false_iff_not] using hc45)
       refine wic_seq ?_
       refine wic_region ?_
       refine wil_q (q_pure rfl) rfl ?_
       refine wil_t0 (t_st1 Tryd.ti3 rfl rfl rfl (by first | decide | omega | exact Nat.zero_lt_one | (simp; omega) | (simp; done) | (simp only [v8s_length, v32s_length, vis_length, vns_length, v64s_length]; omega)) [.int .i64 ((x.1 : Nat) : Int)] rfl) (fun _ => ?_)
       refine wil_t0 (t_st1 Tryd.ti33 rfl rfl rfl (by first | decide | omega | exact Nat.zero_lt_one | (simp; omega) | (simp; done) | (simp only [v8s_length, v32s_length, vis_length, vns_length, v64s_length]; omega)) [.int .i64 0] rfl) (fun _ => ?_)
       refine wil_nil ?_
       refine eix_then ?_
       refine wic_ret ?_
       refine ex_block_ret ?_
       refine ex_roundR ?_
       exact fun w2 h => ⟨x.1, ⟨hx1, hwr, fun j hj => by obtain ⟨y, hy, he⟩ := msgs_before hpre j hj; rw [← he]; exact hgs y hy⟩, rfl, h.sub (by repeat (first | exact Sub.nil | exact Sub.refl _ | with_reducible refine Sub.keep ?_ | refine Sub.drop ?_)) .nil⟩
      ·
       have hvr : verH (hs.getD x.1 Hop.z) (msgB ⟨pf, pa, pb, pl, hv, hs⟩ x.1) := by simpa only [Bool.not_eq_false', decide_eq_true_eq] using hc45
       have hok : ¬ wrongH ⟨pf, pa, pb, pl, hv, hs⟩ ks x.1 := by rintro (q | q); exact q hls; exact q hvr
       refine wic_skip ?_
       refine ex_block ?_
       refine ex_roundN ?_
       exact fun w2 h => ⟨(), fun y hy => by rcases List.mem_append.1 hy with hy | hy; exact hgs y hy; rw [List.mem_singleton] at hy; subst hy; exact hok, h.sub (by repeat (first | exact Sub.nil | exact Sub.refl _ | with_reducible refine Sub.keep ?_ | refine Sub.drop ?_)) .nil⟩
    ·
     intro D s hgs
     have hal : ∀ j, j < hs.length → ¬ wrongH ⟨pf, pa, pb, pl, hv, hs⟩ ks j := fun j hj => hgs _ (msgs_at (p := ⟨pf, pa, pb, pl, hv, hs⟩) hj)
     have hR : firstW ⟨pf, pa, pb, pl, hv, hs⟩ ks = -1 := firstW_no (p := ⟨pf, pa, pb, pl, hv, hs⟩) hal
     refine ex_weaken (R1 := Mem w [] (.obj D (.deferred (some [])) :: [.blk b7 101 [.func (.func 47) #[] #[.pointer (some ⟨b3, 0, none⟩)]], .blk b5 33 [.int .i64 0], .blk b4 3 [.int .i64 0], .blk b3 50 [kv], .blk b2 29 [.int .u8 (pf.toNat : Int), .int .u64 (pa.toNat : Int), .int .u64 (pb.toNat : Int), .int .i64 pl, hv]]) []) (L1 := [(4, .pointer (some ⟨b4, 0, none⟩)), (5, .pointer (some ⟨b5, 0, none⟩))]) (by repeat (first | exact trivial | refine ⟨rfl, ?_⟩)) (fun w h => h) ?_
     refine ex_block ?_
     refine ex_then ?_
     refine wpc_seq ?_
     refine wpc_region ?_
     refine wpl_t0 (t_st1 Tryd.ti3 rfl rfl rfl (by first | decide | omega | exact Nat.zero_lt_one | (simp; omega) | (simp; done) | (simp only [v8s_length, v32s_length, vis_length, vns_length, v64s_length]; omega)) [.int .i64 (-1)] rfl) (fun _ => ?_)
     refine wpl_t0 (t_st1 Tryd.ti33 rfl rfl rfl (by first | decide | omega | exact Nat.zero_lt_one | (simp; omega) | (simp; done) | (simp only [v8s_length, v32s_length, vis_length, vns_length, v64s_length]; omega)) [.int .i64 0] rfl) (fun _ => ?_)
     refine wpl_nil ?_
     refine ex_then ?_
     refine wpc_ret ?_
     refine ex_markN (.inl rfl) .here ?_
     refine retv2 (.inl rfl) rfl (rv_one Tryd.underlying3 rfl rfl (fun w h => h.cell_blk (b := b4) (by repeat (first | exact List.mem_cons_self .. | apply List.mem_cons_of_mem)) rfl)) (rv_one Tryd.underlying33 rfl rfl (fun w h => h.cell_blk (b := b5) (by repeat (first | exact List.mem_cons_self .. | apply List.mem_cons_of_mem)) rfl)) ?_
     exact fun w2 h => ⟨by rw [wrI_ok hE, hR, hE], h.below⟩
    ·
     intro D r hr
     obtain ⟨hr1, hr2, hr3⟩ := hr
     have hR : firstW ⟨pf, pa, pb, pl, hv, hs⟩ ks = ((r : Nat) : Int) := firstW_at (p := ⟨pf, pa, pb, pl, hv, hs⟩) hr1 hr2 hr3
     refine wpc_weaken (R1 := Mem w [] (.obj D (.deferred (some [])) :: [.blk b7 101 [.func (.func 47) #[] #[.pointer (some ⟨b3, 0, none⟩)]], .blk b5 33 [.int .i64 0], .blk b4 3 [.int .i64 ((r : Nat) : Int)], .blk b3 50 [kv], .blk b2 29 [.int .u8 (pf.toNat : Int), .int .u64 (pa.toNat : Int), .int .u64 (pb.toNat : Int), .int .i64 pl, hv]]) []) (L1 := [(4, .pointer (some ⟨b4, 0, none⟩)), (5, .pointer (some ⟨b5, 0, none⟩))]) (by repeat (first | exact trivial | refine ⟨rfl, ?_⟩)) (fun w h => h) ?_
     refine wpc_ret ?_
     refine ex_block_ret ?_
     refine ex_then_ret ?_
     refine ex_markN (.inl rfl) .here ?_
     refine retv2 (.inl rfl) rfl (rv_one Tryd.underlying3 rfl rfl (fun w h => h.cell_blk (b := b4) (by repeat (first | exact List.mem_cons_self .. | apply List.mem_cons_of_mem)) rfl)) (rv_one Tryd.underlying33 rfl rfl (fun w h => h.cell_blk (b := b5) (by repeat (first | exact List.mem_cons_self .. | apply List.mem_cons_of_mem)) rfl)) ?_
     exact fun w2 h => ⟨by rw [wrI_ok hE, hR, hE], h.below⟩

end Go.Proofs.YtjpfhkjmjnjggaaDoor

namespace Go.Proofs.YtjpfhkjmjnjggaaDoor
set_option linter.unusedSimpArgs false
set_option linter.unusedVariables false
open Go Go.PL Go.RowKit

theorem rk_drop (k : RK) : ((RK.c k).drop 1).take 17 = v8s k.2.1.1 ++ [.int .i64 k.2.2] := List.take_of_length_le (by simp [RK.c, v8s_length, k.2.1.2])
theorem rks_key {l : List RK} {i : Nat} (hi : i < l.length) : ((rks l).drop (i * 18 + 1)).take 17 = v8s (l.getD i RK.z).2.1.1 ++ [.int .i64 (l.getD i RK.z).2.2] := by
  have q := cat_part RK.c_length RK.z hi
  rw [← rk_drop, ← q, List.drop_take, List.drop_drop, List.take_take]
  rfl
theorem key_l17 (k : RK) : (v8s k.2.1.1 ++ [Value.int .i64 k.2.2]).length = 17 := by simp [v8s_length, k.2.1.2]
instance lenC_key {r : S16} {t : Int} : LenC (v8s r.1 ++ [Value.int .i64 t]) 17 := ⟨by simp [v8s_length, r.2]⟩
instance oneC_key {r : S16} {t : Int} : OneC (v8s r.1 ++ [Value.int .i64 t]) := ⟨fun u hu => by
  rcases List.mem_append.1 hu with hu | hu
  · exact v8s_one _ u hu
  · rw [List.mem_singleton] at hu; subst hu; rfl⟩

set_option maxRecDepth 100000 in
theorem listed (kv : Value) (ks : List RK) (sy : UInt32) (r : S16) (ht : Int) (w : World) (hkv : Seen w.cell? kv ks.length 18 (rks ks))  :
    Calls Tryd.prog 50 [kv, .int .u32 sy.toNat, .agg (v8s r.1 ++ [Value.int .i64 ht]).toArray].toArray w (Pur w (.bool (decide (((sy, r, ht) : RK) ∈ ks)))) := by
  have skv := hkv.sv
  have lkv := skv.le
  simp only [maxLen] at lkv
  refine enter (m := 30) (R := Mem w [] [] []) Tryd.func50 rfl rfl (Nat.le_of_ble_eq_true rfl) (Mem.start w) ?_
  refine wpc_seq ?_
  refine wpc_region ?_
  refine wpl_t (t_box rfl (v8s r.1 ++ [Value.int .i64 ht]) rfl) rfl (fun b5 => ?_)
  refine wpl_q (q_pure rfl) rfl ?_
  refine wpl_nil ?_
  refine ex_then ?_
  refine wpc_seq ?_
  refine wpc_seq ?_
  refine wpc_region ?_
  refine wpl_q (q_pure rfl) rfl ?_
  refine wpl_nil ?_
  refine ex_then ?_
  refine wpc_block ?_
  refine wpc_loopc (ι := { x : Nat // (x ≤ ks.length) ∧ (∀ j, j < x → ks.getD j RK.z ≠ ((sy, r, ht) : RK)) }) [(0, _), (1, _), (5, _)] (fun x Lc => (7, .int .i64 ((x.1 : Nat) : Int)) :: Lc) (fun x => Mem w [] [.blk b5 63 (v8s r.1 ++ [Value.int .i64 ht])] []) (fun x => ks.length - x.1) ⟨0, ⟨Nat.zero_le _, fun j hj => by omega⟩⟩ (by repeat (first | exact trivial | refine ⟨rfl, ?_⟩)) ?_ ?_
  ·
   exact fun w h => h
  ·
   rintro ⟨i, ⟨hi0, hi1⟩⟩; try dsimp only
   have hi0 : i ≤ ks.length := hi0; have hi1 : ∀ j, j < i → ks.getD j RK.z ≠ ((sy, r, ht) : RK) := hi1
   refine wpc_seq ?_
   refine wpc_seq ?_
   refine wpc_region ?_
   refine wpl_q (q_pure rfl) rfl ?_
   refine wpl_q (q_pure rfl) rfl ?_
   refine wpl_q (q_lenW Tryd.underlying50 rfl (by first | assumption | exact SV.nil | exact SV.slv (by assumption) (by omega) (by omega) | exact arv_sv (by first | decide | (simp only [maxLen]; omega)))) rfl ?_
   refine wpl_q (q_pure rfl) rfl ?_
   refine wpl_nil ?_
   refine ex_then ?_
   refine wpc_cond rfl (fun hc11 => ?_) (fun hc11 => ?_)
   ·
    simp only [decide_eq_true_eq] at hc11
    have hil : i < ks.length := by omega
    refine wpc_skip ?_
    refine ex_then ?_
    refine wpc_seq ?_
    refine wpc_block ?_
    refine wpc_seq ?_
    refine wpc_draw 16 (by kernel_rfl) (fun _ h => h.drew) ?_
    refine wpd_p 0 rfl (by kernel_rfl) trivial (q_pure rfl) rfl sk0 ?_
    refine wpd_p 1 rfl (by kernel_rfl) trivial (q_pure rfl) rfl sk0 ?_
    refine wpd_p 2 rfl (by kernel_rfl) trivial (q_idxW Tryd.underlying50 Tryd.ti80 rfl rfl (by first | assumption | exact SV.nil | exact SV.slv (by assumption) (by omega) (by omega) | exact arv_sv (by first | decide | (simp only [maxLen]; omega))) (by first | omega | (simp only [maxLen]; omega) | (simp only [List.length_append, List.length_cons, List.length_nil, List.length_take, maxLen]; omega) | (simp only [List.length_append, List.length_cons, List.length_nil, List.length_take]; omega))) rfl sk0 ?_
    refine wpd_p 3 rfl (by kernel_rfl) trivial (q_fieldPo 0 Tryd.underlying80 rfl Tryd.ti49 rfl rfl rfl) rfl sk0 ?_
    refine wpd_q 4 rfl (by kernel_rfl) trivial (q_ldWF Tryd.underlying49 rfl rfl (fun w h => h.seen_old hkv) (cat_get RK.c_length RK.z hil (show (RK.c (ks.getD i RK.z))[0]? = some _ from rfl))) rfl (fun _ h => h) ?_
    refine wpd_p 5 rfl (by kernel_rfl) trivial (q_pure rfl) rfl sk0 ?_
    refine wpd_p 6 rfl (by kernel_rfl) trivial (q32_eql rfl rfl) rfl sk0 ?_
    refine wpd_p 7 rfl (by kernel_rfl) trivial (q_pure rfl) rfl sk0 ?_
    refine wpd_bool2 21 20 rfl rfl (fun hb21 => ?_) (fun hb21 => ?_)
    ·
     have h1 : (ks.getD i RK.z).1 = sy := by simpa using hb21
     refine wpd_p 8 rfl (by kernel_rfl) ⟨_, rfl, rfl⟩ (q_pure rfl) rfl sk0 ?_
     refine wpd_p 9 rfl (by kernel_rfl) ⟨_, rfl, rfl⟩ (q_pure rfl) rfl sk0 ?_
     refine wpd_p 10 rfl (by kernel_rfl) ⟨_, rfl, rfl⟩ (q_idxW Tryd.underlying50 Tryd.ti80 rfl rfl (by first | assumption | exact SV.nil | exact SV.slv (by assumption) (by omega) (by omega) | exact arv_sv (by first | decide | (simp only [maxLen]; omega))) (by first | omega | (simp only [maxLen]; omega) | (simp only [List.length_append, List.length_cons, List.length_nil, List.length_take, maxLen]; omega) | (simp only [List.length_append, List.length_cons, List.length_nil, List.length_take]; omega))) rfl sk0 ?_
     refine wpd_p 11 rfl (by kernel_rfl) ⟨_, rfl, rfl⟩ (q_fieldPo 1 Tryd.underlying80 rfl Tryd.ti63 rfl rfl rfl) rfl sk0 ?_
     refine wpd_q 12 rfl (by kernel_rfl) ⟨_, rfl, rfl⟩ (q_ldWFN Tryd.underlying63 rfl Tryd.ti63 rfl (fun w h => h.seen_old hkv) (v8s (ks.getD i RK.z).2.1.1 ++ [.int .i64 (ks.getD i RK.z).2.2]) (rks_key hil) (key_l17 _)) rfl (fun _ h => h) ?_
     refine wpd_q 13 rfl (by kernel_rfl) ⟨_, rfl, rfl⟩ (q_ldN Tryd.underlying63 rfl Tryd.ti63 rfl LenC.h) rfl (fun _ h => h) ?_
     refine wpd_q 14 rfl (by kernel_rfl) ⟨_, rfl, rfl⟩ (q_eqK rfl rfl (ks.getD i RK.z).2.1.2 r.2) rfl (fun _ h => h) ?_
     refine wpd_p 15 rfl (by kernel_rfl) trivial (q_pure rfl) rfl sk0 ?_
     refine wpd_done (by kernel_rfl) ?_
     refine ex_then ?_
     refine wpc_cond rfl (fun hc29 => ?_) (fun hc29 => ?_)
     ·
      have h2 : (ks.getD i RK.z).2.1.1 = r.1 ∧ (ks.getD i RK.z).2.2 = ht := of_decide_eq_true hc29
      have he : (ks.getD i RK.z) = ((sy, r, ht) : RK) := Prod.ext h1 (Prod.ext (Subtype.ext h2.1) h2.2)
      have hR : ((sy, r, ht) : RK) ∈ ks := he ▸ getD_memRK hil
      refine wpc_seq ?_
      refine wpc_region ?_
      refine wpl_q (q_pure rfl) rfl ?_
      refine wpl_nil ?_
      refine ex_then ?_
      refine wpc_ret ?_
      refine ex_block_ret ?_
      refine ex_then_ret ?_
      refine ex_then_ret ?_
      refine ex_block_ret ?_
      refine ex_then_ret ?_
      refine ret1 (.inl rfl) rfl rfl ?_
      exact fun w h => ⟨by rw [decide_eq_true hR], h.below⟩
     ·
      have h2 : ¬ ((ks.getD i RK.z).2.1.1 = r.1 ∧ (ks.getD i RK.z).2.2 = ht) := of_decide_eq_false hc29
      have hne : (ks.getD i RK.z) ≠ ((sy, r, ht) : RK) := fun e => h2 (by rw [e]; exact ⟨rfl, rfl⟩)
      refine wpc_skip ?_
      refine ex_block ?_
      refine ex_then ?_
      refine wpc_region ?_
      refine wpl_q (q_pure rfl) rfl ?_
      refine wpl_q (q_addN (b := 1) rfl rfl (by first | omega | (simp only [maxLen]; omega) | (simp only [List.length_append, List.length_cons, List.length_nil, List.length_take, maxLen]; omega) | (simp only [List.length_append, List.length_cons, List.length_nil, List.length_take]; omega))) rfl ?_
      refine wpl_q (q_pure rfl) rfl ?_
      refine wpl_nil ?_
      refine ex_again ⟨i + 1, ⟨by show i + 1 ≤ ks.length; omega, fun j hj => by rcases Nat.lt_or_ge j i with h | h; exact hi1 j h; obtain rfl : j = i := (by have hj : j < i + 1 := hj; omega); exact hne⟩⟩ ?_ ?_ ?_
      ·
       exact (by repeat (first | exact trivial | refine ⟨rfl, ?_⟩))
      ·
       exact fun w h => by first | exact h | exact h.sub SubC.h SubC.h | exact h.sub (by repeat (first | exact Sub.nil | exact Sub.refl _ | with_reducible refine Sub.keep ?_ | refine Sub.drop ?_)) (by repeat (first | exact Sub.nil | exact Sub.refl _ | with_reducible refine Sub.keep ?_ | refine Sub.drop ?_))
      ·
       (show ks.length - (i + 1) < ks.length - i); omega
    ·
     have h1 : ¬ (ks.getD i RK.z).1 = sy := by simpa using hb21
     have hne : (ks.getD i RK.z) ≠ ((sy, r, ht) : RK) := fun e => h1 (by rw [e])
     refine wpd_off 8 rfl (by kernel_rfl) ⟨_, _, rfl, rfl, rfl⟩ rfl sk0 ?_
     refine wpd_off 9 rfl (by kernel_rfl) ⟨_, _, rfl, rfl, rfl⟩ rfl sk0 ?_
     refine wpd_off 10 rfl (by kernel_rfl) ⟨_, _, rfl, rfl, rfl⟩ rfl sk0 ?_
     refine wpd_off 11 rfl (by kernel_rfl) ⟨_, _, rfl, rfl, rfl⟩ rfl sk0 ?_
     refine wpd_off 12 rfl (by kernel_rfl) ⟨_, _, rfl, rfl, rfl⟩ rfl sk0 ?_
     refine wpd_off 13 rfl (by kernel_rfl) ⟨_, _, rfl, rfl, rfl⟩ rfl sk0 ?_
     refine wpd_off 14 rfl (by kernel_rfl) ⟨_, _, rfl, rfl, rfl⟩ rfl sk0 ?_
     refine wpd_p 15 rfl (by kernel_rfl) trivial (q_pure rfl) rfl sk0 ?_
     refine wpd_done (by kernel_rfl) ?_
     refine ex_then ?_
     refine wpc_cond_f rfl ?_
     refine wpc_skip ?_
     refine ex_block ?_
     refine ex_then ?_
     refine wpc_region ?_
     refine wpl_q (q_pure rfl) rfl ?_
     refine wpl_q (q_addN (b := 1) rfl rfl (by first | omega | (simp only [maxLen]; omega) | (simp only [List.length_append, List.length_cons, List.length_nil, List.length_take, maxLen]; omega) | (simp only [List.length_append, List.length_cons, List.length_nil, List.length_take]; omega))) rfl ?_
     refine wpl_q (q_pure rfl) rfl ?_
     refine wpl_nil ?_
     refine ex_again ⟨i + 1, ⟨by show i + 1 ≤ ks.length; omega, fun j hj => by rcases Nat.lt_or_ge j i with h | h; exact hi1 j h; obtain rfl : j = i := (by have hj : j < i + 1 := hj; omega); exact hne⟩⟩ ?_ ?_ ?_
     ·
      exact (by repeat (first | exact trivial | refine ⟨rfl, ?_⟩))
     ·
      exact fun w h => by first | exact h | exact h.sub SubC.h SubC.h | exact h.sub (by repeat (first | exact Sub.nil | exact Sub.refl _ | with_reducible refine Sub.keep ?_ | refine Sub.drop ?_)) (by repeat (first | exact Sub.nil | exact Sub.refl _ | with_reducible refine Sub.keep ?_ | refine Sub.drop ?_))
     ·
      (show ks.length - (i + 1) < ks.length - i); omega
   ·
    simp only [decide_eq_false_iff_not] at hc11
    obtain rfl : i = ks.length := by omega
    have hR := mem_RK hi1
    refine wpc_exit ?_
    refine ex_then_exit ?_
    refine ex_then_exit ?_
    refine ex_block_hit ?_
    refine ex_then ?_
    refine wpc_seq ?_
    refine wpc_region ?_
    refine wpl_q (q_pure rfl) rfl ?_
    refine wpl_nil ?_
    refine ex_then ?_
    refine wpc_ret ?_
    refine ret1 (.inl rfl) rfl rfl ?_
    exact fun w h => ⟨by rw [decide_eq_false hR], h.below⟩

set_option maxRecDepth 100000 in
theorem refWrong (p : Pth) (kv : Value) (ks : List RK) (w : World) (hp : p.seen w.cell?) (hkv : Seen w.cell? kv ks.length 18 (rks ks)) (hlim : SmP p) :
    Calls Tryd.prog 23 [.agg p.c.toArray, kv].toArray w (Pur w (.tuple #[.int .i64 (wrI p ks), .int .i64 (wrE p ks)])) := by
  obtain ⟨pf, pa, pb, pl, hv, hs⟩ := p
  have hh : Seen w.cell? hv hs.length 24 (hcs hs) := hp.1
  have svh := hh.sv
  have lh := svh.le
  simp only [maxLen] at lh
  have skv := hkv.sv
  have lkv := skv.le
  simp only [maxLen] at lkv
  refine enter (m := 52) (R := Mem w [] [] []) Tryd.func23 rfl rfl (Nat.le_of_ble_eq_true rfl) (Mem.start w) ?_
  refine wpc_seq ?_
  refine wpc_region ?_
  refine wpl_t (t_box rfl [.int .u8 (pf.toNat : Int), .int .u64 (pa.toNat : Int), .int .u64 (pb.toNat : Int), .int .i64 pl, hv] rfl) rfl (fun b2 => ?_)
  refine wpl_q (q_pure rfl) rfl ?_
  refine wpl_q (q_pure rfl) rfl ?_
  refine wpl_nil ?_
  refine ex_then ?_
  refine wpc_seq ?_
  refine wpc_region ?_
  refine wpl_q (q_ldN Tryd.underlying29 rfl Tryd.ti29 rfl LenC.h) rfl ?_
  refine wpl_t (t_pur Tryd.hb18 rfl fun w h => refCheck42 ⟨pf, pa, pb, pl, hv, hs⟩ w (hp.old h)) rfl (fun b10 => ?_)
  refine wpl_q (q_pure rfl) rfl ?_
  refine wpl_nil ?_
  refine ex_then ?_
  refine wpc_cutc ({ x : Int // (x = wrE ⟨pf, pa, pb, pl, hv, hs⟩ ks) }) [(1, kv), (2, .pointer (some ⟨b2, 0, none⟩))] (fun x Lc => (6, .int .i64 x.1) :: Lc) (fun x => Mem w [] [.blk b2 29 [.int .u8 (pf.toNat : Int), .int .u64 (pa.toNat : Int), .int .u64 (pb.toNat : Int), .int .i64 pl, hv]] []) ?_ ?_
  ·
   refine wpc_seq ?_
   refine wpc_region ?_
   refine wpl_q (q_pure rfl) rfl ?_
   refine wpl_q (q_pure rfl) rfl ?_
   refine wpl_q (q_pure rfl) rfl ?_
   refine wpl_bool2 13 12 rfl rfl (fun hb13 => ?_) (fun hb13 => ?_)
   ·
    have hk0 : chkP ⟨pf, pa, pb, pl, hv, hs⟩ = 0 := by simpa using hb13
    refine wpl_on rfl rfl ?_
    refine wpl_q (q_pure rfl) rfl ?_
    refine wpl_on rfl rfl ?_
    refine wpl_q (q_lenW Tryd.underlying50 rfl (by first | assumption | exact SV.nil | exact SV.slv (by assumption) (by omega) (by omega) | exact arv_sv (by first | decide | (simp only [maxLen]; omega)))) rfl ?_
    refine wpl_on rfl rfl ?_
    refine wpl_q (q_pure rfl) rfl ?_
    refine wpl_q (q_pure rfl) rfl ?_
    refine wpl_nil ?_
    refine ex_then ?_
    refine wpc_cond rfl (fun hc17 => ?_) (fun hc17 => ?_)
    ·
     simp only [decide_eq_true_eq] at hc17
     have hX : 4 = wrE ⟨pf, pa, pb, pl, hv, hs⟩ ks := (wrE_many hk0 (by omega)).symm
     refine wpc_region ?_
     refine wpl_q (q_pure rfl) rfl ?_
     refine wpl_nil ?_
     refine ex_mid ⟨4, hX⟩ ?_ ?_
     ·
      exact (by repeat (first | exact trivial | refine ⟨rfl, ?_⟩))
     ·
      exact fun w h => by first | exact h | exact h.sub SubC.h SubC.h | exact h.sub (by repeat (first | exact Sub.nil | exact Sub.refl _ | with_reducible refine Sub.keep ?_ | refine Sub.drop ?_)) (by repeat (first | exact Sub.nil | exact Sub.refl _ | with_reducible refine Sub.keep ?_ | refine Sub.drop ?_))
    ·
     simp only [decide_eq_false_iff_not] at hc17
     have hX : chkP ⟨pf, pa, pb, pl, hv, hs⟩ = wrE ⟨pf, pa, pb, pl, hv, hs⟩ ks := hk0.trans (wrE_ok hk0 (by omega)).symm
     refine wpc_skip ?_
     refine ex_mid ⟨chkP ⟨pf, pa, pb, pl, hv, hs⟩, hX⟩ ?_ ?_
     ·
      exact (by repeat (first | exact trivial | refine ⟨rfl, ?_⟩))
     ·
      exact fun w h => by first | exact h | exact h.sub SubC.h SubC.h | exact h.sub (by repeat (first | exact Sub.nil | exact Sub.refl _ | with_reducible refine Sub.keep ?_ | refine Sub.drop ?_)) (by repeat (first | exact Sub.nil | exact Sub.refl _ | with_reducible refine Sub.keep ?_ | refine Sub.drop ?_))
   ·
    have hk : chkP ⟨pf, pa, pb, pl, hv, hs⟩ ≠ 0 := by simpa using hb13
    have hX : chkP ⟨pf, pa, pb, pl, hv, hs⟩ = wrE ⟨pf, pa, pb, pl, hv, hs⟩ ks := (wrE_chk hk).symm
    refine wpl_off rfl rfl rfl rfl ?_
    refine wpl_off rfl rfl rfl rfl ?_
    refine wpl_off rfl rfl rfl rfl ?_
    refine wpl_q (q_pure rfl) rfl ?_
    refine wpl_nil ?_
    refine ex_then ?_
    refine wpc_cond_f rfl ?_
    refine wpc_skip ?_
    refine ex_mid ⟨chkP ⟨pf, pa, pb, pl, hv, hs⟩, hX⟩ ?_ ?_
    ·
     exact (by repeat (first | exact trivial | refine ⟨rfl, ?_⟩))
    ·
     exact fun w h => by first | exact h | exact h.sub SubC.h SubC.h | exact h.sub (by repeat (first | exact Sub.nil | exact Sub.refl _ | with_reducible refine Sub.keep ?_ | refine Sub.drop ?_)) (by repeat (first | exact Sub.nil | exact Sub.refl _ | with_reducible refine Sub.keep ?_ | refine Sub.drop ?_))
  ·
   rintro ⟨e, hi0⟩; try dsimp only
   have hi0 : e = wrE ⟨pf, pa, pb, pl, hv, hs⟩ ks := hi0
   refine wpc_seq ?_
   refine wpc_seq ?_
   refine wpc_region ?_
   refine wpl_q (q_pure rfl) rfl ?_
   refine wpl_q (q_pure rfl) rfl ?_
   refine wpl_nil ?_
   refine ex_then ?_
   refine wpc_cond rfl (fun hc19 => ?_) (fun hc19 => ?_)
   ·
    have hE0 : wrE ⟨pf, pa, pb, pl, hv, hs⟩ ks ≠ 0 := by rw [← hi0]; simpa using hc19
    refine wpc_seq ?_
    refine wpc_region ?_
    refine wpl_q (q_pure rfl) rfl ?_
    refine wpl_q (q_pure rfl) rfl ?_
    refine wpl_q (q_pure rfl) rfl ?_
    refine wpl_nil ?_
    refine ex_then ?_
    refine wpc_ret ?_
    refine ex_then_ret ?_
    refine ret2 (.inl rfl) rfl rfl rfl ?_
    exact fun w2 h => ⟨by rw [wrI_no hE0, hi0], h.below⟩
   ·
    have hE : wrE ⟨pf, pa, pb, pl, hv, hs⟩ ks = 0 := by rw [← hi0]; simpa using hc19
    obtain ⟨hk0, hk100⟩ := wrE_inv hE
    refine wpc_skip ?_
    refine ex_then ?_
    refine wpc_seq ?_
    refine wpc_seq ?_
    refine wpc_region ?_
    refine wpl_q (q_pure rfl) rfl ?_
    refine wpl_nil ?_
    refine ex_then ?_
    refine wpc_block ?_
    refine wpc_loopc (ι := { x : Nat // (x ≤ hs.length) ∧ (∀ j, j < x → ¬ wrongH ⟨pf, pa, pb, pl, hv, hs⟩ ks j) }) [(1, _), (2, _)] (fun x Lc => (7, .int .i64 ((x.1 : Nat) : Int)) :: Lc) (fun x => Mem w [] [.blk b2 29 [.int .u8 (pf.toNat : Int), .int .u64 (pa.toNat : Int), .int .u64 (pb.toNat : Int), .int .i64 pl, hv]] []) (fun x => hs.length - x.1) ⟨0, ⟨Nat.zero_le _, fun j hj => by omega⟩⟩ (by repeat (first | exact trivial | refine ⟨rfl, ?_⟩)) ?_ ?_
    ·
     exact fun w h => h
    ·
     rintro ⟨i, ⟨hi0, hi1⟩⟩; try dsimp only
     have hi0 : i ≤ hs.length := hi0; have hi1 : ∀ j, j < i → ¬ wrongH ⟨pf, pa, pb, pl, hv, hs⟩ ks j := hi1
     refine wpc_seq ?_
     refine wpc_seq ?_
     refine wpc_region ?_
     refine wpl_q (q_pure rfl) rfl ?_
     refine wpl_q (q_field Tryd.underlying29 rfl Tryd.ti27 rfl rfl _ rfl) rfl ?_
     refine wpl_q (q_ld Tryd.underlying27 rfl rfl rfl) rfl ?_
     refine wpl_q (q_lenW Tryd.underlying27 rfl (by first | assumption | exact SV.nil | exact SV.slv (by assumption) (by omega) (by omega) | exact arv_sv (by first | decide | (simp only [maxLen]; omega)))) rfl ?_
     refine wpl_q (q_pure rfl) rfl ?_
     refine wpl_nil ?_
     refine ex_then ?_
     refine wpc_cond rfl (fun hc25 => ?_) (fun hc25 => ?_)
     ·
      simp only [decide_eq_true_eq] at hc25
      have hil : i < hs.length := by omega
      have hsx : ((hs.getD i Hop.z)).seen w.cell? := hp.2 _ (getD_memO hil)
      haveI := hsx.sv.one
      have hmlen := msgB_len ⟨pf, pa, pb, pl, hv, hs⟩ i
      refine wpc_skip ?_
      refine ex_then ?_
      refine wpc_seq ?_
      refine wpc_block ?_
      refine wpc_seq ?_
      refine wpc_region ?_
      refine wpl_q (q_field Tryd.underlying29 rfl Tryd.ti27 rfl rfl _ rfl) rfl ?_
      refine wpl_q (q_ld Tryd.underlying27 rfl rfl rfl) rfl ?_
      refine wpl_q (q_pure rfl) rfl ?_
      refine wpl_q (q_idxW Tryd.underlying27 Tryd.ti68 rfl rfl (by first | assumption | exact SV.nil | exact SV.slv (by assumption) (by omega) (by omega) | exact arv_sv (by first | decide | (simp only [maxLen]; omega))) (by first | omega | (simp only [maxLen]; omega) | (simp only [List.length_append, List.length_cons, List.length_nil, List.length_take, maxLen]; omega) | (simp only [List.length_append, List.length_cons, List.length_nil, List.length_take]; omega))) rfl ?_
      refine wpl_q (q_ldWN Tryd.underlying68 rfl Tryd.ti68 rfl (fun w h => h.seen_old hh) (hs.getD i Hop.z).c (cat_part Hop.c_length Hop.z hil) (Hop.c_length _)) rfl ?_
      refine wpl_t (t_alloc Tryd.ti68 Hop.z.c rfl) rfl (fun b8 => ?_)
      refine wpl_t0 (t_stA Tryd.ti68 rfl rfl LenC.h OneC.h LenC.h) (fun _ => ?_)
      refine wpl_nil ?_
      refine ex_then ?_
      refine wpc_seq ?_
      refine wpc_draw 99 (by kernel_rfl) (fun _ h => h.drew) ?_
      refine wpd_p 0 rfl (by kernel_rfl) trivial (q_pure rfl) rfl sk0 ?_
      refine wpd_p 1 rfl (by kernel_rfl) trivial (q_field Tryd.underlying68 rfl Tryd.ti49 rfl rfl _ rfl) rfl sk0 ?_
      refine wpd_q 2 rfl (by kernel_rfl) trivial (q_ld Tryd.underlying49 rfl rfl (Hop.c_sy _)) rfl (fun _ h => h) ?_
      refine wpd_p 3 rfl (by kernel_rfl) trivial (q_field Tryd.underlying68 rfl Tryd.ti63 rfl rfl _ rfl) rfl sk0 ?_
      refine wpd_q 4 rfl (by kernel_rfl) trivial (q_ldP Tryd.underlying63 rfl Tryd.ti63 rfl (hs.getD i Hop.z).key (Hop.c_key _) (Hop.key_length _)) rfl (fun _ h => h) ?_
      refine wpd_t 5 rfl (by kernel_rfl) trivial (t_pur (v := .bool (decide ((hs.getD i Hop.z).rk ∈ ks))) Tryd.hb50 rfl fun w h => listed kv ks (hs.getD i Hop.z).sy (hs.getD i Hop.z).root (hs.getD i Hop.z).ht w (h.seen_old hkv)) rfl (fun _ => sk0) (fun b38 => ?_)
      refine wpd_p 6 rfl (by kernel_rfl) trivial (q_pure rfl) rfl sk0 ?_
      refine wpd_p 7 rfl (by kernel_rfl) trivial (q_pure rfl) rfl sk0 ?_
      refine wpd_bool2 40 39 rfl rfl (fun hb40 => ?_) (fun hb40 => ?_)
      ·
       have hwr : wrongH ⟨pf, pa, pb, pl, hv, hs⟩ ks i := .inl (by simpa only [Bool.not_eq_true', decide_eq_false_iff_not] using hb40)
       refine wpd_off 8 rfl (by kernel_rfl) ⟨_, _, rfl, rfl, rfl⟩ rfl sk0 ?_
       refine wpd_off 9 rfl (by kernel_rfl) ⟨_, _, rfl, rfl, rfl⟩ rfl sk0 ?_
       refine wpd_off 10 rfl (by kernel_rfl) ⟨_, _, rfl, rfl, rfl⟩ rfl sk0 ?_
       refine wpd_off 11 rfl (by kernel_rfl) ⟨_, _, rfl, rfl, rfl⟩ rfl sk0 ?_
       refine wpd_off 12 rfl (by kernel_rfl) ⟨_, _, rfl, rfl, rfl⟩ rfl sk0 ?_
       refine wpd_off 13 rfl (by kernel_rfl) ⟨_, _, rfl, rfl, rfl⟩ rfl sk0 ?_
       refine wpd_off 14 rfl (by kernel_rfl) ⟨_, _, rfl, rfl, rfl⟩ rfl sk0 ?_
       refine wpd_off 15 rfl (by kernel_rfl) ⟨_, _, rfl, rfl, rfl⟩ rfl sk0 ?_
       refine wpd_off 16 rfl (by kernel_rfl) ⟨_, _, rfl, rfl, rfl⟩ rfl sk0 ?_
       refine wpd_p 17 rfl (by kernel_rfl) trivial (q_pure rfl) rfl sk0 ?_
       refine wpd_done (by kernel_rfl) ?_
       refine ex_then ?_
       refine wpc_cond_t rfl ?_
       refine wpc_seq ?_
       refine wpc_region ?_
       refine wpl_q (q_pure rfl) rfl ?_
       refine wpl_q (q_pure rfl) rfl ?_
       refine wpl_q (q_pure rfl) rfl ?_
       refine wpl_nil ?_
       refine ex_then ?_
       refine wpc_ret ?_
       refine ex_block_ret ?_
       refine ex_then_ret ?_
       refine ex_then_ret ?_
       refine ex_block_ret ?_
       refine ex_then_ret ?_
       refine ret2 (.inl rfl) rfl rfl rfl ?_
       have hR := firstW_at (p := ⟨pf, pa, pb, pl, hv, hs⟩) hil hwr hi1
       exact fun w2 h => ⟨by rw [wrI_ok hE, hR, hE], h.below⟩
      ·
       have hls : (hs.getD i Hop.z).rk ∈ ks := by simpa only [Bool.not_eq_false', decide_eq_true_eq] using hb40
       refine wpd_p 8 rfl (by kernel_rfl) ⟨_, rfl, rfl⟩ (q_field Tryd.underlying68 rfl Tryd.ti63 rfl rfl _ rfl) rfl sk0 ?_
       refine wpd_q 9 rfl (by kernel_rfl) ⟨_, rfl, rfl⟩ (q_ldP Tryd.underlying63 rfl Tryd.ti63 rfl (hs.getD i Hop.z).key (Hop.c_key _) (Hop.key_length _)) rfl (fun _ h => h) ?_
       refine wpd_q 10 rfl (by kernel_rfl) ⟨_, rfl, rfl⟩ (q_ldN Tryd.underlying29 rfl Tryd.ti29 rfl LenC.h) rfl (fun _ h => h) ?_
       refine wpd_p 11 rfl (by kernel_rfl) ⟨_, rfl, rfl⟩ (q_pure rfl) rfl sk0 ?_
       refine wpd_p 13 rfl (by kernel_rfl) ⟨_, rfl, rfl⟩ (q_field Tryd.underlying68 rfl Tryd.ti66 rfl rfl _ rfl) rfl sk0 ?_
       refine wpd_q 14 rfl (by kernel_rfl) ⟨_, rfl, rfl⟩ (q_ldP Tryd.underlying66 rfl Tryd.ti66 rfl (hs.getD i Hop.z).sig (Hop.c_sig _) rfl) rfl (fun _ h => h) ?_
       refine wpd_tp 12 rfl (by kernel_rfl) ⟨_, rfl, rfl⟩ (t_callP1 Tryd.hb39 rfl fun w h => refMessage ⟨pf, pa, pb, pl, hv, hs⟩ hlim i w (hp.old h) hil) rfl (fun _ => (fun w h => .inr (h.sub SubC.h SubC.h))) (fun b45 p45 => ?_)
       refine wpd_t 15 rfl (by kernel_rfl) ⟨_, rfl, rfl⟩ (t_pur (v := .bool (decide (verH (hs.getD i Hop.z) (msgB ⟨pf, pa, pb, pl, hv, hs⟩ i)))) Tryd.hb51 rfl fun w2 h => refVerify7 (hs.getD i Hop.z).root.1 (hs.getD i Hop.z).ht b45 (msgB ⟨pf, pa, pb, pl, hv, hs⟩ i) (hs.getD i Hop.z).cv (hs.getD i Hop.z).pv (hs.getD i Hop.z).chs (hs.getD i Hop.z).ps (hs.getD i Hop.z).ix w2 (hs.getD i Hop.z).root.2 (h.seen_row (by repeat (first | exact List.mem_cons_self .. | apply List.mem_cons_of_mem))) (hsx.old h).1 hsx.2.1 (hsx.old h).2.2.1 hsx.2.2.2 (by omega)) rfl (fun _ => (fun w h => .inr (h.sub SubC.h SubC.h))) (fun b48 => ?_)
       refine wpd_p 16 rfl (by kernel_rfl) ⟨_, rfl, rfl⟩ (q_pure rfl) rfl (fun w h => .inr (h.sub SubC.h SubC.h)) ?_
       refine wpd_p 17 rfl (by kernel_rfl) trivial (q_pure rfl) rfl (fun w h => .inr (h.sub SubC.h SubC.h)) ?_
       refine wpd_done (by kernel_rfl) ?_
       refine ex_then ?_
       refine wpc_cond rfl (fun hc50 => ?_) (fun hc50 => ?_)
       ·
        have hwr : wrongH ⟨pf, pa, pb, pl, hv, hs⟩ ks i := .inr (by simpa only [Bool.not_eq_true', decide_eq_false_iff_not] using hc50)
        refine wpc_seq ?_
        refine wpc_region ?_
        refine wpl_q (q_pure rfl) rfl ?_
        refine wpl_q (q_pure rfl) rfl ?_
        refine wpl_q (q_pure rfl) rfl ?_
        refine wpl_nil ?_
        refine ex_then ?_
        refine wpc_ret ?_
        refine ex_block_ret ?_
        refine ex_then_ret ?_
        refine ex_then_ret ?_
        refine ex_block_ret ?_
        refine ex_then_ret ?_
        refine ret2 (.inl rfl) rfl rfl rfl ?_
        have hR := firstW_at (p := ⟨pf, pa, pb, pl, hv, hs⟩) hil hwr hi1
        exact fun w2 h => ⟨by rw [wrI_ok hE, hR, hE], h.below⟩
       ·
        have hvr : verH (hs.getD i Hop.z) (msgB ⟨pf, pa, pb, pl, hv, hs⟩ i) := by simpa only [Bool.not_eq_false', decide_eq_true_eq] using hc50
        have hok : ¬ wrongH ⟨pf, pa, pb, pl, hv, hs⟩ ks i := by rintro (q | q); exact q hls; exact q hvr
        refine wpc_skip ?_
        refine ex_block ?_
        refine ex_then ?_
        refine wpc_region ?_
        refine wpl_q (q_pure rfl) rfl ?_
        refine wpl_q (q_addN (b := 1) rfl rfl (by first | omega | (simp only [maxLen]; omega) | (simp only [List.length_append, List.length_cons, List.length_nil, List.length_take, maxLen]; omega) | (simp only [List.length_append, List.length_cons, List.length_nil, List.length_take]; omega))) rfl ?_
        refine wpl_q (q_pure rfl) rfl ?_
        refine wpl_nil ?_
        refine ex_again ⟨i + 1, ⟨by show i + 1 ≤ hs.length; omega, fun j hj => by rcases Nat.lt_or_ge j i with h | h; exact hi1 j h; obtain rfl : j = i := (by have hj : j < i + 1 := hj; omega); exact hok⟩⟩ ?_ ?_ ?_
        ·
         exact (by repeat (first | exact trivial | refine ⟨rfl, ?_⟩))
        ·
         exact fun w h => by first | exact h | exact h.sub SubC.h SubC.h | exact h.sub (by repeat (first | exact Sub.nil | exact Sub.refl _ | with_reducible refine Sub.keep ?_ | refine Sub.drop ?_)) (by repeat (first | exact Sub.nil | exact Sub.refl _ | with_reducible refine Sub.keep ?_ | refine Sub.drop ?_))
        ·
         (show hs.length - (i + 1) < hs.length - i); omega
     ·
      simp only [decide_eq_false_iff_not] at hc25
      obtain rfl : i = hs.length := by omega
      have hR : firstW ⟨pf, pa, pb, pl, hv, hs⟩ ks = -1 := firstW_no (p := ⟨pf, pa, pb, pl, hv, hs⟩) hi1
      refine wpc_exit ?_
      refine ex_then_exit ?_
      refine ex_then_exit ?_
      refine ex_block_hit ?_
      refine ex_then ?_
      refine wpc_seq ?_
      refine wpc_region ?_
      refine wpl_q (q_pure rfl) rfl ?_
      refine wpl_q (q_pure rfl) rfl ?_
      refine wpl_nil ?_
      refine ex_then ?_
      refine wpc_ret ?_
      refine ret2 (.inl rfl) rfl rfl rfl ?_
      exact fun w2 h => ⟨by rw [wrI_ok hE, hR, hE], h.below⟩

end Go.Proofs.YtjpfhkjmjnjggaaDoor

namespace Go.Proofs.YtjpfhkjmjnjggaaDoor
set_option linter.unusedSimpArgs false
set_option linter.unusedVariables false
open Go Go.PL Go.RowKit

def vrE (ks : List RK) : Int := if 100 < ks.length then 4 else 0
def vrV (p : Pth) (to : UInt32) (ks : List RK) : UInt8 := if 100 < ks.length then 0 else if p.hs.length = 0 then 0 else if wrE p ks ≠ 0 ∨ 0 ≤ wrI p ks ∨ ¬ (p.hs.getD (p.hs.length - 1) Hop.z).to = to then 2 else 1
theorem vrE_many {ks : List RK} (h : 100 < ks.length) : vrE ks = 4 := if_pos h
theorem vrE_ok {ks : List RK} (h : ¬ 100 < ks.length) : vrE ks = 0 := if_neg h
theorem vrV_many {p : Pth} {to : UInt32} {ks : List RK} (h : 100 < ks.length) : vrV p to ks = 0 := if_pos h
theorem vrV_none {p : Pth} {to : UInt32} {ks : List RK} (h : ¬ 100 < ks.length) (h2 : p.hs.length = 0) : vrV p to ks = 0 := (if_neg h).trans (if_pos h2)
theorem vrV_bad {p : Pth} {to : UInt32} {ks : List RK} (h : ¬ 100 < ks.length) (h2 : ¬ p.hs.length = 0) (h3 : wrE p ks ≠ 0 ∨ 0 ≤ wrI p ks ∨ ¬ (p.hs.getD (p.hs.length - 1) Hop.z).to = to) : vrV p to ks = 2 := (if_neg h).trans ((if_neg h2).trans (if_pos h3))
theorem vrV_ok {p : Pth} {to : UInt32} {ks : List RK} (h : ¬ 100 < ks.length) (h2 : ¬ p.hs.length = 0) (h3 : ¬ (wrE p ks ≠ 0 ∨ 0 ≤ wrI p ks ∨ ¬ (p.hs.getD (p.hs.length - 1) Hop.z).to = to)) : vrV p to ks = 1 := (if_neg h).trans ((if_neg h2).trans (if_neg h3))

set_option maxRecDepth 100000 in
theorem verify42 (p : Pth) (to : UInt32) (kv : Value) (ks : List RK) (w : World) (hp : p.seen w.cell?) (hkv : Seen w.cell? kv ks.length 18 (rks ks)) (hlim : SmP p) (hG : Glb w) :
    Calls Tryd.prog 24 [.agg p.c.toArray, .int .u32 to.toNat, kv].toArray w (Pur w (.tuple #[.int .u8 ((vrV p to ks).toNat : Int), .int .i64 (vrE ks)])) := by
  obtain ⟨pf, pa, pb, pl, hv, hs⟩ := p
  have hh : Seen w.cell? hv hs.length 24 (hcs hs) := hp.1
  have svh := hh.sv
  have lh := svh.le
  simp only [maxLen] at lh
  have skv := hkv.sv
  have lkv := skv.le
  simp only [maxLen] at lkv
  refine enter (m := 42) (R := Mem w [] [] []) Tryd.func24 rfl rfl (Nat.le_of_ble_eq_true rfl) (Mem.start w) ?_
  refine wpc_seq ?_
  refine wpc_region ?_
  refine wpl_t (t_box rfl [.int .u8 (pf.toNat : Int), .int .u64 (pa.toNat : Int), .int .u64 (pb.toNat : Int), .int .i64 pl, hv] rfl) rfl (fun b3 => ?_)
  refine wpl_q (q_pure rfl) rfl ?_
  refine wpl_q (q_pure rfl) rfl ?_
  refine wpl_nil ?_
  refine ex_then ?_
  refine wpc_seq ?_
  refine wpc_seq ?_
  refine wpc_region ?_
  refine wpl_q (q_pure rfl) rfl ?_
  refine wpl_q (q_lenW Tryd.underlying50 rfl (by first | assumption | exact SV.nil | exact SV.slv (by assumption) (by omega) (by omega) | exact arv_sv (by first | decide | (simp only [maxLen]; omega)))) rfl ?_
  refine wpl_q (q_pure rfl) rfl ?_
  refine wpl_nil ?_
  refine ex_then ?_
  refine wpc_cond rfl (fun hc13 => ?_) (fun hc13 => ?_)
  ·
   simp only [decide_eq_true_eq] at hc13
   have hk100 : 100 < ks.length := by omega
   have hR : vrV ⟨pf, pa, pb, pl, hv, hs⟩ to ks = 0 := vrV_many hk100
   have hE : vrE ks = 4 := vrE_many hk100
   refine wpc_seq ?_
   refine wpc_region ?_
   refine wpl_q (q_pure rfl) rfl ?_
   refine wpl_q (q_pure rfl) rfl ?_
   refine wpl_nil ?_
   refine ex_then ?_
   refine wpc_ret ?_
   refine ex_then_ret ?_
   refine ret2 (.inl rfl) rfl rfl rfl ?_
   exact fun w2 h => ⟨by rw [hR, hE]; rfl, h.below⟩
  ·
   simp only [decide_eq_false_iff_not] at hc13
   have hk100 : ¬ 100 < ks.length := by omega
   have hE : vrE ks = 0 := vrE_ok hk100
   refine wpc_skip ?_
   refine ex_then ?_
   refine wpc_seq ?_
   refine wpc_region ?_
   refine wpl_q (q_field Tryd.underlying29 rfl Tryd.ti27 rfl rfl _ rfl) rfl ?_
   refine wpl_q (q_ld Tryd.underlying27 rfl rfl rfl) rfl ?_
   refine wpl_q (q_lenW Tryd.underlying27 rfl (by first | assumption | exact SV.nil | exact SV.slv (by assumption) (by omega) (by omega) | exact arv_sv (by first | decide | (simp only [maxLen]; omega)))) rfl ?_
   refine wpl_q (q_pure rfl) rfl ?_
   refine wpl_nil ?_
   refine ex_then ?_
   refine wpc_seq ?_
   refine wpc_seq ?_
   refine wpc_region ?_
   refine wpl_q (q_pure rfl) rfl ?_
   refine wpl_q (q_pure rfl) rfl ?_
   refine wpl_nil ?_
   refine ex_then ?_
   refine wpc_cond rfl (fun hc18 => ?_) (fun hc18 => ?_)
   ·
    have h0q : ((hs.length : Nat) : Int) = 0 := by simpa using hc18
    have h0 : hs.length = 0 := by omega
    have hR : vrV ⟨pf, pa, pb, pl, hv, hs⟩ to ks = 0 := vrV_none hk100 h0
    refine wpc_seq ?_
    refine wpc_region ?_
    refine wpl_q (q_pure rfl) rfl ?_
    refine wpl_q (q_pure rfl) rfl ?_
    refine wpl_nil ?_
    refine ex_then ?_
    refine wpc_ret ?_
    refine ex_then_ret ?_
    refine ret2 (.inl rfl) rfl rfl rfl ?_
    exact fun w2 h => ⟨by rw [hR, hE]; rfl, h.below⟩
   ·
    have h0q : ¬ ((hs.length : Nat) : Int) = 0 := by simpa using hc18
    have h0 : ¬ hs.length = 0 := by omega
    refine wpc_skip ?_
    refine ex_then ?_
    refine wpc_seq ?_
    refine wpc_region ?_
    refine wpl_q (q_ldN Tryd.underlying29 rfl Tryd.ti29 rfl LenC.h) rfl ?_
    refine wpl_q (q_pure rfl) rfl ?_
    refine wpl_t (t_pur Tryd.hb22 rfl fun w h => wrong ⟨pf, pa, pb, pl, hv, hs⟩ kv ks w (hp.old h) (h.seen_old hkv) hlim (glob h hG)) rfl (fun b22 => ?_)
    refine wpl_q (q_pure rfl) rfl ?_
    refine wpl_q (q_pure rfl) rfl ?_
    refine wpl_q (q_pure rfl) rfl ?_
    refine wpl_q (q_pure rfl) rfl ?_
    refine wpl_q (q_pure rfl) rfl ?_
    refine wpl_nil ?_
    refine ex_then ?_
    refine wpc_seq ?_
    refine wpc_seq ?_
    refine wpc_region ?_
    refine wpl_q (q_pure rfl) rfl ?_
    refine wpl_q (q_pure rfl) rfl ?_
    refine wpl_q (q_pure rfl) rfl ?_
    refine wpl_bool2 27 26 rfl rfl (fun hb27 => ?_) (fun hb27 => ?_)
    ·
     have h1 : wrE ⟨pf, pa, pb, pl, hv, hs⟩ ks ≠ 0 := by simpa using hb27
     have hbad : wrE ⟨pf, pa, pb, pl, hv, hs⟩ ks ≠ 0 ∨ 0 ≤ wrI ⟨pf, pa, pb, pl, hv, hs⟩ ks ∨ ¬ (hs.getD (hs.length - 1) Hop.z).to = to := .inl h1
     have hR : vrV ⟨pf, pa, pb, pl, hv, hs⟩ to ks = 2 := vrV_bad hk100 h0 hbad
     refine wpl_off rfl rfl rfl rfl ?_
     refine wpl_off rfl rfl rfl rfl ?_
     refine wpl_q (q_pure rfl) rfl ?_
     refine wpl_q (q_pure rfl) rfl ?_
     refine wpl_off rfl rfl rfl rfl ?_
     refine wpl_off rfl rfl rfl rfl ?_
     refine wpl_off rfl rfl rfl rfl ?_
     refine wpl_off rfl rfl rfl rfl ?_
     refine wpl_off rfl rfl rfl rfl ?_
     refine wpl_off rfl rfl rfl rfl ?_
     refine wpl_off rfl rfl rfl rfl ?_
     refine wpl_off rfl rfl rfl rfl ?_
     refine wpl_off rfl rfl rfl rfl ?_
     refine wpl_q (q_pure rfl) rfl ?_
     refine wpl_nil ?_
     refine ex_then ?_
     refine wpc_cond_t rfl ?_
     refine wpc_seq ?_
     refine wpc_region ?_
     refine wpl_q (q_pure rfl) rfl ?_
     refine wpl_q (q_pure rfl) rfl ?_
     refine wpl_nil ?_
     refine ex_then ?_
     refine wpc_ret ?_
     refine ex_then_ret ?_
     refine ret2 (.inl rfl) rfl rfl rfl ?_
     exact fun w2 h => ⟨by rw [hR, hE]; rfl, h.below⟩
    ·
     have h1 : ¬ wrE ⟨pf, pa, pb, pl, hv, hs⟩ ks ≠ 0 := by simpa using hb27
     refine wpl_on rfl rfl ?_
     refine wpl_q (q_pure rfl) rfl ?_
     refine wpl_on rfl rfl ?_
     refine wpl_q (q_pure rfl) rfl ?_
     refine wpl_q (q_pure rfl) rfl ?_
     refine wpl_q (q_pure rfl) rfl ?_
     refine wpl_bool2 31 29 rfl rfl (fun hb31 => ?_) (fun hb31 => ?_)
     ·
      have h2 : 0 ≤ wrI ⟨pf, pa, pb, pl, hv, hs⟩ ks := by simpa using hb31
      have hbad : wrE ⟨pf, pa, pb, pl, hv, hs⟩ ks ≠ 0 ∨ 0 ≤ wrI ⟨pf, pa, pb, pl, hv, hs⟩ ks ∨ ¬ (hs.getD (hs.length - 1) Hop.z).to = to := .inr (.inl h2)
      have hR : vrV ⟨pf, pa, pb, pl, hv, hs⟩ to ks = 2 := vrV_bad hk100 h0 hbad
      refine wpl_off rfl rfl rfl rfl ?_
      refine wpl_off rfl rfl rfl rfl ?_
      refine wpl_off rfl rfl rfl rfl ?_
      refine wpl_off rfl rfl rfl rfl ?_
      refine wpl_off rfl rfl rfl rfl ?_
      refine wpl_off rfl rfl rfl rfl ?_
      refine wpl_off rfl rfl rfl rfl ?_
      refine wpl_off rfl rfl rfl rfl ?_
      refine wpl_off rfl rfl rfl rfl ?_
      refine wpl_q (q_pure rfl) rfl ?_
      refine wpl_nil ?_
      refine ex_then ?_
      refine wpc_cond_t rfl ?_
      refine wpc_seq ?_
      refine wpc_region ?_
      refine wpl_q (q_pure rfl) rfl ?_
      refine wpl_q (q_pure rfl) rfl ?_
      refine wpl_nil ?_
      refine ex_then ?_
      refine wpc_ret ?_
      refine ex_then_ret ?_
      refine ret2 (.inl rfl) rfl rfl rfl ?_
      exact fun w2 h => ⟨by rw [hR, hE]; rfl, h.below⟩
     ·
      have h2 : ¬ 0 ≤ wrI ⟨pf, pa, pb, pl, hv, hs⟩ ks := by simpa using hb31
      refine wpl_on rfl rfl ?_
      refine wpl_q (q_field Tryd.underlying29 rfl Tryd.ti27 rfl rfl _ rfl) rfl ?_
      refine wpl_on rfl rfl ?_
      refine wpl_q (q_ld Tryd.underlying27 rfl rfl rfl) rfl ?_
      refine wpl_on rfl rfl ?_
      refine wpl_q (q_pure rfl) rfl ?_
      refine wpl_on rfl rfl ?_
      refine wpl_q (q_subN (b := 1) rfl rfl (by omega) (by first | omega | (simp only [maxLen]; omega) | (simp only [List.length_append, List.length_cons, List.length_nil, List.length_take, maxLen]; omega) | (simp only [List.length_append, List.length_cons, List.length_nil, List.length_take]; omega))) rfl ?_
      refine wpl_on rfl rfl ?_
      refine wpl_q (q_idxW Tryd.underlying27 Tryd.ti68 rfl rfl (by first | assumption | exact SV.nil | exact SV.slv (by assumption) (by omega) (by omega) | exact arv_sv (by first | decide | (simp only [maxLen]; omega))) (by first | omega | (simp only [maxLen]; omega) | (simp only [List.length_append, List.length_cons, List.length_nil, List.length_take, maxLen]; omega) | (simp only [List.length_append, List.length_cons, List.length_nil, List.length_take]; omega))) rfl ?_
      refine wpl_on rfl rfl ?_
      refine wpl_q (q_fieldPo 3 Tryd.underlying68 rfl Tryd.ti49 rfl rfl rfl) rfl ?_
      refine wpl_on rfl rfl ?_
      refine wpl_q (q_ldWF Tryd.underlying49 rfl rfl (fun w h => h.seen_old hh) (cat_get Hop.c_length Hop.z (show hs.length - 1 < hs.length from (by omega)) (Hop.c_to _))) rfl ?_
      refine wpl_on rfl rfl ?_
      refine wpl_q (q_pure rfl) rfl ?_
      refine wpl_on rfl rfl ?_
      refine wpl_q (q32_neq rfl rfl) rfl ?_
      refine wpl_q (q_pure rfl) rfl ?_
      refine wpl_nil ?_
      refine ex_then ?_
      refine wpc_cond rfl (fun hc41 => ?_) (fun hc41 => ?_)
      ·
       have h3 : ¬ (hs.getD (hs.length - 1) Hop.z).to = to := by simpa using hc41
       have hbad : wrE ⟨pf, pa, pb, pl, hv, hs⟩ ks ≠ 0 ∨ 0 ≤ wrI ⟨pf, pa, pb, pl, hv, hs⟩ ks ∨ ¬ (hs.getD (hs.length - 1) Hop.z).to = to := .inr (.inr h3)
       have hR : vrV ⟨pf, pa, pb, pl, hv, hs⟩ to ks = 2 := vrV_bad hk100 h0 hbad
       refine wpc_seq ?_
       refine wpc_region ?_
       refine wpl_q (q_pure rfl) rfl ?_
       refine wpl_q (q_pure rfl) rfl ?_
       refine wpl_nil ?_
       refine ex_then ?_
       refine wpc_ret ?_
       refine ex_then_ret ?_
       refine ret2 (.inl rfl) rfl rfl rfl ?_
       exact fun w2 h => ⟨by rw [hR, hE]; rfl, h.below⟩
      ·
       have h3 : (hs.getD (hs.length - 1) Hop.z).to = to := by simpa using hc41
       have hR : vrV ⟨pf, pa, pb, pl, hv, hs⟩ to ks = 1 := vrV_ok hk100 h0 (by rintro (q | q | q); exact h1 q; exact h2 q; exact q h3)
       refine wpc_skip ?_
       refine ex_then ?_
       refine wpc_seq ?_
       refine wpc_region ?_
       refine wpl_q (q_pure rfl) rfl ?_
       refine wpl_q (q_pure rfl) rfl ?_
       refine wpl_nil ?_
       refine ex_then ?_
       refine wpc_ret ?_
       refine ret2 (.inl rfl) rfl rfl rfl ?_
       exact fun w2 h => ⟨by rw [hR, hE]; rfl, h.below⟩

set_option maxRecDepth 100000 in
theorem refVerify42 (p : Pth) (to : UInt32) (kv : Value) (ks : List RK) (w : World) (hp : p.seen w.cell?) (hkv : Seen w.cell? kv ks.length 18 (rks ks)) (hlim : SmP p) :
    Calls Tryd.prog 25 [.agg p.c.toArray, .int .u32 to.toNat, kv].toArray w (Pur w (.tuple #[.int .u8 ((vrV p to ks).toNat : Int), .int .i64 (vrE ks)])) := by
  obtain ⟨pf, pa, pb, pl, hv, hs⟩ := p
  have hh : Seen w.cell? hv hs.length 24 (hcs hs) := hp.1
  have svh := hh.sv
  have lh := svh.le
  simp only [maxLen] at lh
  have skv := hkv.sv
  have lkv := skv.le
  simp only [maxLen] at lkv
  refine enter (m := 42) (R := Mem w [] [] []) Tryd.func25 rfl rfl (Nat.le_of_ble_eq_true rfl) (Mem.start w) ?_
  refine wpc_seq ?_
  refine wpc_region ?_
  refine wpl_t (t_box rfl [.int .u8 (pf.toNat : Int), .int .u64 (pa.toNat : Int), .int .u64 (pb.toNat : Int), .int .i64 pl, hv] rfl) rfl (fun b3 => ?_)
  refine wpl_q (q_pure rfl) rfl ?_
  refine wpl_q (q_pure rfl) rfl ?_
  refine wpl_nil ?_
  refine ex_then ?_
  refine wpc_seq ?_
  refine wpc_seq ?_
  refine wpc_region ?_
  refine wpl_q (q_pure rfl) rfl ?_
  refine wpl_q (q_lenW Tryd.underlying50 rfl (by first | assumption | exact SV.nil | exact SV.slv (by assumption) (by omega) (by omega) | exact arv_sv (by first | decide | (simp only [maxLen]; omega)))) rfl ?_
  refine wpl_q (q_pure rfl) rfl ?_
  refine wpl_nil ?_
  refine ex_then ?_
  refine wpc_cond rfl (fun hc12 => ?_) (fun hc12 => ?_)
  ·
   simp only [decide_eq_true_eq] at hc12
   have hk100 : 100 < ks.length := by omega
   have hR : vrV ⟨pf, pa, pb, pl, hv, hs⟩ to ks = 0 := vrV_many hk100
   have hE : vrE ks = 4 := vrE_many hk100
   refine wpc_seq ?_
   refine wpc_region ?_
   refine wpl_q (q_pure rfl) rfl ?_
   refine wpl_q (q_pure rfl) rfl ?_
   refine wpl_nil ?_
   refine ex_then ?_
   refine wpc_ret ?_
   refine ex_then_ret ?_
   refine ret2 (.inl rfl) rfl rfl rfl ?_
   exact fun w2 h => ⟨by rw [hR, hE]; rfl, h.below⟩
  ·
   simp only [decide_eq_false_iff_not] at hc12
   have hk100 : ¬ 100 < ks.length := by omega
   have hE : vrE ks = 0 := vrE_ok hk100
   refine wpc_skip ?_
   refine ex_then ?_
   refine wpc_seq ?_
   refine wpc_seq ?_
   refine wpc_region ?_
   refine wpl_q (q_field Tryd.underlying29 rfl Tryd.ti27 rfl rfl _ rfl) rfl ?_
   refine wpl_q (q_ld Tryd.underlying27 rfl rfl rfl) rfl ?_
   refine wpl_q (q_lenW Tryd.underlying27 rfl (by first | assumption | exact SV.nil | exact SV.slv (by assumption) (by omega) (by omega) | exact arv_sv (by first | decide | (simp only [maxLen]; omega)))) rfl ?_
   refine wpl_q (q_pure rfl) rfl ?_
   refine wpl_nil ?_
   refine ex_then ?_
   refine wpc_cond rfl (fun hc16 => ?_) (fun hc16 => ?_)
   ·
    have h0q : ((hs.length : Nat) : Int) = 0 := by simpa using hc16
    have h0 : hs.length = 0 := by omega
    have hR : vrV ⟨pf, pa, pb, pl, hv, hs⟩ to ks = 0 := vrV_none hk100 h0
    refine wpc_seq ?_
    refine wpc_region ?_
    refine wpl_q (q_pure rfl) rfl ?_
    refine wpl_q (q_pure rfl) rfl ?_
    refine wpl_nil ?_
    refine ex_then ?_
    refine wpc_ret ?_
    refine ex_then_ret ?_
    refine ret2 (.inl rfl) rfl rfl rfl ?_
    exact fun w2 h => ⟨by rw [hR, hE]; rfl, h.below⟩
   ·
    have h0q : ¬ ((hs.length : Nat) : Int) = 0 := by simpa using hc16
    have h0 : ¬ hs.length = 0 := by omega
    refine wpc_skip ?_
    refine ex_then ?_
    refine wpc_seq ?_
    refine wpc_region ?_
    refine wpl_q (q_ldN Tryd.underlying29 rfl Tryd.ti29 rfl LenC.h) rfl ?_
    refine wpl_q (q_pure rfl) rfl ?_
    refine wpl_t (t_pur Tryd.hb23 rfl fun w h => refWrong ⟨pf, pa, pb, pl, hv, hs⟩ kv ks w (hp.old h) (h.seen_old hkv) hlim) rfl (fun b20 => ?_)
    refine wpl_q (q_pure rfl) rfl ?_
    refine wpl_q (q_pure rfl) rfl ?_
    refine wpl_q (q_pure rfl) rfl ?_
    refine wpl_q (q_pure rfl) rfl ?_
    refine wpl_q (q_pure rfl) rfl ?_
    refine wpl_nil ?_
    refine ex_then ?_
    refine wpc_seq ?_
    refine wpc_seq ?_
    refine wpc_region ?_
    refine wpl_q (q_pure rfl) rfl ?_
    refine wpl_q (q_pure rfl) rfl ?_
    refine wpl_q (q_pure rfl) rfl ?_
    refine wpl_bool2 25 24 rfl rfl (fun hb25 => ?_) (fun hb25 => ?_)
    ·
     have h1 : wrE ⟨pf, pa, pb, pl, hv, hs⟩ ks ≠ 0 := by simpa using hb25
     have hbad : wrE ⟨pf, pa, pb, pl, hv, hs⟩ ks ≠ 0 ∨ 0 ≤ wrI ⟨pf, pa, pb, pl, hv, hs⟩ ks ∨ ¬ (hs.getD (hs.length - 1) Hop.z).to = to := .inl h1
     have hR : vrV ⟨pf, pa, pb, pl, hv, hs⟩ to ks = 2 := vrV_bad hk100 h0 hbad
     refine wpl_off rfl rfl rfl rfl ?_
     refine wpl_off rfl rfl rfl rfl ?_
     refine wpl_q (q_pure rfl) rfl ?_
     refine wpl_q (q_pure rfl) rfl ?_
     refine wpl_off rfl rfl rfl rfl ?_
     refine wpl_off rfl rfl rfl rfl ?_
     refine wpl_off rfl rfl rfl rfl ?_
     refine wpl_off rfl rfl rfl rfl ?_
     refine wpl_off rfl rfl rfl rfl ?_
     refine wpl_off rfl rfl rfl rfl ?_
     refine wpl_off rfl rfl rfl rfl ?_
     refine wpl_off rfl rfl rfl rfl ?_
     refine wpl_off rfl rfl rfl rfl ?_
     refine wpl_off rfl rfl rfl rfl ?_
     refine wpl_off rfl rfl rfl rfl ?_
     refine wpl_q (q_pure rfl) rfl ?_
     refine wpl_nil ?_
     refine ex_then ?_
     refine wpc_cond_t rfl ?_
     refine wpc_seq ?_
     refine wpc_region ?_
     refine wpl_q (q_pure rfl) rfl ?_
     refine wpl_q (q_pure rfl) rfl ?_
     refine wpl_nil ?_
     refine ex_then ?_
     refine wpc_ret ?_
     refine ex_then_ret ?_
     refine ret2 (.inl rfl) rfl rfl rfl ?_
     exact fun w2 h => ⟨by rw [hR, hE]; rfl, h.below⟩
    ·
     have h1 : ¬ wrE ⟨pf, pa, pb, pl, hv, hs⟩ ks ≠ 0 := by simpa using hb25
     refine wpl_on rfl rfl ?_
     refine wpl_q (q_pure rfl) rfl ?_
     refine wpl_on rfl rfl ?_
     refine wpl_q (q_pure rfl) rfl ?_
     refine wpl_q (q_pure rfl) rfl ?_
     refine wpl_q (q_pure rfl) rfl ?_
     refine wpl_bool2 29 27 rfl rfl (fun hb29 => ?_) (fun hb29 => ?_)
     ·
      have h2 : 0 ≤ wrI ⟨pf, pa, pb, pl, hv, hs⟩ ks := by simpa using hb29
      have hbad : wrE ⟨pf, pa, pb, pl, hv, hs⟩ ks ≠ 0 ∨ 0 ≤ wrI ⟨pf, pa, pb, pl, hv, hs⟩ ks ∨ ¬ (hs.getD (hs.length - 1) Hop.z).to = to := .inr (.inl h2)
      have hR : vrV ⟨pf, pa, pb, pl, hv, hs⟩ to ks = 2 := vrV_bad hk100 h0 hbad
      refine wpl_off rfl rfl rfl rfl ?_
      refine wpl_off rfl rfl rfl rfl ?_
      refine wpl_off rfl rfl rfl rfl ?_
      refine wpl_off rfl rfl rfl rfl ?_
      refine wpl_off rfl rfl rfl rfl ?_
      refine wpl_off rfl rfl rfl rfl ?_
      refine wpl_off rfl rfl rfl rfl ?_
      refine wpl_off rfl rfl rfl rfl ?_
      refine wpl_off rfl rfl rfl rfl ?_
      refine wpl_off rfl rfl rfl rfl ?_
      refine wpl_off rfl rfl rfl rfl ?_
      refine wpl_q (q_pure rfl) rfl ?_
      refine wpl_nil ?_
      refine ex_then ?_
      refine wpc_cond_t rfl ?_
      refine wpc_seq ?_
      refine wpc_region ?_
      refine wpl_q (q_pure rfl) rfl ?_
      refine wpl_q (q_pure rfl) rfl ?_
      refine wpl_nil ?_
      refine ex_then ?_
      refine wpc_ret ?_
      refine ex_then_ret ?_
      refine ret2 (.inl rfl) rfl rfl rfl ?_
      exact fun w2 h => ⟨by rw [hR, hE]; rfl, h.below⟩
     ·
      have h2 : ¬ 0 ≤ wrI ⟨pf, pa, pb, pl, hv, hs⟩ ks := by simpa using hb29
      refine wpl_on rfl rfl ?_
      refine wpl_q (q_field Tryd.underlying29 rfl Tryd.ti27 rfl rfl _ rfl) rfl ?_
      refine wpl_on rfl rfl ?_
      refine wpl_q (q_ld Tryd.underlying27 rfl rfl rfl) rfl ?_
      refine wpl_on rfl rfl ?_
      refine wpl_q (q_field Tryd.underlying29 rfl Tryd.ti27 rfl rfl _ rfl) rfl ?_
      refine wpl_on rfl rfl ?_
      refine wpl_q (q_ld Tryd.underlying27 rfl rfl rfl) rfl ?_
      refine wpl_on rfl rfl ?_
      refine wpl_q (q_lenW Tryd.underlying27 rfl (by first | assumption | exact SV.nil | exact SV.slv (by assumption) (by omega) (by omega) | exact arv_sv (by first | decide | (simp only [maxLen]; omega)))) rfl ?_
      refine wpl_on rfl rfl ?_
      refine wpl_q (q_subN (b := 1) rfl rfl (by omega) (by first | omega | (simp only [maxLen]; omega) | (simp only [List.length_append, List.length_cons, List.length_nil, List.length_take, maxLen]; omega) | (simp only [List.length_append, List.length_cons, List.length_nil, List.length_take]; omega))) rfl ?_
      refine wpl_on rfl rfl ?_
      refine wpl_q (q_idxW Tryd.underlying27 Tryd.ti68 rfl rfl (by first | assumption | exact SV.nil | exact SV.slv (by assumption) (by omega) (by omega) | exact arv_sv (by first | decide | (simp only [maxLen]; omega))) (by first | omega | (simp only [maxLen]; omega) | (simp only [List.length_append, List.length_cons, List.length_nil, List.length_take, maxLen]; omega) | (simp only [List.length_append, List.length_cons, List.length_nil, List.length_take]; omega))) rfl ?_
      refine wpl_on rfl rfl ?_
      refine wpl_q (q_fieldPo 3 Tryd.underlying68 rfl Tryd.ti49 rfl rfl rfl) rfl ?_
      refine wpl_on rfl rfl ?_
      refine wpl_q (q_ldWF Tryd.underlying49 rfl rfl (fun w h => h.seen_old hh) (cat_get Hop.c_length Hop.z (show hs.length - 1 < hs.length from (by omega)) (Hop.c_to _))) rfl ?_
      refine wpl_on rfl rfl ?_
      refine wpl_q (q_pure rfl) rfl ?_
      refine wpl_on rfl rfl ?_
      refine wpl_q (q32_neq rfl rfl) rfl ?_
      refine wpl_q (q_pure rfl) rfl ?_
      refine wpl_nil ?_
      refine ex_then ?_
      refine wpc_cond rfl (fun hc41 => ?_) (fun hc41 => ?_)
      ·
       have h3 : ¬ (hs.getD (hs.length - 1) Hop.z).to = to := by simpa using hc41
       have hbad : wrE ⟨pf, pa, pb, pl, hv, hs⟩ ks ≠ 0 ∨ 0 ≤ wrI ⟨pf, pa, pb, pl, hv, hs⟩ ks ∨ ¬ (hs.getD (hs.length - 1) Hop.z).to = to := .inr (.inr h3)
       have hR : vrV ⟨pf, pa, pb, pl, hv, hs⟩ to ks = 2 := vrV_bad hk100 h0 hbad
       refine wpc_seq ?_
       refine wpc_region ?_
       refine wpl_q (q_pure rfl) rfl ?_
       refine wpl_q (q_pure rfl) rfl ?_
       refine wpl_nil ?_
       refine ex_then ?_
       refine wpc_ret ?_
       refine ex_then_ret ?_
       refine ret2 (.inl rfl) rfl rfl rfl ?_
       exact fun w2 h => ⟨by rw [hR, hE]; rfl, h.below⟩
      ·
       have h3 : (hs.getD (hs.length - 1) Hop.z).to = to := by simpa using hc41
       have hR : vrV ⟨pf, pa, pb, pl, hv, hs⟩ to ks = 1 := vrV_ok hk100 h0 (by rintro (q | q | q); exact h1 q; exact h2 q; exact q h3)
       refine wpc_skip ?_
       refine ex_then ?_
       refine wpc_seq ?_
       refine wpc_region ?_
       refine wpl_q (q_pure rfl) rfl ?_
       refine wpl_q (q_pure rfl) rfl ?_
       refine wpl_nil ?_
       refine ex_then ?_
       refine wpc_ret ?_
       refine ret2 (.inl rfl) rfl rfl rfl ?_
       exact fun w2 h => ⟨by rw [hR, hE]; rfl, h.below⟩

end Go.Proofs.YtjpfhkjmjnjggaaDoor

namespace Go.Proofs.YtjpfhkjmjnjggaaDoor
set_option linter.unusedSimpArgs false
set_option linter.unusedVariables false
open Go Go.PL Go.RowKit
set_option maxRecDepth 100000 in
theorem lawTells (p : Pth) (to : UInt32) (kv : Value) (ks : List RK) (w : World) (hp : p.seen w.cell?) (hkv : Seen w.cell? kv ks.length 18 (rks ks)) (hG : Glb w) :
    Calls Tryd.prog 4 [.agg p.c.toArray, .int .u32 to.toNat, kv].toArray w (Pur w (.bool true)) := by
  obtain ⟨pf, pa, pb, pl, hv, hs⟩ := p
  have hh : Seen w.cell? hv hs.length 24 (hcs hs) := hp.1
  have svh := hh.sv
  have lh := svh.le
  simp only [maxLen] at lh
  have skv := hkv.sv
  have lkv := skv.le
  simp only [maxLen] at lkv
  refine enter (m := 66) (R := Mem w [] [] []) Tryd.func4 rfl rfl (Nat.le_of_ble_eq_true rfl) (Mem.start w) ?_
  refine wpc_seq ?_
  refine wpc_region ?_
  refine wpl_t (t_box rfl [.int .u8 (pf.toNat : Int), .int .u64 (pa.toNat : Int), .int .u64 (pb.toNat : Int), .int .i64 pl, hv] rfl) rfl (fun b3 => ?_)
  refine wpl_q (q_pure rfl) rfl ?_
  refine wpl_nil ?_
  refine ex_then ?_
  refine wpc_seq ?_
  refine wpc_seq ?_
  refine wpc_region ?_
  refine wpl_q (q_ldN Tryd.underlying29 rfl Tryd.ti29 rfl LenC.h) rfl ?_
  refine wpl_t (t_pur Tryd.hb11 rfl fun w h => refGreat42 ⟨pf, pa, pb, pl, hv, hs⟩ w (hp.old h)) rfl (fun b16 => ?_)
  refine wpl_q (q_pure rfl) rfl ?_
  refine wpl_bool2 17 16 rfl rfl (fun hb17 => ?_) (fun hb17 => ?_)
  ·
   refine wpl_off rfl rfl rfl rfl ?_
   refine wpl_off rfl rfl rfl rfl ?_
   refine wpl_off rfl rfl rfl rfl ?_
   refine wpl_q (q_pure rfl) rfl ?_
   refine wpl_nil ?_
   refine ex_then ?_
   refine wpc_cond_t rfl ?_
   refine wpc_seq ?_
   refine wpc_region ?_
   refine wpl_q (q_pure rfl) rfl ?_
   refine wpl_nil ?_
   refine ex_then ?_
   refine wpc_ret ?_
   refine ex_then_ret ?_
   refine ret1 (.inl rfl) rfl rfl ?_
   exact fun w h => ⟨rfl, h.below⟩
  ·
   have hng : ¬ GreatP ⟨pf, pa, pb, pl, hv, hs⟩ := of_decide_eq_false hb17
   obtain ⟨hsm, hn35⟩ := great_no hng
   refine wpl_on rfl rfl ?_
   refine wpl_q (q_pure rfl) rfl ?_
   refine wpl_on rfl rfl ?_
   refine wpl_q (q_lenW Tryd.underlying50 rfl (by first | assumption | exact SV.nil | exact SV.slv (by assumption) (by omega) (by omega) | exact arv_sv (by first | decide | (simp only [maxLen]; omega)))) rfl ?_
   refine wpl_on rfl rfl ?_
   refine wpl_q (q_pure rfl) rfl ?_
   refine wpl_q (q_pure rfl) rfl ?_
   refine wpl_nil ?_
   refine ex_then ?_
   refine wpc_cond rfl (fun hc21 => ?_) (fun hc21 => ?_)
   ·
    try simp only [decide_eq_true_eq, decide_eq_false_iff_not, Bool.and_eq_true, Bool.or_eq_true, beq_iff_eq, bne_iff_ne, ne_eq, Bool.not_eq_true', Bool.not_eq_false', Decidable.not_not] at hc21
    refine wpc_seq ?_
    refine wpc_region ?_
    refine wpl_q (q_pure rfl) rfl ?_
    refine wpl_nil ?_
    refine ex_then ?_
    refine wpc_ret ?_
    refine ex_then_ret ?_
    refine ret1 (.inl rfl) rfl rfl ?_
    exact fun w h => ⟨rfl, h.below⟩
   ·
    try simp only [decide_eq_true_eq, decide_eq_false_iff_not, Bool.and_eq_true, Bool.or_eq_true, beq_iff_eq, bne_iff_ne, ne_eq, Bool.not_eq_true', Bool.not_eq_false', Decidable.not_not] at hc21
    refine wpc_skip ?_
    refine ex_then ?_
    refine wpc_seq ?_
    refine wpc_region ?_
    refine wpl_q (q_ldN Tryd.underlying29 rfl Tryd.ti29 rfl LenC.h) rfl ?_
    refine wpl_q (q_pure rfl) rfl ?_
    refine wpl_t (t_pur Tryd.hb22 rfl fun w h => wrong ⟨pf, pa, pb, pl, hv, hs⟩ kv ks w (hp.old h) (h.seen_old hkv) hsm (glob h hG)) rfl (fun b25 => ?_)
    refine wpl_q (q_pure rfl) rfl ?_
    refine wpl_q (q_pure rfl) rfl ?_
    refine wpl_q (q_pure rfl) rfl ?_
    refine wpl_q (q_pure rfl) rfl ?_
    refine wpl_q (q_pure rfl) rfl ?_
    refine wpl_nil ?_
    refine ex_then ?_
    refine wpc_seq ?_
    refine wpc_region ?_
    refine wpl_q (q_ldN Tryd.underlying29 rfl Tryd.ti29 rfl LenC.h) rfl ?_
    refine wpl_q (q_pure rfl) rfl ?_
    refine wpl_t (t_pur Tryd.hb23 rfl fun w h => refWrong ⟨pf, pa, pb, pl, hv, hs⟩ kv ks w (hp.old h) (h.seen_old hkv) hsm) rfl (fun b31 => ?_)
    refine wpl_q (q_pure rfl) rfl ?_
    refine wpl_q (q_pure rfl) rfl ?_
    refine wpl_q (q_pure rfl) rfl ?_
    refine wpl_q (q_pure rfl) rfl ?_
    refine wpl_q (q_pure rfl) rfl ?_
    refine wpl_nil ?_
    refine ex_then ?_
    refine wpc_seq ?_
    refine wpc_region ?_
    refine wpl_q (q_ldN Tryd.underlying29 rfl Tryd.ti29 rfl LenC.h) rfl ?_
    refine wpl_q (q_pure rfl) rfl ?_
    refine wpl_q (q_pure rfl) rfl ?_
    refine wpl_t (t_pur Tryd.hb24 rfl fun w h => verify42 ⟨pf, pa, pb, pl, hv, hs⟩ to kv ks w (hp.old h) (h.seen_old hkv) hsm (glob h hG)) rfl (fun b38 => ?_)
    refine wpl_q (q_pure rfl) rfl ?_
    refine wpl_q (q_pure rfl) rfl ?_
    refine wpl_q (q_pure rfl) rfl ?_
    refine wpl_q (q_pure rfl) rfl ?_
    refine wpl_q (q_pure rfl) rfl ?_
    refine wpl_nil ?_
    refine ex_then ?_
    refine wpc_seq ?_
    refine wpc_region ?_
    refine wpl_q (q_ldN Tryd.underlying29 rfl Tryd.ti29 rfl LenC.h) rfl ?_
    refine wpl_q (q_pure rfl) rfl ?_
    refine wpl_q (q_pure rfl) rfl ?_
    refine wpl_t (t_pur Tryd.hb25 rfl fun w h => refVerify42 ⟨pf, pa, pb, pl, hv, hs⟩ to kv ks w (hp.old h) (h.seen_old hkv) hsm) rfl (fun b45 => ?_)
    refine wpl_q (q_pure rfl) rfl ?_
    refine wpl_q (q_pure rfl) rfl ?_
    refine wpl_q (q_pure rfl) rfl ?_
    refine wpl_q (q_pure rfl) rfl ?_
    refine wpl_q (q_pure rfl) rfl ?_
    refine wpl_nil ?_
    refine ex_then ?_
    refine wpc_seq ?_
    refine wpc_region ?_
    refine wpl_q (q_pure rfl) rfl ?_
    refine wpl_q (q_pure rfl) rfl ?_
    refine wpl_q (q_tru (q_eqI rfl rfl) rfl) rfl ?_
    refine wpl_q (q_pure rfl) rfl ?_
    refine wpl_on rfl rfl ?_
    refine wpl_q (q_pure rfl) rfl ?_
    refine wpl_on rfl rfl ?_
    refine wpl_q (q_pure rfl) rfl ?_
    refine wpl_on rfl rfl ?_
    refine wpl_q (q_tru (q_eqI rfl rfl) rfl) rfl ?_
    refine wpl_q (q_pure rfl) rfl ?_
    refine wpl_q (q_pure rfl) rfl ?_
    refine wpl_on rfl rfl ?_
    refine wpl_q (q_pure rfl) rfl ?_
    refine wpl_on rfl rfl ?_
    refine wpl_q (q_pure rfl) rfl ?_
    refine wpl_on rfl rfl ?_
    refine wpl_q (q_tru (q8_eql rfl rfl) rfl) rfl ?_
    refine wpl_q (q_pure rfl) rfl ?_
    refine wpl_q (q_pure rfl) rfl ?_
    refine wpl_on rfl rfl ?_
    refine wpl_q (q_pure rfl) rfl ?_
    refine wpl_on rfl rfl ?_
    refine wpl_q (q_pure rfl) rfl ?_
    refine wpl_on rfl rfl ?_
    refine wpl_q (q_tru (q_eqI rfl rfl) rfl) rfl ?_
    refine wpl_q (q_pure rfl) rfl ?_
    refine wpl_q (q_pure rfl) rfl ?_
    refine wpl_nil ?_
    refine ex_then ?_
    refine wpc_ret ?_
    refine ret1 (.inl rfl) rfl rfl ?_
    exact fun w h => ⟨rfl, h.below⟩

end Go.Proofs.YtjpfhkjmjnjggaaDoor

namespace Go.Proofs.YtjpfhkjmjnjggaaDoor
set_option linter.unusedSimpArgs false
set_option linter.unusedVariables false
open Go Go.PL Go.RowKit

section
variable {H : Type} {enc : TypeId × Value → H} {w : World} {base : Nat} {sp : Nat → Bool} {held : Bool}
theorem opensRK : Opens enc Tryd.prog w base sp held 80 (fun (k : RK) c _ => c = RK.c k) := by
  intro n c y h
  obtain ⟨⟨a, k, _⟩, x0, y0, d0, e0, h0, x1, y1, d1, e1, h1, h2⟩ := opens_struct Tryd.underlying80 (fin := 18) (by kernel_rfl) (OpensFs.cons (s := 1) rfl (by kernel_rfl) (opens_u32 Tryd.underlying49) (OpensFs.cons (s := 17) rfl (by kernel_rfl) opensKey (OpensFs.nil _))) n c y h
  dsimp only at h0 h1 h2
  have e : c = RK.c (a, k) := by rw [e0, e1, h0, h1, h2]; simp [RK.c]
  exact ⟨(a, k), e⟩
theorem opensRKs : Opens enc Tryd.prog w base sp held 50 (fun (p : Value × List RK) c _ => c = [p.1] ∧ Seen w.cell? p.1 p.2.length 18 (rks p.2)) := by
  intro n cs y h
  obtain ⟨⟨v, qs⟩, h1, h2, h3, _⟩ := opens_slice Tryd.underlying50 (sz := 18) (by kernel_rfl) opensRK n cs y h
  refine ⟨(v, qs.map (·.1)), h1, ?_⟩
  have e : (qs.map (·.2.1)).flatten = rks (qs.map (·.1)) := by
    rw [rks, List.map_map]
    congr 1
    exact List.map_congr_left fun q hq => (h3 q hq).1
  dsimp only at h2 ⊢
  rw [List.length_map, ← e]; exact h2
end

end Go.Proofs.YtjpfhkjmjnjggaaDoor

