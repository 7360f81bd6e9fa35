/- The examples, the limits, further values and errors. -/
import Derived.Test.YtommkigkkeailaaOAR
namespace Go.Proofs.Ytommkigkkeailaa
set_option linter.unusedSimpArgs false
set_option linter.unusedVariables false
open Go Go.PL Go.RowKit

theorem encF_4 {t : Tr} (h : checkF t = 4) : (encF t).2 = 4 := by rw [encF_bad (by rw [h]; decide)]; exact h
theorem encLeaf (v : Value) (xs : List UInt8) (w : World) (hv : Seen w.cell? v xs.length 1 (v8s xs)) (hl : xs.length ≤ 900000) : Calls Try.prog 33 [.agg [.int .u8 ((5 : UInt8).toNat : Int), v, nl].toArray].toArray w
    (GivesP w (fun u : Value => SV u (encF (Tr.nd 5 xs [])).1.length) (fun u => .tuple #[u, .int .i64 (encF (Tr.nd 5 xs [])).2]) (fun u => [.row u (encF (Tr.nd 5 xs [])).1.length 5 1 (v8s (encF (Tr.nd 5 xs [])).1)]) (fun _ => [])) :=
  octEncode (HT.nd 5 v xs nl []) w ⟨hv, seen_nil _ 0 _, trivial⟩ (show xs.length + 0 + 5 * (1 + 0) ≤ 1000000 by omega) (show 0 + 1 ≤ 900000 by decide)
theorem oneC_rep (n : Nat) : OneC (hcs (List.replicate n (HT.nd 1 nl [] nl []))) := ⟨hcs_one fun x hx => by rw [(List.mem_replicate.1 hx).2]; exact ⟨SV.nil, SV.nil⟩⟩
theorem big4s {v : Value} : Sm (HT.nd 255 nl [] v (List.replicate 4000 HT.z)).tr := by
  show Sm (Tr.nd 255 [] (trs _))
  rw [trs_rep, Sm, Tr.byt, Tr.cnt, cntL_rep, bytL_rep]; decide
theorem big4d {v : Value} : (HT.nd 255 nl [] v (List.replicate 4000 HT.z)).tr.dep ≤ 900000 := by
  show (Tr.nd 255 [] (trs _)).dep ≤ _
  have := depL_rep 4000 HT.z.tr
  rw [trs_rep, Tr.dep]
  have e : HT.z.tr.dep = 1 := rfl
  omega
theorem big4 {v : Value} : checkF (HT.nd 255 nl [] v (List.replicate 4000 HT.z)).tr = 4 := by
  show checkF (Tr.nd 255 [] (trs _)) = 4
  rw [trs_rep, checkF, if_pos]
  rw [Tr.cnt, cntL_rep]; exact .inl (by decide)
theorem wids {v : Value} : Sm (HT.nd 128 nl [] v (List.replicate 3999 (HT.nd 1 nl [] nl []))).tr := by
  show Sm (Tr.nd 128 [] (trs _))
  rw [trs_rep, Sm, Tr.byt, Tr.cnt, cntL_rep, bytL_rep]; decide
theorem widd {v : Value} : (HT.nd 128 nl [] v (List.replicate 3999 (HT.nd 1 nl [] nl []))).tr.dep ≤ 12 := by
  show (Tr.nd 128 [] (trs _)).dep ≤ _
  have := depL_rep 3999 (HT.nd 1 nl [] nl []).tr
  rw [trs_rep, Tr.dep]
  have e : (HT.nd 1 nl [] nl []).tr.dep = 1 := rfl
  omega
theorem wid0 {v : Value} : checkF (HT.nd 128 nl [] v (List.replicate 3999 (HT.nd 1 nl [] nl []))).tr = 0 := by
  refine checkF_mk ?_ widd ?_ ?_
  · show (Tr.nd 128 [] (trs _)).cnt ≤ _
    rw [trs_rep, Tr.cnt, cntL_rep]; decide
  · show (Tr.nd 128 [] (trs _)).shp = _
    rw [trs_rep, Tr.shp, shpL_rep (by rfl), List.length_replicate]; rfl
  · show (Tr.nd 128 [] (trs _)).siz ≤ _
    rw [trs_rep, Tr.siz, sizL_rep]; decide

set_option maxRecDepth 100000 in
theorem octetNames  (w : World)   :
    Calls Try.prog 10 [].toArray w (Pur w (.bool true)) := by
  refine enter (m := 300) (R := Mem w [] [] []) Try.func10 rfl rfl (Nat.le_of_ble_eq_true rfl) (Mem.start w) ?_
  refine wpc_seq ?_
  refine wpc_region ?_
  refine wpl_q (q_pure rfl) rfl ?_
  refine wpl_nil ?_
  refine ex_then ?_
  refine wpc_seq ?_
  refine wpc_region ?_
  refine wpl_tp (t_mkW (l := 200) (c := 200) Try.underlying22 Try.ti5 rfl rfl (by first | omega | (simp only [maxLen]; omega) | (simp only [List.length_append, List.length_cons, List.length_nil, List.length_take, maxLen]; omega) | (simp only [List.length_append, List.length_cons, List.length_nil, List.length_take]; omega)) (by first | omega | (simp only [maxLen]; omega) | (simp only [List.length_append, List.length_cons, List.length_nil, List.length_take, maxLen]; omega) | (simp only [List.length_append, List.length_cons, List.length_nil, List.length_take]; omega)) (by first | omega | (simp only [maxLen]; omega) | (simp only [List.length_append, List.length_cons, List.length_nil, List.length_take, maxLen]; omega) | (simp only [List.length_append, List.length_cons, List.length_nil, List.length_take]; omega)) _ rfl (mk8 _)) rfl (fun b34 p34 => ?_)
  refine wpl_q (q_build (cs := [.int .u8 ((5 : UInt8).toNat : Int), b34, nl]) rfl (built_o1 5 p34)) rfl ?_
  refine wpl_tp (t_callP1 Try.hb33 rfl fun w h => encLeaf b34 (List.replicate 200 (0 : UInt8)) w (by rw [List.length_replicate]; exact h.seenV (v := b34)) (by rw [List.length_replicate]; decide)) rfl (fun b36 p36 => ?_)
  refine wpl_q (q_pure rfl) rfl ?_
  refine wpl_q (q_pure rfl) rfl ?_
  refine wpl_q (q_pure rfl) rfl ?_
  refine wpl_q (q_pure rfl) rfl ?_
  refine wpl_q (q_pure rfl) rfl ?_
  refine wpl_nil ?_
  refine ex_then ?_
  refine wpc_seq ?_
  refine wpc_region ?_
  refine wpl_tp (t_mkW (l := 65532) (c := 65532) Try.underlying22 Try.ti5 rfl rfl (by first | omega | (simp only [maxLen]; omega) | (simp only [List.length_append, List.length_cons, List.length_nil, List.length_take, maxLen]; omega) | (simp only [List.length_append, List.length_cons, List.length_nil, List.length_take]; omega)) (by first | omega | (simp only [maxLen]; omega) | (simp only [List.length_append, List.length_cons, List.length_nil, List.length_take, maxLen]; omega) | (simp only [List.length_append, List.length_cons, List.length_nil, List.length_take]; omega)) (by first | omega | (simp only [maxLen]; omega) | (simp only [List.length_append, List.length_cons, List.length_nil, List.length_take, maxLen]; omega) | (simp only [List.length_append, List.length_cons, List.length_nil, List.length_take]; omega)) _ rfl (mk8 _)) rfl (fun b40 p40 => ?_)
  refine wpl_q (q_build (cs := [.int .u8 ((5 : UInt8).toNat : Int), b40, nl]) rfl (built_o1 5 p40)) rfl ?_
  refine wpl_tp (t_callP1 Try.hb33 rfl fun w h => encLeaf b40 (List.replicate 65532 (0 : UInt8)) w (by rw [List.length_replicate]; exact h.seenV (v := b40)) (by rw [List.length_replicate]; decide)) rfl (fun b42 p42 => ?_)
  refine wpl_q (q_pure rfl) rfl ?_
  refine wpl_q (q_pure rfl) rfl ?_
  refine wpl_q (q_pure rfl) rfl ?_
  refine wpl_q (q_pure rfl) rfl ?_
  refine wpl_q (q_pure rfl) rfl ?_
  refine wpl_nil ?_
  refine ex_then ?_
  refine wpc_seq ?_
  refine wpc_region ?_
  refine wpl_tp (t_mkW (l := 65533) (c := 65533) Try.underlying22 Try.ti5 rfl rfl (by first | omega | (simp only [maxLen]; omega) | (simp only [List.length_append, List.length_cons, List.length_nil, List.length_take, maxLen]; omega) | (simp only [List.length_append, List.length_cons, List.length_nil, List.length_take]; omega)) (by first | omega | (simp only [maxLen]; omega) | (simp only [List.length_append, List.length_cons, List.length_nil, List.length_take, maxLen]; omega) | (simp only [List.length_append, List.length_cons, List.length_nil, List.length_take]; omega)) (by first | omega | (simp only [maxLen]; omega) | (simp only [List.length_append, List.length_cons, List.length_nil, List.length_take, maxLen]; omega) | (simp only [List.length_append, List.length_cons, List.length_nil, List.length_take]; omega)) _ rfl (mk8 _)) rfl (fun b46 p46 => ?_)
  refine wpl_q (q_build (cs := [.int .u8 ((5 : UInt8).toNat : Int), b46, nl]) rfl (built_o1 5 p46)) rfl ?_
  refine wpl_tp (t_callP1 Try.hb33 rfl fun w h => encLeaf b46 (List.replicate 65533 (0 : UInt8)) w (by rw [List.length_replicate]; exact h.seenV (v := b46)) (by rw [List.length_replicate]; decide)) rfl (fun b48 p48 => ?_)
  have z200 : checkF (Tr.nd 5 (List.replicate 200 (0 : UInt8)) []) = 0 := check_leaf (by decide) (by decide) (List.length_replicate ..) (by decide)
  have z32 : checkF (Tr.nd 5 (List.replicate 65532 (0 : UInt8)) []) = 0 := check_leaf (by decide) (by decide) (List.length_replicate ..) (by decide)
  have z33 : checkF (Tr.nd 5 (List.replicate 65533 (0 : UInt8)) []) = 4 := check_long (by decide) (by decide) (List.length_replicate ..) (by decide)
  have e200 : (encF (Tr.nd 5 (List.replicate 200 (0 : UInt8)) [])).1 = 5 :: (lenB 200 ++ (List.replicate 200 (0 : UInt8))) := by rw [encF_ok z200]; exact enc_leaf _ _ (List.length_replicate ..)
  have e32 : (encF (Tr.nd 5 (List.replicate 65532 (0 : UInt8)) [])).1 = 5 :: (lenB 65532 ++ (List.replicate 65532 (0 : UInt8))) := by rw [encF_ok z32]; exact enc_leaf _ _ (List.length_replicate ..)
  have l200 : (encF (Tr.nd 5 (List.replicate 200 (0 : UInt8)) [])).1.length = 203 := by rw [e200, List.length_cons, List.length_append, List.length_replicate]; rfl
  have l32 : (encF (Tr.nd 5 (List.replicate 65532 (0 : UInt8)) [])).1.length = 65536 := by rw [e32, List.length_cons, List.length_append, List.length_replicate]; rfl
  refine wpl_q (q_pure rfl) rfl ?_
  refine wpl_q (q_pure rfl) rfl ?_
  refine wpl_q (q_pure rfl) rfl ?_
  refine wpl_q (q_pure rfl) rfl ?_
  refine wpl_q (q_pure rfl) rfl ?_
  refine wpl_nil ?_
  refine ex_then ?_
  refine wpc_seq ?_
  refine wpc_region ?_
  refine wpl_q (q_pure rfl) rfl ?_
  refine wpl_q (q_tru (q_eqI rfl rfl) (show (encF (Tr.nd 5 (List.replicate 200 (0 : UInt8)) [])).2 = 0 by rw [encF_ok z200])) rfl ?_
  refine wpl_q (q_pure rfl) rfl ?_
  refine wpl_on rfl rfl ?_
  refine wpl_q (q_pure rfl) rfl ?_
  refine wpl_on rfl rfl ?_
  refine wpl_q (q_lenW Try.underlying22 rfl (by first | assumption | exact SV.nil | exact SV.slv (by assumption) (by omega) (by omega) | exact arv_sv (by first | decide | (simp only [maxLen]; omega)))) rfl ?_
  refine wpl_on rfl rfl ?_
  refine wpl_q (q_tru (q_eqI rfl rfl) (show (((encF (Tr.nd 5 (List.replicate 200 (0 : UInt8)) [])).1.length : Nat) : Int) = 203 by rw [l200]; rfl)) rfl ?_
  refine wpl_q (q_pure rfl) rfl ?_
  refine wpl_q (q_pure rfl) rfl ?_
  refine wpl_on rfl rfl ?_
  refine wpl_q (q_pure rfl) rfl ?_
  refine wpl_on rfl rfl ?_
  refine wpl_q (q_idxW1 (j := 1) Try.underlying22 Try.ti5 rfl rfl (by first | assumption | exact SV.nil | exact SV.slv (by assumption) (by omega) (by omega) | exact arv_sv (by first | decide | (simp only [maxLen]; omega))) (by first | omega | (simp only [maxLen]; omega) | (simp only [List.length_append, List.length_cons, List.length_nil, List.length_take, maxLen]; omega) | (simp only [List.length_append, List.length_cons, List.length_nil, List.length_take]; omega))) rfl ?_
  refine wpl_on rfl rfl ?_
  refine wpl_q (q_ldW Try.underlying5 rfl rfl (fun w h => h.seenV (v := b36)) (v8s_get (show 1 < (encF (Tr.nd 5 (List.replicate 200 (0 : UInt8)) [])).1.length by rw [l200]; decide))) rfl ?_
  refine wpl_on rfl rfl ?_
  refine wpl_q (q_tru (q8_eql (b := (129 : UInt8)) rfl rfl) (by show (encF (Tr.nd 5 (List.replicate 200 (0 : UInt8)) [])).1.getD 1 0 = 129; rw [e200]; rfl)) rfl ?_
  refine wpl_q (q_pure rfl) rfl ?_
  refine wpl_q (q_pure rfl) rfl ?_
  refine wpl_on rfl rfl ?_
  refine wpl_q (q_pure rfl) rfl ?_
  refine wpl_on rfl rfl ?_
  refine wpl_q (q_idxW1 (j := 2) Try.underlying22 Try.ti5 rfl rfl (by first | assumption | exact SV.nil | exact SV.slv (by assumption) (by omega) (by omega) | exact arv_sv (by first | decide | (simp only [maxLen]; omega))) (by first | omega | (simp only [maxLen]; omega) | (simp only [List.length_append, List.length_cons, List.length_nil, List.length_take, maxLen]; omega) | (simp only [List.length_append, List.length_cons, List.length_nil, List.length_take]; omega))) rfl ?_
  refine wpl_on rfl rfl ?_
  refine wpl_q (q_ldW Try.underlying5 rfl rfl (fun w h => h.seenV (v := b36)) (v8s_get (show 2 < (encF (Tr.nd 5 (List.replicate 200 (0 : UInt8)) [])).1.length by rw [l200]; decide))) rfl ?_
  refine wpl_on rfl rfl ?_
  refine wpl_q (q_tru (q8_eql (b := (200 : UInt8)) rfl rfl) (by show (encF (Tr.nd 5 (List.replicate 200 (0 : UInt8)) [])).1.getD 2 0 = 200; rw [e200]; rfl)) rfl ?_
  refine wpl_q (q_pure rfl) rfl ?_
  refine wpl_q (q_pure rfl) rfl ?_
  refine wpl_on rfl rfl ?_
  refine wpl_q (q_pure rfl) rfl ?_
  refine wpl_on rfl rfl ?_
  refine wpl_q (q_tru (q_eqI rfl rfl) (show (encF (Tr.nd 5 (List.replicate 65532 (0 : UInt8)) [])).2 = 0 by rw [encF_ok z32])) rfl ?_
  refine wpl_q (q_pure rfl) rfl ?_
  refine wpl_q (q_pure rfl) rfl ?_
  refine wpl_on rfl rfl ?_
  refine wpl_q (q_pure rfl) rfl ?_
  refine wpl_on rfl rfl ?_
  refine wpl_q (q_lenW Try.underlying22 rfl (by first | assumption | exact SV.nil | exact SV.slv (by assumption) (by omega) (by omega) | exact arv_sv (by first | decide | (simp only [maxLen]; omega)))) rfl ?_
  refine wpl_on rfl rfl ?_
  refine wpl_q (q_tru (q_eqI rfl rfl) (show (((encF (Tr.nd 5 (List.replicate 65532 (0 : UInt8)) [])).1.length : Nat) : Int) = 65536 by rw [l32]; rfl)) rfl ?_
  refine wpl_q (q_pure rfl) rfl ?_
  refine wpl_q (q_pure rfl) rfl ?_
  refine wpl_on rfl rfl ?_
  refine wpl_q (q_pure rfl) rfl ?_
  refine wpl_on rfl rfl ?_
  refine wpl_q (q_idxW1 (j := 1) Try.underlying22 Try.ti5 rfl rfl (by first | assumption | exact SV.nil | exact SV.slv (by assumption) (by omega) (by omega) | exact arv_sv (by first | decide | (simp only [maxLen]; omega))) (by first | omega | (simp only [maxLen]; omega) | (simp only [List.length_append, List.length_cons, List.length_nil, List.length_take, maxLen]; omega) | (simp only [List.length_append, List.length_cons, List.length_nil, List.length_take]; omega))) rfl ?_
  refine wpl_on rfl rfl ?_
  refine wpl_q (q_ldW Try.underlying5 rfl rfl (fun w h => h.seenV (v := b42)) (v8s_get (show 1 < (encF (Tr.nd 5 (List.replicate 65532 (0 : UInt8)) [])).1.length by rw [l32]; decide))) rfl ?_
  refine wpl_on rfl rfl ?_
  refine wpl_q (q_tru (q8_eql (b := (130 : UInt8)) rfl rfl) (by show (encF (Tr.nd 5 (List.replicate 65532 (0 : UInt8)) [])).1.getD 1 0 = 130; rw [e32]; rfl)) rfl ?_
  refine wpl_q (q_pure rfl) rfl ?_
  refine wpl_q (q_pure rfl) rfl ?_
  refine wpl_on rfl rfl ?_
  refine wpl_q (q_pure rfl) rfl ?_
  refine wpl_on rfl rfl ?_
  refine wpl_q (q_tru (q_eqI rfl rfl) (encF_4 z33)) rfl ?_
  refine wpl_q (q_pure rfl) rfl ?_
  refine wpl_q (q_pure rfl) rfl ?_
  refine wpl_nil ?_
  refine ex_then ?_
  refine wpc_cutc ({ x : Nat // True }) [] (fun x Lc => (7, .bool true) :: (8, .bool true) :: Lc) (fun x => Mem w [] [] []) ?_ ?_
  ·
   refine wpc_region ?_
   refine wpl_tp (t_callPT Try.hb39 rfl fun w h => frz (nested 12 w (by decide) (by decide))) rfl (fun b89 p89 => ?_)
   refine wpl_t (t_pur (v := .int .i64 0) Try.hb30 rfl fun w h => by have q := check b89 w (Mem.hseenF h (by simp)) (by rw [p89.1]; unfold Sm; decide) (by rw [p89.1]; decide); rwa [show checkF b89.tr = 0 by rw [p89.1]; kernel_rfl] at q) rfl (fun b90 => ?_)
   refine wpl_q (q_tru (q_eqI rfl rfl) rfl) rfl ?_
   refine wpl_q (q_pure rfl) rfl ?_
   refine wpl_on rfl rfl ?_
   refine wpl_tp (t_callPT Try.hb39 rfl fun w h => frz (nested 13 w (by decide) (by decide))) rfl (fun b93 p93 => ?_)
   refine wpl_on rfl rfl ?_
   refine wpl_t (t_pur (v := .int .i64 4) Try.hb30 rfl fun w h => by have q := check b93 w (Mem.hseenF h (by simp)) (by rw [p93.1]; unfold Sm; decide) (by rw [p93.1]; decide); rwa [show checkF b93.tr = 4 by rw [p93.1]; kernel_rfl] at q) rfl (fun b94 => ?_)
   refine wpl_on rfl rfl ?_
   refine wpl_q (q_tru (q_eqI rfl rfl) rfl) rfl ?_
   refine wpl_q (q_pure rfl) rfl ?_
   refine wpl_q (q_pure rfl) rfl ?_
   refine wpl_on rfl rfl ?_
   refine wpl_q (q_build (cs := HT.z.c) rfl built_oz) rfl ?_
   refine wpl_on rfl rfl ?_
   refine wpl_t (t_pur (v := .int .i64 8) Try.hb30 rfl fun w h => by have q := check (HT.z) w (hseen_z _) (by unfold Sm; decide) (by decide); rwa [show checkF (HT.z).tr = 8 from (by kernel_rfl)] at q) rfl (fun b99 => ?_)
   refine wpl_on rfl rfl ?_
   refine wpl_q (q_tru (q_eqI rfl rfl) rfl) rfl ?_
   refine wpl_q (q_pure rfl) rfl ?_
   refine wpl_q (q_pure rfl) rfl ?_
   refine wpl_on rfl rfl ?_
   refine wpl_tp (t_mkW (l := 1) (c := 1) Try.underlying23 Try.ti25 rfl rfl (by first | omega | (simp only [maxLen]; omega) | (simp only [List.length_append, List.length_cons, List.length_nil, List.length_take, maxLen]; omega) | (simp only [List.length_append, List.length_cons, List.length_nil, List.length_take]; omega)) (by first | omega | (simp only [maxLen]; omega) | (simp only [List.length_append, List.length_cons, List.length_nil, List.length_take, maxLen]; omega) | (simp only [List.length_append, List.length_cons, List.length_nil, List.length_take]; omega)) (by first | omega | (simp only [maxLen]; omega) | (simp only [List.length_append, List.length_cons, List.length_nil, List.length_take, maxLen]; omega) | (simp only [List.length_append, List.length_cons, List.length_nil, List.length_take]; omega)) (hcs [HT.z]) rfl rfl) rfl (fun b103 p103 => ?_)
   refine wpl_on rfl rfl ?_
   refine wpl_q (q_build (cs := [.int .u8 ((1 : UInt8).toNat : Int), nl, b103]) rfl (built_o2 1 p103)) rfl ?_
   refine wpl_on rfl rfl ?_
   refine wpl_t (t_pur (v := .int .i64 8) Try.hb30 rfl fun w h => by have q := check (HT.nd 1 nl [] b103 [HT.z]) w ⟨seen_nil _ 0 _, h.seenV, hseen_z _, trivial⟩ (show Sm (Tr.nd 1 [] [Tr.z]) by unfold Sm; decide) (show (Tr.nd 1 [] [Tr.z]).dep ≤ 900000 by decide); rwa [show checkF (HT.nd 1 nl [] b103 [HT.z]).tr = 8 from (by kernel_rfl)] at q) rfl (fun b105 => ?_)
   refine wpl_on rfl rfl ?_
   refine wpl_q (q_tru (q_eqI rfl rfl) rfl) rfl ?_
   refine wpl_q (q_pure rfl) rfl ?_
   refine wpl_q (q_pure rfl) rfl ?_
   refine wpl_on rfl rfl ?_
   refine wpl_tp (t_bsV (v8s [(1 : UInt8)]) Try.underlying22 Try.ti5 rfl rfl (by decide) (by decide) rfl (v8s_one _)) rfl (fun b109 p109 => ?_)
   refine wpl_on rfl rfl ?_
   refine wpl_q (q_build (cs := [.int .u8 ((128 : UInt8).toNat : Int), b109, nl]) rfl (built_o1 128 p109)) rfl ?_
   refine wpl_on rfl rfl ?_
   refine wpl_t (t_pur (v := .int .i64 8) Try.hb30 rfl fun w h => by have q := check (HT.nd 128 b109 [1] nl []) w ⟨h.seenV, seen_nil _ 0 _, trivial⟩ (show Sm (Tr.nd 128 [1] []) by unfold Sm; decide) (show (Tr.nd 128 [1] []).dep ≤ 900000 by decide); rwa [show checkF (HT.nd 128 b109 [1] nl []).tr = 8 from (by kernel_rfl)] at q) rfl (fun b111 => ?_)
   refine wpl_on rfl rfl ?_
   refine wpl_q (q_tru (q_eqI rfl rfl) rfl) rfl ?_
   refine wpl_q (q_pure rfl) rfl ?_
   refine wpl_q (q_pure rfl) rfl ?_
   refine wpl_on rfl rfl ?_
   refine wpl_q (q_build (cs := [.int .u8 ((127 : UInt8).toNat : Int), nl, nl]) rfl (built_o0 127)) rfl ?_
   refine wpl_on rfl rfl ?_
   refine wpl_t (t_pur (v := .int .i64 0) Try.hb30 rfl fun w h => by have q := check (HT.nd 127 nl [] nl []) w (hseen_0 _ _) (show Sm (Tr.nd 127 [] []) by unfold Sm; decide) (show (Tr.nd 127 [] []).dep ≤ 900000 by decide); rwa [show checkF (HT.nd 127 nl [] nl []).tr = 0 from (by kernel_rfl)] at q) rfl (fun b116 => ?_)
   refine wpl_on rfl rfl ?_
   refine wpl_q (q_tru (q_eqI rfl rfl) rfl) rfl ?_
   refine wpl_q (q_pure rfl) rfl ?_
   refine wpl_q (q_pure rfl) rfl ?_
   refine wpl_on rfl rfl ?_
   refine wpl_q (q_build (cs := [.int .u8 ((255 : UInt8).toNat : Int), nl, nl]) rfl (built_o0 255)) rfl ?_
   refine wpl_on rfl rfl ?_
   refine wpl_t (t_pur (v := .int .i64 0) Try.hb30 rfl fun w h => by have q := check (HT.nd 255 nl [] nl []) w (hseen_0 _ _) (show Sm (Tr.nd 255 [] []) by unfold Sm; decide) (show (Tr.nd 255 [] []).dep ≤ 900000 by decide); rwa [show checkF (HT.nd 255 nl [] nl []).tr = 0 from (by kernel_rfl)] at q) rfl (fun b121 => ?_)
   refine wpl_on rfl rfl ?_
   refine wpl_q (q_tru (q_eqI rfl rfl) rfl) rfl ?_
   refine wpl_q (q_pure rfl) rfl ?_
   refine wpl_q (q_pure rfl) rfl ?_
   refine wpl_on rfl rfl ?_
   refine wpl_tp (t_mkW (l := 4000) (c := 4000) Try.underlying23 Try.ti25 rfl rfl (by first | omega | (simp only [maxLen]; omega) | (simp only [List.length_append, List.length_cons, List.length_nil, List.length_take, maxLen]; omega) | (simp only [List.length_append, List.length_cons, List.length_nil, List.length_take]; omega)) (by first | omega | (simp only [maxLen]; omega) | (simp only [List.length_append, List.length_cons, List.length_nil, List.length_take, maxLen]; omega) | (simp only [List.length_append, List.length_cons, List.length_nil, List.length_take]; omega)) (by first | omega | (simp only [maxLen]; omega) | (simp only [List.length_append, List.length_cons, List.length_nil, List.length_take, maxLen]; omega) | (simp only [List.length_append, List.length_cons, List.length_nil, List.length_take]; omega)) (hcs (List.replicate 4000 HT.z)) rfl (hcs_rep 4000 HT.z)) rfl (fun b125 p125 => ?_)
   refine wpl_on rfl rfl ?_
   refine wpl_q (q_build (cs := [.int .u8 ((255 : UInt8).toNat : Int), nl, b125]) rfl (built_o2 255 p125)) rfl ?_
   refine wpl_on rfl rfl ?_
   refine wpl_t (t_pur (v := .int .i64 4) Try.hb30 rfl fun w h => by have q := check (HT.nd 255 nl [] b125 (List.replicate 4000 HT.z)) w ⟨seen_nil _ 0 _, (show Seen w.cell? b125 (List.replicate 4000 HT.z).length 3 (hcs (List.replicate 4000 HT.z)) from by rw [List.length_replicate]; exact h.seenV (v := b125)), hseen_rep (hseen_z _) _⟩ big4s big4d; rwa [show checkF (HT.nd 255 nl [] b125 (List.replicate 4000 HT.z)).tr = 4 from big4] at q) rfl (fun b127 => ?_)
   refine wpl_on rfl rfl ?_
   refine wpl_q (q_tru (q_eqI rfl rfl) rfl) rfl ?_
   refine wpl_q (q_pure rfl) rfl ?_
   refine wpl_q (q_pure rfl) rfl ?_
   refine wpl_nil ?_
   refine ex_mid ⟨0, trivial⟩ ?_ ?_
   ·
    exact (by repeat (first | exact trivial | refine ⟨rfl, ?_⟩))
   ·
    exact fun w h => h.sub .nil .nil
  ·
   rintro ⟨q, _⟩; try dsimp only
   refine wpc_seq ?_
   refine wpc_region ?_
   refine wpl_q (q_build (cs := [.int .u8 ((128 : UInt8).toNat : Int), nl, nl]) rfl (built_o0 128)) rfl ?_
   refine wpl_t (t_alloc Try.ti25 HT.z.c rfl) rfl (fun b9 => ?_)
   refine wpl_t0 (t_stA Try.ti25 rfl rfl LenC.h OneC.h LenC.h) (fun _ => ?_)
   refine wpl_nil ?_
   refine ex_then ?_
   refine wpc_seq ?_
   refine wpc_seq ?_
   refine wpc_region ?_
   refine wpl_q (q_pure rfl) rfl ?_
   refine wpl_nil ?_
   refine ex_then ?_
   refine wpc_block ?_
   refine wpc_loopc (ι := { x : Nat × Value // (x.1 ≤ 3999) ∧ (SV x.2 x.1) }) [(7, _), (8, _), (9, _)] (fun x Lc => (10, .int .i64 ((x.1.1 : Nat) : Int)) :: Lc) (fun x => Mem w [] [.blk b9 25 [.int .u8 ((128 : UInt8).toNat : Int), nl, x.1.2], .row x.1.2 x.1.1 25 3 (hcs (List.replicate x.1.1 (HT.nd 1 nl [] nl [])))] []) (fun x => 3999 - x.1.1) ⟨(0, nl), ⟨Nat.zero_le _, SV.nil⟩⟩ (by repeat (first | exact trivial | refine ⟨rfl, ?_⟩)) ?_ ?_
   ·
    exact fun w1 h => by
      have q : Mem w [] [.blk b9 25 [.int .u8 ((128 : UInt8).toNat : Int), nl, nl], .row nl 0 25 3 []] [] w1 := (h.nilRow 25 3).sel
      exact q
   ·
    rintro ⟨⟨j, nv⟩, ⟨hi0, hi1⟩⟩; try dsimp only
    have hi0 : j ≤ 3999 := hi0; have hi1 : SV nv j := hi1
    haveI := oneH (t := 128) SV.nil hi1
    haveI := oneC_rep j
    refine wpc_seq ?_
    refine wpc_seq ?_
    refine wpc_region ?_
    refine wpl_q (q_pure rfl) rfl ?_
    refine wpl_q (q_pure rfl) rfl ?_
    refine wpl_nil ?_
    refine ex_then ?_
    refine wpc_cond rfl (fun hc132 => ?_) (fun hc132 => ?_)
    ·
     simp only [decide_eq_true_eq] at hc132
     refine wpc_skip ?_
     refine ex_then ?_
     refine wpc_seq ?_
     refine wpc_block ?_
     refine wpc_region ?_
     refine wpl_q (q_field Try.underlying25 rfl Try.ti23 rfl rfl _ rfl) rfl ?_
     refine wpl_q (q_ld Try.underlying23 rfl rfl rfl) rfl ?_
     refine wpl_q (q_build (cs := [.int .u8 ((1 : UInt8).toNat : Int), nl, nl]) rfl (built_o0 1)) rfl ?_
     refine wpl_tp (t_bsG [.agg (HT.nd 1 nl [] nl []).c.toArray] (HT.nd 1 nl [] nl []).c Try.underlying23 Try.ti25 rfl (by decide) rfl (by decide) (by decide) rfl (by intro v hv; rw [List.mem_singleton] at hv; subst hv; rfl) (List.append_nil _)) rfl (fun b138 p138 => ?_)
     haveI := oneH (t := 1) SV.nil SV.nil
     refine wpl_tp (t_apW Try.underlying23 Try.ti25 rfl (by decide) rfl rfl (fun w h => by first | exact h.seenV | exact h.seenA (by first | decide | (simp only [maxLen]; omega)) (by first | with_reducible rfl | (simp only [v8s_length, v32s_length, vis_length, vns_length, v64s_length, List.length_replicate]; first | done | with_reducible assumption | omega) | (rw [v8s_length]; (first | with_reducible assumption | with_reducible exact shortF_length _ | with_reducible exact stepF_length _ _ _ | with_reducible exact sumF_length _ | with_reducible exact climbF_length _ (by first | with_reducible assumption | with_reducible exact shortF_length _ | with_reducible exact beginF_length _ _ | with_reducible exact getD_mem_len (by assumption) (by omega)) _ _ _ | with_reducible exact beginF_length _ _ | with_reducible exact chainF_length _ _ _ | with_reducible exact recF_length _ _ | with_reducible exact publicF_length _ | with_reducible exact getD_mem_len (by assumption) (by omega) | (with_reducible exact List.length_replicate))) | rfl) | exact h.seen_old (by assumption) | exact h.seen_oldL (by assumption) (by assumption) | exact h.seen_fact (by repeat (first | exact List.mem_cons_self .. | apply List.mem_cons_of_mem))) (oneH (t := 1) SV.nil SV.nil).h (by first | omega | (simp only [maxLen]; omega) | (simp only [List.length_append, List.length_cons, List.length_nil, List.length_take, maxLen]; omega) | (simp only [List.length_append, List.length_cons, List.length_nil, List.length_take]; omega)) (by first | omega | (simp only [maxLen]; omega) | (simp only [List.length_append, List.length_cons, List.length_nil, List.length_take, maxLen]; omega) | (simp only [List.length_append, List.length_cons, List.length_nil, List.length_take]; omega)) (hcs (List.replicate (j + 1) (HT.nd 1 nl [] nl []))) (hcs_snocR j (HT.nd 1 nl [] nl []))) rfl (fun b139 p139 => ?_)
     haveI := oneH (t := 128) SV.nil p139
     refine wpl_q (q_field Try.underlying25 rfl Try.ti23 rfl rfl _ rfl) rfl ?_
     refine wpl_t0 (t_st1 Try.ti23 rfl rfl (SV.one (by first | assumption | exact SV.nil | exact SV.slv (by assumption) (by omega) (by omega) | exact arv_sv (by first | decide | (simp only [maxLen]; omega)))) (by first | decide | omega | exact Nat.zero_lt_one | (simp; omega) | (simp; done) | (simp only [v8s_length, v32s_length, vis_length, vns_length, v64s_length]; omega)) [.int .u8 ((128 : UInt8).toNat : Int), nl, b139] rfl) (fun _ => ?_)
     refine wpl_nil ?_
     refine ex_block ?_
     refine ex_then ?_
     refine wpc_region ?_
     refine wpl_q (q_pure rfl) rfl ?_
     refine wpl_q (q_addN (b := 1) rfl rfl (by first | omega | (simp only [maxLen]; omega) | (simp only [List.length_append, List.length_cons, List.length_nil, List.length_take, maxLen]; omega) | (simp only [List.length_append, List.length_cons, List.length_nil, List.length_take]; omega))) rfl ?_
     refine wpl_q (q_pure rfl) rfl ?_
     refine wpl_nil ?_
     refine ex_again ⟨(j + 1, b139), ⟨by dsimp only; omega, p139⟩⟩ ?_ ?_ ?_
     ·
      exact (by repeat (first | exact trivial | refine ⟨rfl, ?_⟩))
     ·
      exact fun w1 h => by
        have q : Mem w [] [.blk b9 25 [.int .u8 ((128 : UInt8).toNat : Int), nl, b139], .row b139 (j + 1) 25 3 (hcs (List.replicate (j + 1) (HT.nd 1 nl [] nl [])))] [] w1 := h.sel
        exact q
     ·
      (show 3999 - (j + 1) < 3999 - j); omega
    ·
     simp only [decide_eq_false_iff_not] at hc132
     obtain rfl : j = 3999 := by omega
     refine wpc_exit ?_
     refine ex_then_exit ?_
     refine ex_then_exit ?_
     refine ex_block_hit ?_
     refine ex_then ?_
     refine wpc_seq ?_
     refine wpc_region ?_
     refine wpl_q (q_pure rfl) rfl ?_
     refine wpl_q (q_pure rfl) rfl ?_
     refine wpl_on rfl rfl ?_
     refine wpl_q (q_ldN Try.underlying25 rfl Try.ti25 rfl LenC.h) rfl ?_
     refine wpl_on rfl rfl ?_
     refine wpl_t (t_pur (v := .int .i64 0) Try.hb30 rfl fun w h => by have q := check ((HT.nd 128 nl [] nv (List.replicate 3999 (HT.nd 1 nl [] nl [])))) w ⟨seen_nil _ 0 _, (show Seen w.cell? nv (List.replicate 3999 (HT.nd 1 nl [] nl [])).length 3 _ from by rw [List.length_replicate]; exact h.seenV (v := nv)), hseen_rep (hseen_0 _ _) _⟩ wids (Nat.le_trans widd (by decide)); rwa [show checkF ((HT.nd 128 nl [] nv (List.replicate 3999 (HT.nd 1 nl [] nl [])))).tr = 0 from wid0] at q) rfl (fun b144 => ?_)
     refine wpl_on rfl rfl ?_
     refine wpl_q (q_tru (q_eqI rfl rfl) rfl) rfl ?_
     refine wpl_q (q_pure rfl) rfl ?_
     refine wpl_q (q_pure rfl) rfl ?_
     refine wpl_nil ?_
     refine ex_then ?_
     refine wpc_cutc ({ x : Nat // True }) [] (fun x Lc => (7, .bool true) :: (8, .bool true) :: (11, .bool true) :: Lc) (fun x => Mem w [] [] []) ?_ ?_
     ·
      refine wpc_region ?_
      refine wpl_t (t_pur (v := .bool true) Try.hb40 rfl fun w h => refused nl [] w (seen_nil _ 0 _) (by kernel_rfl)) rfl (fun b147 => ?_)
      refine wpl_q (q_pure rfl) rfl ?_
      refine wpl_on rfl rfl ?_
      refine wpl_tp (t_bsV (v8s [(2 : UInt8)]) Try.underlying22 Try.ti5 rfl rfl (by decide) (by decide) rfl (v8s_one _)) rfl (fun b149 p149 => ?_)
      refine wpl_on rfl rfl ?_
      refine wpl_t (t_pur (v := .bool true) Try.hb40 rfl fun w h => refused b149 [2] w h.seenV (by kernel_rfl)) rfl (fun b150 => ?_)
      refine wpl_q (q_pure rfl) rfl ?_
      refine wpl_q (q_pure rfl) rfl ?_
      refine wpl_on rfl rfl ?_
      refine wpl_tp (t_bsV (v8s [(0 : UInt8), (0 : UInt8)]) Try.underlying22 Try.ti5 rfl rfl (by decide) (by decide) rfl (v8s_one _)) rfl (fun b153 p153 => ?_)
      refine wpl_on rfl rfl ?_
      refine wpl_t (t_pur (v := .bool true) Try.hb40 rfl fun w h => refused b153 [0, 0] w h.seenV (by kernel_rfl)) rfl (fun b154 => ?_)
      refine wpl_q (q_pure rfl) rfl ?_
      refine wpl_q (q_pure rfl) rfl ?_
      refine wpl_on rfl rfl ?_
      refine wpl_tp (t_bsV (v8s [(2 : UInt8), (0 : UInt8), (0 : UInt8)]) Try.underlying22 Try.ti5 rfl rfl (by decide) (by decide) rfl (v8s_one _)) rfl (fun b157 p157 => ?_)
      refine wpl_on rfl rfl ?_
      refine wpl_t (t_pur (v := .bool true) Try.hb40 rfl fun w h => refused b157 [2, 0, 0] w h.seenV (by kernel_rfl)) rfl (fun b158 => ?_)
      refine wpl_q (q_pure rfl) rfl ?_
      refine wpl_q (q_pure rfl) rfl ?_
      refine wpl_on rfl rfl ?_
      refine wpl_tp (t_bsV (v8s [(2 : UInt8), (128 : UInt8)]) Try.underlying22 Try.ti5 rfl rfl (by decide) (by decide) rfl (v8s_one _)) rfl (fun b161 p161 => ?_)
      refine wpl_on rfl rfl ?_
      refine wpl_t (t_pur (v := .bool true) Try.hb40 rfl fun w h => refused b161 [2, 128] w h.seenV (by kernel_rfl)) rfl (fun b162 => ?_)
      refine wpl_q (q_pure rfl) rfl ?_
      refine wpl_q (q_pure rfl) rfl ?_
      refine wpl_on rfl rfl ?_
      refine wpl_tp (t_bsV (v8s [(2 : UInt8), (132 : UInt8), (0 : UInt8), (0 : UInt8), (0 : UInt8), (0 : UInt8)]) Try.underlying22 Try.ti5 rfl rfl (by decide) (by decide) rfl (v8s_one _)) rfl (fun b165 p165 => ?_)
      refine wpl_on rfl rfl ?_
      refine wpl_t (t_pur (v := .bool true) Try.hb40 rfl fun w h => refused b165 [2, 132, 0, 0, 0, 0] w h.seenV (by kernel_rfl)) rfl (fun b166 => ?_)
      refine wpl_q (q_pure rfl) rfl ?_
      refine wpl_q (q_pure rfl) rfl ?_
      refine wpl_on rfl rfl ?_
      refine wpl_tp (t_bsV (v8s [(130 : UInt8), (1 : UInt8), (2 : UInt8)]) Try.underlying22 Try.ti5 rfl rfl (by decide) (by decide) rfl (v8s_one _)) rfl (fun b169 p169 => ?_)
      refine wpl_on rfl rfl ?_
      refine wpl_t (t_pur (v := .bool true) Try.hb40 rfl fun w h => refused b169 [130, 1, 2] w h.seenV (by kernel_rfl)) rfl (fun b170 => ?_)
      refine wpl_q (q_pure rfl) rfl ?_
      refine wpl_q (q_pure rfl) rfl ?_
      refine wpl_on rfl rfl ?_
      refine wpl_tp (t_bsV (v8s [(130 : UInt8), (2 : UInt8), (2 : UInt8), (1 : UInt8)]) Try.underlying22 Try.ti5 rfl rfl (by decide) (by decide) rfl (v8s_one _)) rfl (fun b173 p173 => ?_)
      refine wpl_on rfl rfl ?_
      refine wpl_t (t_pur (v := .bool true) Try.hb40 rfl fun w h => refused b173 [130, 2, 2, 1] w h.seenV (by kernel_rfl)) rfl (fun b174 => ?_)
      refine wpl_q (q_pure rfl) rfl ?_
      refine wpl_q (q_pure rfl) rfl ?_
      refine wpl_on rfl rfl ?_
      refine wpl_tp (t_bsV (v8s [(2 : UInt8), (130 : UInt8), (0 : UInt8), (200 : UInt8)]) Try.underlying22 Try.ti5 rfl rfl (by decide) (by decide) rfl (v8s_one _)) rfl (fun b177 p177 => ?_)
      refine wpl_on rfl rfl ?_
      refine wpl_t (t_pur (v := .bool true) Try.hb40 rfl fun w h => refused b177 [2, 130, 0, 200] w h.seenV (by kernel_rfl)) rfl (fun b178 => ?_)
      refine wpl_q (q_pure rfl) rfl ?_
      refine wpl_q (q_pure rfl) rfl ?_
      refine wpl_nil ?_
      refine ex_mid ⟨0, trivial⟩ ?_ ?_
      ·
       exact (by repeat (first | exact trivial | refine ⟨rfl, ?_⟩))
      ·
       exact fun w h => h.sub .nil .nil
     ·
      rintro ⟨q, _⟩; try dsimp only
      refine wpc_seq ?_
      refine wpc_region ?_
      refine wpl_tp (t_callPT Try.hb22 rfl fun w h => frz (octNum 7 18446744073709551615 w)) rfl (fun b181 p181 => ?_)
      refine wpl_t (t_pur (v := .tuple #[.int .u64 ((18446744073709551615 : UInt64).toNat : Int), .int .i64 ((0 : Nat) : Int)]) Try.hb14 rfl fun w h => by have q := octReadNum (b181) 7 18446744073709551615 w (Mem.hseenF h (by simp)); rw [show rdNum (b181).tr 7 18446744073709551615 = (18446744073709551615, 0) from (by rw [p181.1, rdNum_num]; exact if_neg (by decide))] at q; exact q) rfl (fun b182 => ?_)
      refine wpl_q (q_pure rfl) rfl ?_
      refine wpl_q (q_pure rfl) rfl ?_
      refine wpl_q (q_pure rfl) rfl ?_
      refine wpl_q (q_pure rfl) rfl ?_
      refine wpl_q (q_pure rfl) rfl ?_
      refine wpl_nil ?_
      refine ex_then ?_
      refine wpc_seq ?_
      refine wpc_region ?_
      refine wpl_tp (t_bsV (v8s [(0 : UInt8), (5 : UInt8)]) Try.underlying22 Try.ti5 rfl rfl (by decide) (by decide) rfl (v8s_one _)) rfl (fun b186 p186 => ?_)
      refine wpl_q (q_build (cs := [.int .u8 ((7 : UInt8).toNat : Int), b186, nl]) rfl (built_o1 7 p186)) rfl ?_
      refine wpl_t (t_pur (v := .tuple #[.int .u64 ((0 : UInt64).toNat : Int), .int .i64 ((12 : Nat) : Int)]) Try.hb14 rfl fun w h => by have q := octReadNum (HT.nd 7 b186 [0, 5] nl []) 7 9 w ⟨h.seenV, seen_nil _ 0 _, trivial⟩; rw [show rdNum (HT.nd 7 b186 [0, 5] nl []).tr 7 9 = (0, 12) from (show rdNum (Tr.nd 7 [0, 5] []) 7 9 = (0, 12) by decide)] at q; exact q) rfl (fun b188 => ?_)
      refine wpl_q (q_pure rfl) rfl ?_
      refine wpl_q (q_pure rfl) rfl ?_
      refine wpl_q (q_pure rfl) rfl ?_
      refine wpl_q (q_pure rfl) rfl ?_
      refine wpl_q (q_pure rfl) rfl ?_
      refine wpl_nil ?_
      refine ex_then ?_
      refine wpc_seq ?_
      refine wpc_region ?_
      refine wpl_tp (t_callPT Try.hb22 rfl fun w h => frz (octNum 7 10 w)) rfl (fun b192 p192 => ?_)
      refine wpl_t (t_pur (v := .tuple #[.int .u64 ((0 : UInt64).toNat : Int), .int .i64 ((12 : Nat) : Int)]) Try.hb14 rfl fun w h => by have q := octReadNum (b192) 7 9 w (Mem.hseenF h (by simp)); rw [show rdNum (b192).tr 7 9 = (0, 12) from (by rw [p192.1, rdNum_num]; exact if_pos (.inr (by decide)))] at q; exact q) rfl (fun b193 => ?_)
      refine wpl_q (q_pure rfl) rfl ?_
      refine wpl_q (q_pure rfl) rfl ?_
      refine wpl_q (q_pure rfl) rfl ?_
      refine wpl_q (q_pure rfl) rfl ?_
      refine wpl_q (q_pure rfl) rfl ?_
      refine wpl_nil ?_
      refine ex_then ?_
      refine wpc_seq ?_
      refine wpc_region ?_
      refine wpl_tp (t_callPT Try.hb22 rfl fun w h => frz (octNum 7 9 w)) rfl (fun b197 p197 => ?_)
      refine wpl_t (t_pur (v := .tuple #[.int .u64 ((0 : UInt64).toNat : Int), .int .i64 ((12 : Nat) : Int)]) Try.hb14 rfl fun w h => by have q := octReadNum (b197) 8 9 w (Mem.hseenF h (by simp)); rw [show rdNum (b197).tr 8 9 = (0, 12) from (by rw [p197.1, rdNum_num]; exact if_pos (.inl (by decide)))] at q; exact q) rfl (fun b198 => ?_)
      refine wpl_q (q_pure rfl) rfl ?_
      refine wpl_q (q_pure rfl) rfl ?_
      refine wpl_q (q_pure rfl) rfl ?_
      refine wpl_q (q_pure rfl) rfl ?_
      refine wpl_q (q_pure rfl) rfl ?_
      refine wpl_nil ?_
      refine ex_then ?_
      refine wpc_seq ?_
      refine wpc_region ?_
      refine wpl_tp (t_mkW (l := 9) (c := 9) Try.underlying22 Try.ti5 rfl rfl (by first | omega | (simp only [maxLen]; omega) | (simp only [List.length_append, List.length_cons, List.length_nil, List.length_take, maxLen]; omega) | (simp only [List.length_append, List.length_cons, List.length_nil, List.length_take]; omega)) (by first | omega | (simp only [maxLen]; omega) | (simp only [List.length_append, List.length_cons, List.length_nil, List.length_take, maxLen]; omega) | (simp only [List.length_append, List.length_cons, List.length_nil, List.length_take]; omega)) (by first | omega | (simp only [maxLen]; omega) | (simp only [List.length_append, List.length_cons, List.length_nil, List.length_take, maxLen]; omega) | (simp only [List.length_append, List.length_cons, List.length_nil, List.length_take]; omega)) _ rfl (mk8 _)) rfl (fun b202 p202 => ?_)
      refine wpl_q (q_build (cs := [.int .u8 ((7 : UInt8).toNat : Int), b202, nl]) rfl (built_o1 7 p202)) rfl ?_
      refine wpl_t (t_pur (v := .tuple #[.int .u64 ((0 : UInt64).toNat : Int), .int .i64 ((12 : Nat) : Int)]) Try.hb14 rfl fun w h => by have q := octReadNum (HT.nd 7 b202 (List.replicate 9 (0 : UInt8)) nl []) 7 9 w ⟨(show Seen w.cell? b202 (List.replicate 9 (0 : UInt8)).length 1 (v8s (List.replicate 9 (0 : UInt8))) from by rw [List.length_replicate]; exact h.seenV (v := b202)), seen_nil _ 0 _, trivial⟩; rw [show rdNum (HT.nd 7 b202 (List.replicate 9 (0 : UInt8)) nl []).tr 7 9 = (0, 12) from (show rdNum (Tr.nd 7 (List.replicate 9 (0 : UInt8)) []) 7 9 = (0, 12) by decide)] at q; exact q) rfl (fun b204 => ?_)
      refine wpl_q (q_pure rfl) rfl ?_
      refine wpl_q (q_pure rfl) rfl ?_
      refine wpl_q (q_pure rfl) rfl ?_
      refine wpl_q (q_pure rfl) rfl ?_
      refine wpl_q (q_pure rfl) rfl ?_
      refine wpl_nil ?_
      refine ex_then ?_
      refine wpc_seq ?_
      refine wpc_region ?_
      refine wpl_tp (t_callPT Try.hb24 rfl fun w h => octStr 3 [97, 98, 99] w (by decide)) rfl (fun b208 p208 => ?_)
      refine wpl_t (t_pur (v := .tuple #[str [97, 98, 99], .int .i64 ((0 : Nat) : Int)]) Try.hb16 rfl fun w h => by have q := octReadStr b208 3 ((3 : Nat) : Int) w (Mem.hseenF h (by simp)); rw [show rdStr b208.tr 3 ((3 : Nat) : Int) = ([97, 98, 99], 0) by rw [p208.1]; rw [rdStr_str]; exact if_neg (by decide)] at q; exact q) rfl (fun b209 => ?_)
      refine wpl_q (q_pure rfl) rfl ?_
      refine wpl_q (q_pure rfl) rfl ?_
      refine wpl_q (q_pure rfl) rfl ?_
      refine wpl_q (q_pure rfl) rfl ?_
      refine wpl_q (q_pure rfl) rfl ?_
      refine wpl_nil ?_
      refine ex_then ?_
      refine wpc_seq ?_
      refine wpc_region ?_
      refine wpl_tp (t_callPT Try.hb24 rfl fun w h => octStr 3 [97, 98, 99] w (by decide)) rfl (fun b213 p213 => ?_)
      refine wpl_t (t_pur (v := .tuple #[str [], .int .i64 ((12 : Nat) : Int)]) Try.hb16 rfl fun w h => by have q := octReadStr b213 3 ((2 : Nat) : Int) w (Mem.hseenF h (by simp)); rw [show rdStr b213.tr 3 ((2 : Nat) : Int) = ([], 12) by rw [p213.1]; rw [rdStr_str]; exact if_pos (.inr (by decide))] at q; exact q) rfl (fun b214 => ?_)
      refine wpl_q (q_pure rfl) rfl ?_
      refine wpl_q (q_pure rfl) rfl ?_
      refine wpl_q (q_pure rfl) rfl ?_
      refine wpl_q (q_pure rfl) rfl ?_
      refine wpl_q (q_pure rfl) rfl ?_
      refine wpl_nil ?_
      refine ex_then ?_
      refine wpc_seq ?_
      refine wpc_region ?_
      refine wpl_tp (t_callPT Try.hb22 rfl fun w h => frz (octNum 1 1 w)) rfl (fun b218 p218 => ?_)
      haveI := p218.2.one
      have hsm8 : Sm (Tr.nd 129 [] [b218.tr]) := by rw [p218.1]; unfold Sm; decide
      refine wpl_tp (t_bsG [.agg b218.c.toArray] (hcs [b218]) Try.underlying23 Try.ti25 rfl (by decide) rfl (by decide) (by decide) rfl (by intro v hv; rw [List.mem_singleton] at hv; subst hv; exact HT.c_length _) rfl) rfl (fun b219 p219 => ?_)
      refine wpl_tp (t_callPT Try.hb20 rfl fun w h => frz (octSeq 129 b219 [b218] w h.seenV ⟨(Mem.hseenF h (by simp)), trivial⟩ hsm8)) rfl (fun b220 p220 => ?_)
      refine wpl_tp (t_callE (fun y : Value × List HT => .row y.1 y.2.length 25 3 (hcs y.2) :: (entsL y.2 ++ [.row b219 1 25 3 (hcs [b218]), .row b202 9 5 1 (v8s (List.replicate 9 (0 : UInt8))), .row b186 2 5 1 (v8s [0, 5])])) (fun y => List.Perm.refl _) Try.hb18 rfl fun w h => octReadSeq b220 129 1 1 w (Mem.hseenF h (by simp)) (by rw [p220.1]; exact hsm8)) rfl (fun b221 p221 => ?_)
      have hl1 : b221.2.length = 1 := by
        have e : rdSeq b220.tr 129 1 1 = ([b218.tr], 0) := by
          rw [p220.1, rdSeq, if_neg]
          · rfl
          · rintro (h | h | h | h)
            · exact h rfl
            · exact absurd h (by show ¬ 0 < 0; omega)
            · exact absurd h (by show ¬ (1 : Int) < 1; omega)
            · exact absurd h (by show ¬ (1 : Int) < 1; omega)
        have q := p221.1
        rw [e] at q
        rw [← trs_length, q]; rfl
      have hs1 := p221.2.1
      have hq1 : (rdSeq b220.tr 129 1 1).2 = 0 := by
        rw [p220.1, rdSeq, if_neg]
        rintro (h | h | h | h)
        · exact h rfl
        · exact absurd h (by show ¬ 0 < 0; omega)
        · exact absurd h (by show ¬ (1 : Int) < 1; omega)
        · exact absurd h (by show ¬ (1 : Int) < 1; omega)
      refine wpl_q (q_pure rfl) rfl ?_
      refine wpl_q (q_pure rfl) rfl ?_
      refine wpl_q (q_pure rfl) rfl ?_
      refine wpl_q (q_pure rfl) rfl ?_
      refine wpl_q (q_pure rfl) rfl ?_
      refine wpl_nil ?_
      refine ex_then ?_
      refine wpc_seq ?_
      refine wpc_region ?_
      refine wpl_tp (t_callPT Try.hb20 rfl fun w h => frz (octSeq 129 nl [] w (seen_nil _ 0 _) trivial (show Sm (Tr.nd 129 [] []) by unfold Sm; decide))) rfl (fun b225 p225 => ?_)
      refine wpl_tp (t_callE (fun y : Value × List HT => .row y.1 y.2.length 25 3 (hcs y.2) :: (entsL y.2 ++ (.row b221.1 b221.2.length 25 3 (hcs b221.2) :: (entsL b221.2 ++ [.row b219 1 25 3 (hcs [b218]), .row b202 9 5 1 (v8s (List.replicate 9 (0 : UInt8))), .row b186 2 5 1 (v8s [0, 5])])))) (fun y => List.Perm.refl _) Try.hb18 rfl fun w h => octReadSeq b225 129 1 2 w (Mem.hseenF h (by simp)) (by rw [p225.1]; unfold Sm; decide)) rfl (fun b226 p226 => ?_)
      have hq2 : (rdSeq b225.tr 129 1 2).2 = 12 := by rw [p225.1, rdSeq, if_pos (.inr (.inr (.inl (by show (0 : Int) < 1; decide))))]
      refine wpl_q (q_pure rfl) rfl ?_
      refine wpl_q (q_pure rfl) rfl ?_
      refine wpl_q (q_pure rfl) rfl ?_
      refine wpl_q (q_pure rfl) rfl ?_
      refine wpl_q (q_pure rfl) rfl ?_
      refine wpl_nil ?_
      refine ex_then ?_
      refine wpc_seq ?_
      refine wpc_region ?_
      refine wpl_tp (t_mkW (l := 65537) (c := 65537) Try.underlying22 Try.ti5 rfl rfl (by first | omega | (simp only [maxLen]; omega) | (simp only [List.length_append, List.length_cons, List.length_nil, List.length_take, maxLen]; omega) | (simp only [List.length_append, List.length_cons, List.length_nil, List.length_take]; omega)) (by first | omega | (simp only [maxLen]; omega) | (simp only [List.length_append, List.length_cons, List.length_nil, List.length_take, maxLen]; omega) | (simp only [List.length_append, List.length_cons, List.length_nil, List.length_take]; omega)) (by first | omega | (simp only [maxLen]; omega) | (simp only [List.length_append, List.length_cons, List.length_nil, List.length_take, maxLen]; omega) | (simp only [List.length_append, List.length_cons, List.length_nil, List.length_take]; omega)) _ rfl (mk8 _)) rfl (fun b230 p230 => ?_)
      refine wpl_tp (t_callPT Try.hb35 rfl fun w h => frz (decode b230 (List.replicate 65537 (0 : UInt8)) w (by rw [List.length_replicate]; exact h.seenV (v := b230)))) rfl (fun b231 p231 => ?_)
      haveI := p231.2.one
      have hq3 : (decF (List.replicate 65537 (0 : UInt8))).2 = 4 := by rw [decF, if_pos (by rw [List.length_replicate]; decide)]
      refine wpl_q (q_pure rfl) rfl ?_
      refine wpl_q (q_pure rfl) rfl ?_
      refine wpl_q (q_pure rfl) rfl ?_
      refine wpl_t (t_alloc Try.ti25 HT.z.c rfl) rfl (fun b30 => ?_)
      refine wpl_t0 (t_stA Try.ti25 rfl rfl LenC.h OneC.h LenC.h) (fun _ => ?_)
      refine wpl_q (q_pure rfl) rfl ?_
      refine wpl_nil ?_
      refine ex_then ?_
      refine wpc_seq ?_
      refine wpc_region ?_
      refine wpl_q (q_pure rfl) rfl ?_
      refine wpl_q (q_tru (q64_eql (b := (18446744073709551615 : UInt64)) rfl rfl) rfl) rfl ?_
      refine wpl_q (q_pure rfl) rfl ?_
      refine wpl_on rfl rfl ?_
      refine wpl_q (q_pure rfl) rfl ?_
      refine wpl_on rfl rfl ?_
      refine wpl_q (q_tru (q_eqI rfl rfl) rfl) rfl ?_
      refine wpl_q (q_pure rfl) rfl ?_
      refine wpl_q (q_pure rfl) rfl ?_
      refine wpl_on rfl rfl ?_
      refine wpl_q (q_pure rfl) rfl ?_
      refine wpl_on rfl rfl ?_
      refine wpl_q (q_tru (q_eqI rfl rfl) rfl) rfl ?_
      refine wpl_q (q_pure rfl) rfl ?_
      refine wpl_q (q_pure rfl) rfl ?_
      refine wpl_on rfl rfl ?_
      refine wpl_q (q_pure rfl) rfl ?_
      refine wpl_on rfl rfl ?_
      refine wpl_q (q_tru (q_eqI rfl rfl) rfl) rfl ?_
      refine wpl_q (q_pure rfl) rfl ?_
      refine wpl_q (q_pure rfl) rfl ?_
      refine wpl_on rfl rfl ?_
      refine wpl_q (q_pure rfl) rfl ?_
      refine wpl_on rfl rfl ?_
      refine wpl_q (q_tru (q_eqI rfl rfl) rfl) rfl ?_
      refine wpl_q (q_pure rfl) rfl ?_
      refine wpl_q (q_pure rfl) rfl ?_
      refine wpl_on rfl rfl ?_
      refine wpl_q (q_pure rfl) rfl ?_
      refine wpl_on rfl rfl ?_
      refine wpl_q (q_tru (q_eqI rfl rfl) rfl) rfl ?_
      refine wpl_q (q_pure rfl) rfl ?_
      refine wpl_q (q_pure rfl) rfl ?_
      refine wpl_on rfl rfl ?_
      refine wpl_q (q_pure rfl) rfl ?_
      refine wpl_on rfl rfl ?_
      refine wpl_q (q_tru (q_strEq Try.underlying9 rfl rfl (by kernel_rfl)) rfl) rfl ?_
      refine wpl_q (q_pure rfl) rfl ?_
      refine wpl_q (q_pure rfl) rfl ?_
      refine wpl_on rfl rfl ?_
      refine wpl_q (q_pure rfl) rfl ?_
      refine wpl_on rfl rfl ?_
      refine wpl_q (q_tru (q_eqI rfl rfl) rfl) rfl ?_
      refine wpl_q (q_pure rfl) rfl ?_
      refine wpl_q (q_pure rfl) rfl ?_
      refine wpl_on rfl rfl ?_
      refine wpl_q (q_pure rfl) rfl ?_
      refine wpl_on rfl rfl ?_
      refine wpl_q (q_tru (q_eqI rfl rfl) rfl) rfl ?_
      refine wpl_q (q_pure rfl) rfl ?_
      refine wpl_q (q_pure rfl) rfl ?_
      refine wpl_on rfl rfl ?_
      refine wpl_q (q_pure rfl) rfl ?_
      refine wpl_on rfl rfl ?_
      refine wpl_q (q_lenW Try.underlying23 rfl (by first | assumption | exact SV.nil | exact SV.slv (by assumption) (by omega) (by omega) | exact arv_sv (by first | decide | (simp only [maxLen]; omega)))) rfl ?_
      refine wpl_on rfl rfl ?_
      refine wpl_q (q_tru (q_eqI rfl rfl) (by rw [hl1]; rfl)) rfl ?_
      refine wpl_q (q_pure rfl) rfl ?_
      refine wpl_q (q_pure rfl) rfl ?_
      refine wpl_on rfl rfl ?_
      refine wpl_q (q_pure rfl) rfl ?_
      refine wpl_on rfl rfl ?_
      refine wpl_q (q_tru (q_eqI rfl rfl) (by rw [hq1]; rfl)) rfl ?_
      refine wpl_q (q_pure rfl) rfl ?_
      refine wpl_q (q_pure rfl) rfl ?_
      refine wpl_on rfl rfl ?_
      refine wpl_q (q_pure rfl) rfl ?_
      refine wpl_on rfl rfl ?_
      refine wpl_q (q_tru (q_eqI rfl rfl) (by rw [hq2]; rfl)) rfl ?_
      refine wpl_q (q_pure rfl) rfl ?_
      refine wpl_q (q_pure rfl) rfl ?_
      refine wpl_on rfl rfl ?_
      refine wpl_q (q_pure rfl) rfl ?_
      refine wpl_on rfl rfl ?_
      refine wpl_q (q_tru (q_eqI rfl rfl) hq3) rfl ?_
      refine wpl_q (q_pure rfl) rfl ?_
      refine wpl_q (q_pure rfl) rfl ?_
      refine wpl_nil ?_
      refine ex_then ?_
      refine wpc_seq ?_
      refine wpc_region ?_
      refine wpl_q (q_pure rfl) rfl ?_
      refine wpl_on rfl rfl ?_
      refine wpl_t (t_pur (v := .bool true) Try.hb38 rfl fun w h => alive w) rfl (fun b286 => ?_)
      refine wpl_q (q_pure rfl) rfl ?_
      refine wpl_q (q_pure rfl) rfl ?_
      refine wpl_on rfl rfl ?_
      refine wpl_q (q_pure rfl) rfl ?_
      refine wpl_q (q_pure rfl) rfl ?_
      refine wpl_q (q_pure rfl) rfl ?_
      refine wpl_on rfl rfl ?_
      refine wpl_q (q_pure rfl) rfl ?_
      refine wpl_q (q_pure rfl) rfl ?_
      refine wpl_q (q_pure rfl) rfl ?_
      refine wpl_on rfl rfl ?_
      refine wpl_q (q_pure rfl) rfl ?_
      refine wpl_q (q_pure rfl) rfl ?_
      refine wpl_q (q_pure rfl) rfl ?_
      refine wpl_on rfl rfl ?_
      refine wpl_q (q_pure rfl) rfl ?_
      refine wpl_q (q_pure rfl) rfl ?_
      refine wpl_q (q_pure rfl) rfl ?_
      refine wpl_nil ?_
      refine ex_then ?_
      refine wpc_ret ?_
      refine ret1 (.inl rfl) rfl rfl ?_
      exact fun w h => ⟨rfl, h.below⟩

end Go.Proofs.Ytommkigkkeailaa
