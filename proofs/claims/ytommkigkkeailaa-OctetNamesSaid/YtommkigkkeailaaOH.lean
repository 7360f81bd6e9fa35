/- Copies of values. -/
import Derived.Test.YtommkigkkeailaaOG
namespace Go.Proofs.Ytommkigkkeailaa
set_option linter.unusedSimpArgs false
set_option linter.unusedVariables false
open Go Go.PL Go.RowKit

theorem clNil {r : Rd} {a : Option Addr} {cap m sz : Nat} {vs : List Value} (h : Seen r (.slice a m cap) m sz vs) (hn : a.isNone = true) : m = 0 := by
  obtain ⟨h1, h2, h3⟩ := h.cap
  have := h3 (Option.isNone_iff_eq_none.1 hn)
  omega
theorem sm_len {tg : UInt8} {bv lv : Value} {bs : List UInt8} {l : List HT} (h : Sm (HT.nd tg bv bs lv l).tr) : l.length ≤ 200000 ∧ bs.length ≤ 1000000 := by
  have h1 := cntL_len (trs l)
  rw [trs_length] at h1
  have h : bs.length + bytL (trs l) + 5 * (1 + cntL (trs l)) ≤ 1000000 := h
  omega
theorem tw_get {ns l : List HT} {i : Nat} (hn : ns.length = i) (hi : i < l.length) : (ns ++ l.drop i).getD i HT.z = l.getD i HT.z := by
  rw [List.getD_eq_getElem?_getD, List.getElem?_append_right (by omega), hn, Nat.sub_self, List.getElem?_drop, Nat.add_zero, List.getD_eq_getElem?_getD]
theorem tw_put {ns l : List HT} {i : Nat} (hn : ns.length = i) (hi : i < l.length) (y : HT) : (hcs (ns ++ l.drop i)).take (i * 3) ++ y.c ++ (hcs (ns ++ l.drop i)).drop (i * 3 + y.c.length) = hcs (ns ++ [y] ++ l.drop (i + 1)) := by
  rw [cat_put HT.c_length y (by rw [List.length_append, List.length_drop]; omega)]
  congr 2
  rw [List.set_append_right _ _ (by omega), hn, Nat.sub_self, drop_consD HT.z hi, List.set_cons_zero, List.append_assoc]; rfl
theorem entsL_snoc (ns : List HT) (y : HT) : (y.ents ++ entsL ns).Perm (entsL (ns ++ [y])) := by
  rw [entsL_append]
  show (y.ents ++ entsL ns).Perm (entsL ns ++ (y.ents ++ []))
  rw [List.append_nil]; exact List.perm_append_comm
theorem snoc_len (ns : List HT) (y : HT) : (ns ++ [y]).length = ns.length + 1 := by rw [List.length_append]; rfl
theorem oneH {t : UInt8} {bv lv : Value} {n m : Nat} (h : SV bv n) (h2 : SV lv m) : OneC [Value.int .u8 (t.toNat : Int), bv, lv] := OneC.cons rfl (OneC.cons h.one (OneC.cons h2.one oneC_nil))
theorem built_o1 (t : UInt8) {v : Value} {n : Nat} (hv : SV v n) : Try.prog.built 25 [(0, .int .u8 (t.toNat : Int)), (1, v)] = some [Value.int .u8 (t.toNat : Int), v, nl].toArray := by
  obtain ⟨a, cap, rfl, _⟩ := hv
  kernel_rfl
theorem built_o2 (t : UInt8) {v : Value} {n : Nat} (hv : SV v n) : Try.prog.built 25 [(0, .int .u8 (t.toNat : Int)), (2, v)] = some [Value.int .u8 (t.toNat : Int), nl, v].toArray := by
  obtain ⟨a, cap, rfl, _⟩ := hv
  kernel_rfl
theorem built_o0 (t : UInt8) : Try.prog.built 25 [(0, .int .u8 (t.toNat : Int))] = some [Value.int .u8 (t.toNat : Int), nl, nl].toArray := by kernel_rfl
theorem built_oz : Try.prog.built 25 [] = some [Value.int .u8 0, nl, nl].toArray := by kernel_rfl
theorem madeT {w0 w : World} {S : List Fact} {tg : UInt8} {bv lv : Value} {bs : List UInt8} {l : List HT} (h : Mem w0 [] (.row bv bs.length 5 1 (v8s bs) :: .row lv l.length 25 3 (hcs l) :: entsL l) S w) : New w0.heap.size (HT.nd tg bv bs lv l).ents [] w := h.made (Sub.refl _) .nil
instance oneC_hcs0 : OneC (hcs []) := ⟨by intro u hu; simp at hu⟩
theorem hcs_one {l : List HT} (h : ∀ x ∈ l, x.sv) : ∀ u ∈ hcs l, u.oneCell' = true := by
  intro u hu
  obtain ⟨cs, hc, hu⟩ := List.mem_flatten.1 hu
  obtain ⟨x, hx, rfl⟩ := List.mem_map.1 hc
  exact (h x hx).one.h u hu
theorem HSeenL.sv {r : Rd} {l : List HT} (h : HSeenL r l) : ∀ x ∈ l, x.sv := fun x hx => (HSeenL_iff.1 h x hx).sv

set_option maxRecDepth 100000 in
theorem cloneB0 (a : Option Addr) (cap : Nat) (xs : List UInt8) (w : World) (hav : Seen w.cell? (.slice a xs.length cap) xs.length 1 (v8s xs)) (hl : xs.length ≤ 1000000) :
    Calls Try.prog 44 [.slice a xs.length cap].toArray w (GivesP w (fun v => SV v xs.length) (fun v => v) (fun v => [.row v xs.length 5 1 (v8s xs)]) (fun _ => [])) := by
  have sav := hav.sv
  refine enter (m := 8) (R := Mem w [] [] []) Try.func44 rfl rfl (Nat.le_of_ble_eq_true rfl) (Mem.start w) ?_
  refine wpc_seq ?_
  refine wpc_region ?_
  refine wpl_q (q_pure rfl) rfl ?_
  refine wpl_nil ?_
  refine ex_then ?_
  refine wpc_seq ?_
  refine wpc_seq ?_
  refine wpc_region ?_
  refine wpl_q (q_pure rfl) rfl ?_
  refine wpl_q (q_slNil Try.underlying22 rfl rfl (by kernel_rfl)) rfl ?_
  refine wpl_nil ?_
  refine ex_then ?_
  refine wpc_cond rfl (fun hc4 => ?_) (fun hc4 => ?_)
  ·
   have h0 := clNil hav hc4
   have hx0 := List.eq_nil_of_length_eq_zero h0
   subst hx0
   refine wpc_seq ?_
   refine wpc_region ?_
   refine wpl_q (q_pure rfl) rfl ?_
   refine wpl_nil ?_
   refine ex_then ?_
   refine wpc_ret ?_
   refine ex_then_ret ?_
   refine ret1 (.inl rfl) rfl rfl ?_
   exact fun w h => ⟨.slice none 0 0, SV.nil, rfl, h.below, (h.nilRow 5 1).made (by repeat (first | exact Sub.nil | exact Sub.refl _ | with_reducible refine Sub.keep ?_ | refine Sub.drop ?_)) .nil⟩
  ·
   refine wpc_skip ?_
   refine ex_then ?_
   refine wpc_seq ?_
   refine wpc_region ?_
   refine wpl_tp (t_bs0W Try.underlying22 Try.ti5) rfl (fun b5 p5 => ?_)
   refine wpl_q (q_pure rfl) rfl ?_
   refine wpl_tp (t_ap0 Try.underlying22 Try.ti5 rfl (by decide) rfl rfl (fun w h => h.seen_old hav) (v8s_one _) (by first | omega | (simp only [maxLen]; omega) | (simp only [List.length_append, List.length_cons, List.length_nil, List.length_take, maxLen]; omega) | (simp only [List.length_append, List.length_cons, List.length_nil, List.length_take]; omega)) (by first | omega | (simp only [maxLen]; omega) | (simp only [List.length_append, List.length_cons, List.length_nil, List.length_take, maxLen]; omega) | (simp only [List.length_append, List.length_cons, List.length_nil, List.length_take]; omega))) rfl (fun b7 p7 => ?_)
   refine wpl_q (q_pure rfl) rfl ?_
   refine wpl_nil ?_
   refine ex_then ?_
   refine wpc_ret ?_
   refine ret1 (.inl rfl) rfl rfl ?_
   exact fun w h => ⟨b7, p7, rfl, h.below, h.made SubC.h .nil⟩

set_option maxRecDepth 100000 in
theorem cloneO0 (a : Option Addr) (cap : Nat) (l : List HT) (w : World) (hav : Seen w.cell? (.slice a l.length cap) l.length 3 (hcs l)) (hl : l.length ≤ 200000) (ho : ∀ x ∈ l, x.sv) :
    Calls Try.prog 45 [.slice a l.length cap].toArray w (GivesP w (fun v => SV v l.length) (fun v => v) (fun v => [.row v l.length 25 3 (hcs l)]) (fun _ => [])) := by
  have sav := hav.sv
  refine enter (m := 8) (R := Mem w [] [] []) Try.func45 rfl rfl (Nat.le_of_ble_eq_true rfl) (Mem.start w) ?_
  refine wpc_seq ?_
  refine wpc_region ?_
  refine wpl_q (q_pure rfl) rfl ?_
  refine wpl_nil ?_
  refine ex_then ?_
  refine wpc_seq ?_
  refine wpc_seq ?_
  refine wpc_region ?_
  refine wpl_q (q_pure rfl) rfl ?_
  refine wpl_q (q_slNil Try.underlying23 rfl rfl (by kernel_rfl)) rfl ?_
  refine wpl_nil ?_
  refine ex_then ?_
  refine wpc_cond rfl (fun hc4 => ?_) (fun hc4 => ?_)
  ·
   have h0 := clNil hav hc4
   have hx0 := List.eq_nil_of_length_eq_zero h0
   subst hx0
   refine wpc_seq ?_
   refine wpc_region ?_
   refine wpl_q (q_pure rfl) rfl ?_
   refine wpl_nil ?_
   refine ex_then ?_
   refine wpc_ret ?_
   refine ex_then_ret ?_
   refine ret1 (.inl rfl) rfl rfl ?_
   exact fun w h => ⟨.slice none 0 0, SV.nil, rfl, h.below, (h.nilRow 25 3).made (by repeat (first | exact Sub.nil | exact Sub.refl _ | with_reducible refine Sub.keep ?_ | refine Sub.drop ?_)) .nil⟩
  ·
   refine wpc_skip ?_
   refine ex_then ?_
   refine wpc_seq ?_
   refine wpc_region ?_
   refine wpl_tp (t_bs0W Try.underlying23 Try.ti25) rfl (fun b5 p5 => ?_)
   refine wpl_q (q_pure rfl) rfl ?_
   refine wpl_tp (t_ap0 Try.underlying23 Try.ti25 rfl (by decide) rfl rfl (fun w h => h.seen_old hav) (hcs_one ho) (by first | omega | (simp only [maxLen]; omega) | (simp only [List.length_append, List.length_cons, List.length_nil, List.length_take, maxLen]; omega) | (simp only [List.length_append, List.length_cons, List.length_nil, List.length_take]; omega)) (by first | omega | (simp only [maxLen]; omega) | (simp only [List.length_append, List.length_cons, List.length_nil, List.length_take, maxLen]; omega) | (simp only [List.length_append, List.length_cons, List.length_nil, List.length_take]; omega))) rfl (fun b7 p7 => ?_)
   refine wpl_q (q_pure rfl) rfl ?_
   refine wpl_nil ?_
   refine ex_then ?_
   refine wpc_ret ?_
   refine ret1 (.inl rfl) rfl rfl ?_
   exact fun w h => ⟨b7, p7, rfl, h.below, h.made SubC.h .nil⟩


theorem cloneB (v : Value) (xs : List UInt8) (w : World) (h : Seen w.cell? v xs.length 1 (v8s xs)) (hl : xs.length ≤ 1000000) : Calls Try.prog 44 [v].toArray w (GivesP w (fun v => SV v xs.length) (fun v => v) (fun v => [.row v xs.length 5 1 (v8s xs)]) (fun _ => [])) := by
  obtain ⟨a, cap, rfl, _⟩ := h.sv
  exact cloneB0 a cap xs w h hl
theorem cloneO (v : Value) (l : List HT) (w : World) (h : Seen w.cell? v l.length 3 (hcs l)) (hl : l.length ≤ 200000) (ho : ∀ x ∈ l, x.sv) : Calls Try.prog 45 [v].toArray w (GivesP w (fun v => SV v l.length) (fun v => v) (fun v => [.row v l.length 25 3 (hcs l)]) (fun _ => [])) := by
  obtain ⟨a, cap, rfl, _⟩ := h.sv
  exact cloneO0 a cap l w h hl ho

set_option maxRecDepth 100000 in
theorem refTwin_step (t : HT) (w : World) (ht : HSeen w.cell? t) (hsm : Sm t.tr) (ih : ∀ x ∈ t.kids, ∀ (w : World), HSeen w.cell? x → Sm x.tr → Calls Try.prog 13 [.agg x.c.toArray].toArray w (GivesP w (fun y : HT => y.tr = x.tr ∧ y.sv) (fun y => .agg y.c.toArray) (fun y => y.ents) (fun _ => []))) :
    Calls Try.prog 13 [.agg t.c.toArray].toArray w (GivesP w (fun y : HT => y.tr = t.tr ∧ y.sv) (fun y => .agg y.c.toArray) (fun y => y.ents) (fun _ => [])) := by
  obtain ⟨tg, bv, bs, lv, l⟩ := t
  have hb := ht.1
  have hk := ht.2.1
  have svb := hb.sv
  have svl := hk.sv
  have lb := svb.le
  have ll := svl.le
  simp only [maxLen] at lb ll
  have hln := sm_len hsm
  refine enter (m := 31) (R := Mem w [] [] []) Try.func13 rfl rfl (Nat.le_of_ble_eq_true rfl) (Mem.start w) ?_
  refine wpc_seq ?_
  refine wpc_region ?_
  refine wpl_t (t_box rfl [.int .u8 (tg.toNat : Int), bv, lv] rfl) rfl (fun b1 => ?_)
  refine wpl_t (t_alloc Try.ti25 [.int .u8 0, nl, nl] rfl) rfl (fun b2 => ?_)
  refine wpl_nil ?_
  refine ex_then ?_
  refine wpc_seq ?_
  refine wpc_draw 99 (by kernel_rfl) (fun _ h => h.drew) ?_
  refine wpd_p 0 rfl (by kernel_rfl) trivial (q_field Try.underlying25 rfl Try.ti5 rfl rfl _ rfl) rfl sk0 ?_
  refine wpd_q 1 rfl (by kernel_rfl) trivial (q_ld Try.underlying5 rfl rfl (by first | exact v8s_get (by first | decide | omega | exact Nat.zero_lt_one | (simp; omega) | (simp; done) | (simp only [v8s_length, v32s_length, vis_length, vns_length, v64s_length]; omega)) | rfl)) rfl (fun _ h => h) ?_
  refine wpd_p 3 rfl (by kernel_rfl) trivial (q_field Try.underlying25 rfl Try.ti22 rfl rfl _ rfl) rfl sk0 ?_
  refine wpd_q 4 rfl (by kernel_rfl) trivial (q_ld Try.underlying22 rfl rfl rfl) rfl (fun _ h => h) ?_
  refine wpd_two 2 7 (by kernel_rfl) ?_ ?_
  ·
   refine wpa_tp 2 rfl trivial (t_bs0W Try.underlying22 Try.ti5) rfl (fun _ => (fun w h => .inr (h.sub SubC.h SubC.h))) (fun b7 p7 => ?_)
   refine wpd_two 5 7 (by kernel_rfl) ?_ ?_
   ·
    refine wpa_tp 5 rfl trivial (t_ap0 Try.underlying22 Try.ti5 rfl (by decide) rfl rfl (fun w h => h.seen_old hb) (v8s_one _) (by first | omega | (simp only [maxLen]; omega) | (simp only [List.length_append, List.length_cons, List.length_nil, List.length_take, maxLen]; omega) | (simp only [List.length_append, List.length_cons, List.length_nil, List.length_take]; omega)) (by first | omega | (simp only [maxLen]; omega) | (simp only [List.length_append, List.length_cons, List.length_nil, List.length_take, maxLen]; omega) | (simp only [List.length_append, List.length_cons, List.length_nil, List.length_take]; omega))) rfl (fun _ => (fun w h => .inr (h.sub SubC.h SubC.h))) (fun b10 p10 => ?_)
    haveI := oneH (t := tg) p10 SV.nil
    refine wpd_p 6 rfl (by kernel_rfl) trivial (q_build (cs := [.int .u8 (tg.toNat : Int), b10, nl]) rfl (built_o1 tg p10)) rfl (fun w h => .inr (h.sub SubC.h SubC.h)) ?_
    refine wpd_t 7 rfl (by kernel_rfl) trivial (t_alloc Try.ti25 [.int .u8 0, nl, nl] rfl) rfl (fun _ => (fun w h => .inr (h.sub SubC.h SubC.h))) (fun b3 => ?_)
    refine wpd_t0 8 rfl (by kernel_rfl) trivial (t_stA Try.ti25 rfl rfl LenC.h OneC.h LenC.h) (fun _ => (fun w h => .inr (h.sub SubC.h SubC.h))) (fun _ => ?_)
    refine wpd_done (by kernel_rfl) ?_
    refine ex_then ?_
    refine wpc_seq ?_
    refine wpc_seq ?_
    refine wpc_region ?_
    refine wpl_q (q_pure rfl) rfl ?_
    refine wpl_nil ?_
    refine ex_then ?_
    refine wpc_block ?_
    refine wpc_loopc (ι := { x : Nat × List HT × Value // (x.1 ≤ l.length) ∧ (x.2.1.length = x.1) ∧ (trs x.2.1 = trs (l.take x.1)) ∧ (SV x.2.2 x.2.1.length) }) [(1, _), (2, _), (3, _)] (fun x Lc => (4, .int .i64 ((x.1.1 : Nat) : Int)) :: Lc) (fun x => Mem w [] (.blk b3 25 [.int .u8 (tg.toNat : Int), b10, x.1.2.2] :: .blk b2 25 [.int .u8 0, nl, nl] :: .blk b1 25 [.int .u8 (tg.toNat : Int), bv, lv] :: .row b10 bs.length 5 1 (v8s bs) :: .row x.1.2.2 x.1.2.1.length 25 3 (hcs x.1.2.1) :: entsL x.1.2.1) []) (fun x => l.length - x.1.1) ⟨(0, [], nl), ⟨Nat.zero_le _, rfl, rfl, SV.nil⟩⟩ (by repeat (first | exact trivial | refine ⟨rfl, ?_⟩)) ?_ ?_
    ·
     exact fun w h => by
       have h2 : Mem _ _ [.blk b3 25 [.int .u8 (tg.toNat : Int), b10, nl], .blk b2 25 [.int .u8 0, nl, nl], .blk b1 25 [.int .u8 (tg.toNat : Int), bv, lv], .row b10 bs.length 5 1 (v8s bs), .row nl 0 25 3 []] [] w := (h.nilRow 25 3).sel
       exact h2
    ·
     rintro ⟨⟨i, ns, nv⟩, ⟨hi0, hi1, hi2, hi3⟩⟩; try dsimp only
     have hi0 : i ≤ l.length := hi0; have hi1 : ns.length = i := hi1; have hi2 : trs ns = trs (l.take i) := hi2; have hi3 : SV nv ns.length := hi3
     refine wpc_seq ?_
     refine wpc_seq ?_
     refine wpc_region ?_
     refine wpl_q (q_pure rfl) rfl ?_
     refine wpl_q (q_field Try.underlying25 rfl Try.ti23 rfl rfl _ rfl) rfl ?_
     refine wpl_q (q_ld Try.underlying23 rfl rfl rfl) rfl ?_
     refine wpl_q (q_lenW Try.underlying23 rfl (by first | assumption | exact SV.nil | exact SV.slv (by assumption) (by omega) (by omega) | exact arv_sv (by first | decide | (simp only [maxLen]; omega)))) rfl ?_
     refine wpl_q (q_pure rfl) rfl ?_
     refine wpl_nil ?_
     refine ex_then ?_
     refine wpc_cond rfl (fun hc16 => ?_) (fun hc16 => ?_)
     ·
      simp only [decide_eq_true_eq] at hc16
      have hil : i < l.length := by omega
      haveI := (ht.kid hil).sv.one
      have hln := sm_len hsm
      refine wpc_skip ?_
      refine ex_then ?_
      refine wpc_seq ?_
      refine wpc_block ?_
      refine wpc_draw 9 (by kernel_rfl) (fun _ h => h.drew) ?_
      refine wpd_p 0 rfl (by kernel_rfl) trivial (q_field Try.underlying25 rfl Try.ti23 rfl rfl _ rfl) rfl sk0 ?_
      refine wpd_q 1 rfl (by kernel_rfl) trivial (q_ld Try.underlying23 rfl rfl rfl) rfl (fun _ h => h) ?_
      refine wpd_p 2 rfl (by kernel_rfl) trivial (q_field Try.underlying25 rfl Try.ti23 rfl rfl _ rfl) rfl sk0 ?_
      refine wpd_qB 3 [5, 6, 7, 8, 9] rfl (by kernel_rfl) trivial (q_ld Try.underlying23 rfl rfl rfl) rfl (fun _ h => h) ?_
      refine wpd_p 4 rfl (by kernel_rfl) trivial (q_pure rfl) rfl sk0 ?_
      refine wpd_p 5 rfl (by kernel_rfl) trivial (q_idxW Try.underlying23 Try.ti25 rfl rfl (by first | assumption | exact SV.nil | exact SV.slv (by assumption) (by omega) (by omega) | exact arv_sv (by first | decide | (simp only [maxLen]; omega))) (by first | omega | (simp only [maxLen]; omega) | (simp only [List.length_append, List.length_cons, List.length_nil, List.length_take, maxLen]; omega) | (simp only [List.length_append, List.length_cons, List.length_nil, List.length_take]; omega))) rfl sk0 ?_
      refine wpd_qB 6 [7, 8, 9] rfl (by kernel_rfl) trivial (q_ldWN Try.underlying25 rfl Try.ti25 rfl (fun w h => h.seen_old hk) (l.getD i HT.z).c (cat_part HT.c_length HT.z hil) (HT.c_length _)) rfl (fun _ h => h) ?_
      refine wpd_tp 7 rfl (by kernel_rfl) trivial (t_callE (fun y : HT => .blk b3 25 [.int .u8 (tg.toNat : Int), b10, nv] :: .blk b2 25 [.int .u8 0, nl, nl] :: .blk b1 25 [.int .u8 (tg.toNat : Int), bv, lv] :: .row b10 bs.length 5 1 (v8s bs) :: .row nv ns.length 25 3 (hcs ns) :: (y.ents ++ entsL ns)) (fun y => List.perm_append_comm_assoc y.ents [.blk b3 25 [.int .u8 (tg.toNat : Int), b10, nv], .blk b2 25 [.int .u8 0, nl, nl], .blk b1 25 [.int .u8 (tg.toNat : Int), bv, lv], .row b10 bs.length 5 1 (v8s bs), .row nv ns.length 25 3 (hcs ns)] (entsL ns)) Try.hb13 rfl fun w h => ih (l.getD i HT.z) (getD_memH hil) w ((ht.kid hil).old h) (hsm.kid hil)) rfl (fun _ => (fun w h => .inr (h.sub SubC.h SubC.h))) (fun b26 p26 => ?_)
      haveI := p26.2.one
      have sb28 := p26.2
      refine wpd_tp 8 rfl (by kernel_rfl) trivial (t_bsG [.agg b26.c.toArray] b26.c Try.underlying23 Try.ti25 rfl (by decide) rfl (by decide) (by decide) rfl (by intro v hv; rw [List.mem_singleton] at hv; subst hv; exact HT.c_length _) (List.append_nil _)) rfl (fun _ => (fun w h => .inr (h.sub SubC.h SubC.h))) (fun b27 p27 => ?_)
      refine wpd_tp 9 rfl (by kernel_rfl) trivial (t_apW Try.underlying23 Try.ti25 rfl (by decide) rfl rfl (fun w h => by first | exact h.seenV | exact h.seenA (by first | decide | (simp only [maxLen]; omega)) (by first | with_reducible rfl | (simp only [v8s_length, v32s_length, vis_length, vns_length, v64s_length, List.length_replicate]; first | done | with_reducible assumption | omega) | (rw [v8s_length]; (first | with_reducible assumption | with_reducible exact shortF_length _ | with_reducible exact stepF_length _ _ _ | with_reducible exact sumF_length _ | with_reducible exact climbF_length _ (by first | with_reducible assumption | with_reducible exact shortF_length _ | with_reducible exact beginF_length _ _ | with_reducible exact getD_mem_len (by assumption) (by omega)) _ _ _ | with_reducible exact beginF_length _ _ | with_reducible exact chainF_length _ _ _ | with_reducible exact recF_length _ _ | with_reducible exact publicF_length _ | with_reducible exact getD_mem_len (by assumption) (by omega) | (with_reducible exact List.length_replicate))) | rfl) | exact h.seen_old (by assumption) | exact h.seen_oldL (by assumption) (by assumption) | exact h.seen_fact (by repeat (first | exact List.mem_cons_self .. | apply List.mem_cons_of_mem))) OneC.h (by first | omega | (simp only [maxLen]; omega) | (simp only [List.length_append, List.length_cons, List.length_nil, List.length_take, maxLen]; omega) | (simp only [List.length_append, List.length_cons, List.length_nil, List.length_take]; omega)) (by first | omega | (simp only [maxLen]; omega) | (simp only [List.length_append, List.length_cons, List.length_nil, List.length_take, maxLen]; omega) | (simp only [List.length_append, List.length_cons, List.length_nil, List.length_take]; omega)) (hcs (ns ++ [b26])) (cat_snoc HT.c ns b26)) rfl (fun _ => skk rfl) (fun b28 p28 => ?_)
      refine wpd_p 10 rfl (by kernel_rfl) trivial (q_field Try.underlying25 rfl Try.ti23 rfl rfl _ rfl) rfl (skk rfl) ?_
      refine wpd_t0 11 rfl (by kernel_rfl) trivial (t_st1 Try.ti23 rfl rfl (SV.one (by first | assumption | exact SV.nil | exact SV.slv (by assumption) (by omega) (by omega) | exact arv_sv (by first | decide | (simp only [maxLen]; omega)))) (by first | decide | omega | exact Nat.zero_lt_one | (simp; omega) | (simp; done) | (simp only [v8s_length, v32s_length, vis_length, vns_length, v64s_length]; omega)) [.int .u8 (tg.toNat : Int), b10, b28] rfl) (fun _ => skk rfl) (fun _ => ?_)
      refine wpd_done (by kernel_rfl) ?_
      refine ex_block ?_
      refine ex_then ?_
      refine wpc_region ?_
      refine wpl_q (q_pure rfl) rfl ?_
      refine wpl_q (q_addN (b := 1) rfl rfl (by first | omega | (simp only [maxLen]; omega) | (simp only [List.length_append, List.length_cons, List.length_nil, List.length_take, maxLen]; omega) | (simp only [List.length_append, List.length_cons, List.length_nil, List.length_take]; omega))) rfl ?_
      refine wpl_q (q_pure rfl) rfl ?_
      refine wpl_nil ?_
      refine ex_again ⟨(i + 1, ns ++ [b26], b28), ⟨by omega, by rw [snoc_len, hi1], by rw [trs_append, hi2, trs_takeS hil, ← p26.1]; rfl, by rw [snoc_len]; exact p28⟩⟩ ?_ ?_ ?_
      ·
       exact (by repeat (first | exact trivial | refine ⟨rfl, ?_⟩))
      ·
       exact fun w h => by
         dsimp only
         rw [snoc_len]
         have h2 := h.sub (M' := .blk b3 25 [.int .u8 (tg.toNat : Int), b10, b28] :: .blk b2 25 [.int .u8 0, nl, nl] :: .blk b1 25 [.int .u8 (tg.toNat : Int), bv, lv] :: .row b10 bs.length 5 1 (v8s bs) :: .row b28 (ns.length + 1) 25 3 (hcs (ns ++ [b26])) :: (b26.ents ++ entsL ns)) (S' := []) SubC.h .nil
         exact h2.perm ((((((entsL_snoc ns b26).cons _).cons _).cons _).cons _).cons _)
      ·
       (show l.length - (i + 1) < l.length - i); omega
     ·
      simp only [decide_eq_false_iff_not] at hc16
      obtain rfl : i = l.length := by omega
      rw [List.take_length] at hi2
      haveI := oneH (t := tg) p10 hi3
      refine wpc_exit ?_
      refine ex_then_exit ?_
      refine ex_then_exit ?_
      refine ex_block_hit ?_
      refine ex_then ?_
      refine wpc_seq ?_
      refine wpc_region ?_
      refine wpl_q (q_ldN Try.underlying25 rfl Try.ti25 rfl LenC.h) rfl ?_
      refine wpl_t0 (t_stA Try.ti25 rfl rfl LenC.h OneC.h LenC.h) (fun _ => ?_)
      refine wpl_nil ?_
      refine ex_then ?_
      refine wpc_ret ?_
      refine retv1 (.inl rfl) rfl (rv_agg Try.underlying25 rfl Try.ti25 rfl (fun w h => h.atB) rfl) ?_
      exact fun w h => ⟨.nd tg b10 bs nv ns, ⟨by show Tr.nd tg bs (trs ns) = Tr.nd tg bs (trs l); rw [hi2], p10, hi3⟩, rfl, h.below, madeT (h.sub SubC.h .nil)⟩
   ·
    refine wpa_t 7 rfl trivial (t_alloc Try.ti25 [.int .u8 0, nl, nl] rfl) rfl (fun _ => (fun w h => .inr (h.sub SubC.h SubC.h))) (fun b3 => ?_)
    refine wpd_tp 5 rfl (by kernel_rfl) trivial (t_ap0 Try.underlying22 Try.ti5 rfl (by decide) rfl rfl (fun w h => h.seen_old hb) (v8s_one _) (by first | omega | (simp only [maxLen]; omega) | (simp only [List.length_append, List.length_cons, List.length_nil, List.length_take, maxLen]; omega) | (simp only [List.length_append, List.length_cons, List.length_nil, List.length_take]; omega)) (by first | omega | (simp only [maxLen]; omega) | (simp only [List.length_append, List.length_cons, List.length_nil, List.length_take, maxLen]; omega) | (simp only [List.length_append, List.length_cons, List.length_nil, List.length_take]; omega))) rfl (fun _ => (fun w h => .inr (h.sub SubC.h SubC.h))) (fun b10 p10 => ?_)
    haveI := oneH (t := tg) p10 SV.nil
    refine wpd_p 6 rfl (by kernel_rfl) trivial (q_build (cs := [.int .u8 (tg.toNat : Int), b10, nl]) rfl (built_o1 tg p10)) rfl (fun w h => .inr (h.sub SubC.h SubC.h)) ?_
    refine wpd_t0 8 rfl (by kernel_rfl) trivial (t_stA Try.ti25 rfl rfl LenC.h OneC.h LenC.h) (fun _ => (fun w h => .inr (h.sub SubC.h SubC.h))) (fun _ => ?_)
    refine wpd_done (by kernel_rfl) ?_
    refine ex_then ?_
    refine wpc_seq ?_
    refine wpc_seq ?_
    refine wpc_region ?_
    refine wpl_q (q_pure rfl) rfl ?_
    refine wpl_nil ?_
    refine ex_then ?_
    refine wpc_block ?_
    refine wpc_loopc (ι := { x : Nat × List HT × Value // (x.1 ≤ l.length) ∧ (x.2.1.length = x.1) ∧ (trs x.2.1 = trs (l.take x.1)) ∧ (SV x.2.2 x.2.1.length) }) [(1, _), (2, _), (3, _)] (fun x Lc => (4, .int .i64 ((x.1.1 : Nat) : Int)) :: Lc) (fun x => Mem w [] (.blk b3 25 [.int .u8 (tg.toNat : Int), b10, x.1.2.2] :: .blk b2 25 [.int .u8 0, nl, nl] :: .blk b1 25 [.int .u8 (tg.toNat : Int), bv, lv] :: .row b10 bs.length 5 1 (v8s bs) :: .row x.1.2.2 x.1.2.1.length 25 3 (hcs x.1.2.1) :: entsL x.1.2.1) []) (fun x => l.length - x.1.1) ⟨(0, [], nl), ⟨Nat.zero_le _, rfl, rfl, SV.nil⟩⟩ (by repeat (first | exact trivial | refine ⟨rfl, ?_⟩)) ?_ ?_
    ·
     exact fun w h => by
       have h2 : Mem _ _ [.blk b3 25 [.int .u8 (tg.toNat : Int), b10, nl], .blk b2 25 [.int .u8 0, nl, nl], .blk b1 25 [.int .u8 (tg.toNat : Int), bv, lv], .row b10 bs.length 5 1 (v8s bs), .row nl 0 25 3 []] [] w := (h.nilRow 25 3).sel
       exact h2
    ·
     rintro ⟨⟨i, ns, nv⟩, ⟨hi0, hi1, hi2, hi3⟩⟩; try dsimp only
     have hi0 : i ≤ l.length := hi0; have hi1 : ns.length = i := hi1; have hi2 : trs ns = trs (l.take i) := hi2; have hi3 : SV nv ns.length := hi3
     refine wpc_seq ?_
     refine wpc_seq ?_
     refine wpc_region ?_
     refine wpl_q (q_pure rfl) rfl ?_
     refine wpl_q (q_field Try.underlying25 rfl Try.ti23 rfl rfl _ rfl) rfl ?_
     refine wpl_q (q_ld Try.underlying23 rfl rfl rfl) rfl ?_
     refine wpl_q (q_lenW Try.underlying23 rfl (by first | assumption | exact SV.nil | exact SV.slv (by assumption) (by omega) (by omega) | exact arv_sv (by first | decide | (simp only [maxLen]; omega)))) rfl ?_
     refine wpl_q (q_pure rfl) rfl ?_
     refine wpl_nil ?_
     refine ex_then ?_
     refine wpc_cond rfl (fun hc16 => ?_) (fun hc16 => ?_)
     ·
      simp only [decide_eq_true_eq] at hc16
      have hil : i < l.length := by omega
      haveI := (ht.kid hil).sv.one
      have hln := sm_len hsm
      refine wpc_skip ?_
      refine ex_then ?_
      refine wpc_seq ?_
      refine wpc_block ?_
      refine wpc_draw 9 (by kernel_rfl) (fun _ h => h.drew) ?_
      refine wpd_p 0 rfl (by kernel_rfl) trivial (q_field Try.underlying25 rfl Try.ti23 rfl rfl _ rfl) rfl sk0 ?_
      refine wpd_q 1 rfl (by kernel_rfl) trivial (q_ld Try.underlying23 rfl rfl rfl) rfl (fun _ h => h) ?_
      refine wpd_p 2 rfl (by kernel_rfl) trivial (q_field Try.underlying25 rfl Try.ti23 rfl rfl _ rfl) rfl sk0 ?_
      refine wpd_qB 3 [5, 6, 7, 8, 9] rfl (by kernel_rfl) trivial (q_ld Try.underlying23 rfl rfl rfl) rfl (fun _ h => h) ?_
      refine wpd_p 4 rfl (by kernel_rfl) trivial (q_pure rfl) rfl sk0 ?_
      refine wpd_p 5 rfl (by kernel_rfl) trivial (q_idxW Try.underlying23 Try.ti25 rfl rfl (by first | assumption | exact SV.nil | exact SV.slv (by assumption) (by omega) (by omega) | exact arv_sv (by first | decide | (simp only [maxLen]; omega))) (by first | omega | (simp only [maxLen]; omega) | (simp only [List.length_append, List.length_cons, List.length_nil, List.length_take, maxLen]; omega) | (simp only [List.length_append, List.length_cons, List.length_nil, List.length_take]; omega))) rfl sk0 ?_
      refine wpd_qB 6 [7, 8, 9] rfl (by kernel_rfl) trivial (q_ldWN Try.underlying25 rfl Try.ti25 rfl (fun w h => h.seen_old hk) (l.getD i HT.z).c (cat_part HT.c_length HT.z hil) (HT.c_length _)) rfl (fun _ h => h) ?_
      refine wpd_tp 7 rfl (by kernel_rfl) trivial (t_callE (fun y : HT => .blk b3 25 [.int .u8 (tg.toNat : Int), b10, nv] :: .blk b2 25 [.int .u8 0, nl, nl] :: .blk b1 25 [.int .u8 (tg.toNat : Int), bv, lv] :: .row b10 bs.length 5 1 (v8s bs) :: .row nv ns.length 25 3 (hcs ns) :: (y.ents ++ entsL ns)) (fun y => List.perm_append_comm_assoc y.ents [.blk b3 25 [.int .u8 (tg.toNat : Int), b10, nv], .blk b2 25 [.int .u8 0, nl, nl], .blk b1 25 [.int .u8 (tg.toNat : Int), bv, lv], .row b10 bs.length 5 1 (v8s bs), .row nv ns.length 25 3 (hcs ns)] (entsL ns)) Try.hb13 rfl fun w h => ih (l.getD i HT.z) (getD_memH hil) w ((ht.kid hil).old h) (hsm.kid hil)) rfl (fun _ => (fun w h => .inr (h.sub SubC.h SubC.h))) (fun b26 p26 => ?_)
      haveI := p26.2.one
      have sb28 := p26.2
      refine wpd_tp 8 rfl (by kernel_rfl) trivial (t_bsG [.agg b26.c.toArray] b26.c Try.underlying23 Try.ti25 rfl (by decide) rfl (by decide) (by decide) rfl (by intro v hv; rw [List.mem_singleton] at hv; subst hv; exact HT.c_length _) (List.append_nil _)) rfl (fun _ => (fun w h => .inr (h.sub SubC.h SubC.h))) (fun b27 p27 => ?_)
      refine wpd_tp 9 rfl (by kernel_rfl) trivial (t_apW Try.underlying23 Try.ti25 rfl (by decide) rfl rfl (fun w h => by first | exact h.seenV | exact h.seenA (by first | decide | (simp only [maxLen]; omega)) (by first | with_reducible rfl | (simp only [v8s_length, v32s_length, vis_length, vns_length, v64s_length, List.length_replicate]; first | done | with_reducible assumption | omega) | (rw [v8s_length]; (first | with_reducible assumption | with_reducible exact shortF_length _ | with_reducible exact stepF_length _ _ _ | with_reducible exact sumF_length _ | with_reducible exact climbF_length _ (by first | with_reducible assumption | with_reducible exact shortF_length _ | with_reducible exact beginF_length _ _ | with_reducible exact getD_mem_len (by assumption) (by omega)) _ _ _ | with_reducible exact beginF_length _ _ | with_reducible exact chainF_length _ _ _ | with_reducible exact recF_length _ _ | with_reducible exact publicF_length _ | with_reducible exact getD_mem_len (by assumption) (by omega) | (with_reducible exact List.length_replicate))) | rfl) | exact h.seen_old (by assumption) | exact h.seen_oldL (by assumption) (by assumption) | exact h.seen_fact (by repeat (first | exact List.mem_cons_self .. | apply List.mem_cons_of_mem))) OneC.h (by first | omega | (simp only [maxLen]; omega) | (simp only [List.length_append, List.length_cons, List.length_nil, List.length_take, maxLen]; omega) | (simp only [List.length_append, List.length_cons, List.length_nil, List.length_take]; omega)) (by first | omega | (simp only [maxLen]; omega) | (simp only [List.length_append, List.length_cons, List.length_nil, List.length_take, maxLen]; omega) | (simp only [List.length_append, List.length_cons, List.length_nil, List.length_take]; omega)) (hcs (ns ++ [b26])) (cat_snoc HT.c ns b26)) rfl (fun _ => skk rfl) (fun b28 p28 => ?_)
      refine wpd_p 10 rfl (by kernel_rfl) trivial (q_field Try.underlying25 rfl Try.ti23 rfl rfl _ rfl) rfl (skk rfl) ?_
      refine wpd_t0 11 rfl (by kernel_rfl) trivial (t_st1 Try.ti23 rfl rfl (SV.one (by first | assumption | exact SV.nil | exact SV.slv (by assumption) (by omega) (by omega) | exact arv_sv (by first | decide | (simp only [maxLen]; omega)))) (by first | decide | omega | exact Nat.zero_lt_one | (simp; omega) | (simp; done) | (simp only [v8s_length, v32s_length, vis_length, vns_length, v64s_length]; omega)) [.int .u8 (tg.toNat : Int), b10, b28] rfl) (fun _ => skk rfl) (fun _ => ?_)
      refine wpd_done (by kernel_rfl) ?_
      refine ex_block ?_
      refine ex_then ?_
      refine wpc_region ?_
      refine wpl_q (q_pure rfl) rfl ?_
      refine wpl_q (q_addN (b := 1) rfl rfl (by first | omega | (simp only [maxLen]; omega) | (simp only [List.length_append, List.length_cons, List.length_nil, List.length_take, maxLen]; omega) | (simp only [List.length_append, List.length_cons, List.length_nil, List.length_take]; omega))) rfl ?_
      refine wpl_q (q_pure rfl) rfl ?_
      refine wpl_nil ?_
      refine ex_again ⟨(i + 1, ns ++ [b26], b28), ⟨by omega, by rw [snoc_len, hi1], by rw [trs_append, hi2, trs_takeS hil, ← p26.1]; rfl, by rw [snoc_len]; exact p28⟩⟩ ?_ ?_ ?_
      ·
       exact (by repeat (first | exact trivial | refine ⟨rfl, ?_⟩))
      ·
       exact fun w h => by
         dsimp only
         rw [snoc_len]
         have h2 := h.sub (M' := .blk b3 25 [.int .u8 (tg.toNat : Int), b10, b28] :: .blk b2 25 [.int .u8 0, nl, nl] :: .blk b1 25 [.int .u8 (tg.toNat : Int), bv, lv] :: .row b10 bs.length 5 1 (v8s bs) :: .row b28 (ns.length + 1) 25 3 (hcs (ns ++ [b26])) :: (b26.ents ++ entsL ns)) (S' := []) SubC.h .nil
         exact h2.perm ((((((entsL_snoc ns b26).cons _).cons _).cons _).cons _).cons _)
      ·
       (show l.length - (i + 1) < l.length - i); omega
     ·
      simp only [decide_eq_false_iff_not] at hc16
      obtain rfl : i = l.length := by omega
      rw [List.take_length] at hi2
      haveI := oneH (t := tg) p10 hi3
      refine wpc_exit ?_
      refine ex_then_exit ?_
      refine ex_then_exit ?_
      refine ex_block_hit ?_
      refine ex_then ?_
      refine wpc_seq ?_
      refine wpc_region ?_
      refine wpl_q (q_ldN Try.underlying25 rfl Try.ti25 rfl LenC.h) rfl ?_
      refine wpl_t0 (t_stA Try.ti25 rfl rfl LenC.h OneC.h LenC.h) (fun _ => ?_)
      refine wpl_nil ?_
      refine ex_then ?_
      refine wpc_ret ?_
      refine retv1 (.inl rfl) rfl (rv_agg Try.underlying25 rfl Try.ti25 rfl (fun w h => h.atB) rfl) ?_
      exact fun w h => ⟨.nd tg b10 bs nv ns, ⟨by show Tr.nd tg bs (trs ns) = Tr.nd tg bs (trs l); rw [hi2], p10, hi3⟩, rfl, h.below, madeT (h.sub SubC.h .nil)⟩
  ·
   refine wpa_t 7 rfl trivial (t_alloc Try.ti25 [.int .u8 0, nl, nl] rfl) rfl (fun _ => (fun w h => .inr (h.sub SubC.h SubC.h))) (fun b3 => ?_)
   refine wpd_tp 2 rfl (by kernel_rfl) trivial (t_bs0W Try.underlying22 Try.ti5) rfl (fun _ => (fun w h => .inr (h.sub SubC.h SubC.h))) (fun b7 p7 => ?_)
   refine wpd_tp 5 rfl (by kernel_rfl) trivial (t_ap0 Try.underlying22 Try.ti5 rfl (by decide) rfl rfl (fun w h => h.seen_old hb) (v8s_one _) (by first | omega | (simp only [maxLen]; omega) | (simp only [List.length_append, List.length_cons, List.length_nil, List.length_take, maxLen]; omega) | (simp only [List.length_append, List.length_cons, List.length_nil, List.length_take]; omega)) (by first | omega | (simp only [maxLen]; omega) | (simp only [List.length_append, List.length_cons, List.length_nil, List.length_take, maxLen]; omega) | (simp only [List.length_append, List.length_cons, List.length_nil, List.length_take]; omega))) rfl (fun _ => (fun w h => .inr (h.sub SubC.h SubC.h))) (fun b10 p10 => ?_)
   haveI := oneH (t := tg) p10 SV.nil
   refine wpd_p 6 rfl (by kernel_rfl) trivial (q_build (cs := [.int .u8 (tg.toNat : Int), b10, nl]) rfl (built_o1 tg p10)) rfl (fun w h => .inr (h.sub SubC.h SubC.h)) ?_
   refine wpd_t0 8 rfl (by kernel_rfl) trivial (t_stA Try.ti25 rfl rfl LenC.h OneC.h LenC.h) (fun _ => (fun w h => .inr (h.sub SubC.h SubC.h))) (fun _ => ?_)
   refine wpd_done (by kernel_rfl) ?_
   refine ex_then ?_
   refine wpc_seq ?_
   refine wpc_seq ?_
   refine wpc_region ?_
   refine wpl_q (q_pure rfl) rfl ?_
   refine wpl_nil ?_
   refine ex_then ?_
   refine wpc_block ?_
   refine wpc_loopc (ι := { x : Nat × List HT × Value // (x.1 ≤ l.length) ∧ (x.2.1.length = x.1) ∧ (trs x.2.1 = trs (l.take x.1)) ∧ (SV x.2.2 x.2.1.length) }) [(1, _), (2, _), (3, _)] (fun x Lc => (4, .int .i64 ((x.1.1 : Nat) : Int)) :: Lc) (fun x => Mem w [] (.blk b3 25 [.int .u8 (tg.toNat : Int), b10, x.1.2.2] :: .blk b2 25 [.int .u8 0, nl, nl] :: .blk b1 25 [.int .u8 (tg.toNat : Int), bv, lv] :: .row b10 bs.length 5 1 (v8s bs) :: .row x.1.2.2 x.1.2.1.length 25 3 (hcs x.1.2.1) :: entsL x.1.2.1) []) (fun x => l.length - x.1.1) ⟨(0, [], nl), ⟨Nat.zero_le _, rfl, rfl, SV.nil⟩⟩ (by repeat (first | exact trivial | refine ⟨rfl, ?_⟩)) ?_ ?_
   ·
    exact fun w h => by
      have h2 : Mem _ _ [.blk b3 25 [.int .u8 (tg.toNat : Int), b10, nl], .blk b2 25 [.int .u8 0, nl, nl], .blk b1 25 [.int .u8 (tg.toNat : Int), bv, lv], .row b10 bs.length 5 1 (v8s bs), .row nl 0 25 3 []] [] w := (h.nilRow 25 3).sel
      exact h2
   ·
    rintro ⟨⟨i, ns, nv⟩, ⟨hi0, hi1, hi2, hi3⟩⟩; try dsimp only
    have hi0 : i ≤ l.length := hi0; have hi1 : ns.length = i := hi1; have hi2 : trs ns = trs (l.take i) := hi2; have hi3 : SV nv ns.length := hi3
    refine wpc_seq ?_
    refine wpc_seq ?_
    refine wpc_region ?_
    refine wpl_q (q_pure rfl) rfl ?_
    refine wpl_q (q_field Try.underlying25 rfl Try.ti23 rfl rfl _ rfl) rfl ?_
    refine wpl_q (q_ld Try.underlying23 rfl rfl rfl) rfl ?_
    refine wpl_q (q_lenW Try.underlying23 rfl (by first | assumption | exact SV.nil | exact SV.slv (by assumption) (by omega) (by omega) | exact arv_sv (by first | decide | (simp only [maxLen]; omega)))) rfl ?_
    refine wpl_q (q_pure rfl) rfl ?_
    refine wpl_nil ?_
    refine ex_then ?_
    refine wpc_cond rfl (fun hc16 => ?_) (fun hc16 => ?_)
    ·
     simp only [decide_eq_true_eq] at hc16
     have hil : i < l.length := by omega
     haveI := (ht.kid hil).sv.one
     have hln := sm_len hsm
     refine wpc_skip ?_
     refine ex_then ?_
     refine wpc_seq ?_
     refine wpc_block ?_
     refine wpc_draw 9 (by kernel_rfl) (fun _ h => h.drew) ?_
     refine wpd_p 0 rfl (by kernel_rfl) trivial (q_field Try.underlying25 rfl Try.ti23 rfl rfl _ rfl) rfl sk0 ?_
     refine wpd_q 1 rfl (by kernel_rfl) trivial (q_ld Try.underlying23 rfl rfl rfl) rfl (fun _ h => h) ?_
     refine wpd_p 2 rfl (by kernel_rfl) trivial (q_field Try.underlying25 rfl Try.ti23 rfl rfl _ rfl) rfl sk0 ?_
     refine wpd_qB 3 [5, 6, 7, 8, 9] rfl (by kernel_rfl) trivial (q_ld Try.underlying23 rfl rfl rfl) rfl (fun _ h => h) ?_
     refine wpd_p 4 rfl (by kernel_rfl) trivial (q_pure rfl) rfl sk0 ?_
     refine wpd_p 5 rfl (by kernel_rfl) trivial (q_idxW Try.underlying23 Try.ti25 rfl rfl (by first | assumption | exact SV.nil | exact SV.slv (by assumption) (by omega) (by omega) | exact arv_sv (by first | decide | (simp only [maxLen]; omega))) (by first | omega | (simp only [maxLen]; omega) | (simp only [List.length_append, List.length_cons, List.length_nil, List.length_take, maxLen]; omega) | (simp only [List.length_append, List.length_cons, List.length_nil, List.length_take]; omega))) rfl sk0 ?_
     refine wpd_qB 6 [7, 8, 9] rfl (by kernel_rfl) trivial (q_ldWN Try.underlying25 rfl Try.ti25 rfl (fun w h => h.seen_old hk) (l.getD i HT.z).c (cat_part HT.c_length HT.z hil) (HT.c_length _)) rfl (fun _ h => h) ?_
     refine wpd_tp 7 rfl (by kernel_rfl) trivial (t_callE (fun y : HT => .blk b3 25 [.int .u8 (tg.toNat : Int), b10, nv] :: .blk b2 25 [.int .u8 0, nl, nl] :: .blk b1 25 [.int .u8 (tg.toNat : Int), bv, lv] :: .row b10 bs.length 5 1 (v8s bs) :: .row nv ns.length 25 3 (hcs ns) :: (y.ents ++ entsL ns)) (fun y => List.perm_append_comm_assoc y.ents [.blk b3 25 [.int .u8 (tg.toNat : Int), b10, nv], .blk b2 25 [.int .u8 0, nl, nl], .blk b1 25 [.int .u8 (tg.toNat : Int), bv, lv], .row b10 bs.length 5 1 (v8s bs), .row nv ns.length 25 3 (hcs ns)] (entsL ns)) Try.hb13 rfl fun w h => ih (l.getD i HT.z) (getD_memH hil) w ((ht.kid hil).old h) (hsm.kid hil)) rfl (fun _ => (fun w h => .inr (h.sub SubC.h SubC.h))) (fun b26 p26 => ?_)
     haveI := p26.2.one
     have sb28 := p26.2
     refine wpd_tp 8 rfl (by kernel_rfl) trivial (t_bsG [.agg b26.c.toArray] b26.c Try.underlying23 Try.ti25 rfl (by decide) rfl (by decide) (by decide) rfl (by intro v hv; rw [List.mem_singleton] at hv; subst hv; exact HT.c_length _) (List.append_nil _)) rfl (fun _ => (fun w h => .inr (h.sub SubC.h SubC.h))) (fun b27 p27 => ?_)
     refine wpd_tp 9 rfl (by kernel_rfl) trivial (t_apW Try.underlying23 Try.ti25 rfl (by decide) rfl rfl (fun w h => by first | exact h.seenV | exact h.seenA (by first | decide | (simp only [maxLen]; omega)) (by first | with_reducible rfl | (simp only [v8s_length, v32s_length, vis_length, vns_length, v64s_length, List.length_replicate]; first | done | with_reducible assumption | omega) | (rw [v8s_length]; (first | with_reducible assumption | with_reducible exact shortF_length _ | with_reducible exact stepF_length _ _ _ | with_reducible exact sumF_length _ | with_reducible exact climbF_length _ (by first | with_reducible assumption | with_reducible exact shortF_length _ | with_reducible exact beginF_length _ _ | with_reducible exact getD_mem_len (by assumption) (by omega)) _ _ _ | with_reducible exact beginF_length _ _ | with_reducible exact chainF_length _ _ _ | with_reducible exact recF_length _ _ | with_reducible exact publicF_length _ | with_reducible exact getD_mem_len (by assumption) (by omega) | (with_reducible exact List.length_replicate))) | rfl) | exact h.seen_old (by assumption) | exact h.seen_oldL (by assumption) (by assumption) | exact h.seen_fact (by repeat (first | exact List.mem_cons_self .. | apply List.mem_cons_of_mem))) OneC.h (by first | omega | (simp only [maxLen]; omega) | (simp only [List.length_append, List.length_cons, List.length_nil, List.length_take, maxLen]; omega) | (simp only [List.length_append, List.length_cons, List.length_nil, List.length_take]; omega)) (by first | omega | (simp only [maxLen]; omega) | (simp only [List.length_append, List.length_cons, List.length_nil, List.length_take, maxLen]; omega) | (simp only [List.length_append, List.length_cons, List.length_nil, List.length_take]; omega)) (hcs (ns ++ [b26])) (cat_snoc HT.c ns b26)) rfl (fun _ => skk rfl) (fun b28 p28 => ?_)
     refine wpd_p 10 rfl (by kernel_rfl) trivial (q_field Try.underlying25 rfl Try.ti23 rfl rfl _ rfl) rfl (skk rfl) ?_
     refine wpd_t0 11 rfl (by kernel_rfl) trivial (t_st1 Try.ti23 rfl rfl (SV.one (by first | assumption | exact SV.nil | exact SV.slv (by assumption) (by omega) (by omega) | exact arv_sv (by first | decide | (simp only [maxLen]; omega)))) (by first | decide | omega | exact Nat.zero_lt_one | (simp; omega) | (simp; done) | (simp only [v8s_length, v32s_length, vis_length, vns_length, v64s_length]; omega)) [.int .u8 (tg.toNat : Int), b10, b28] rfl) (fun _ => skk rfl) (fun _ => ?_)
     refine wpd_done (by kernel_rfl) ?_
     refine ex_block ?_
     refine ex_then ?_
     refine wpc_region ?_
     refine wpl_q (q_pure rfl) rfl ?_
     refine wpl_q (q_addN (b := 1) rfl rfl (by first | omega | (simp only [maxLen]; omega) | (simp only [List.length_append, List.length_cons, List.length_nil, List.length_take, maxLen]; omega) | (simp only [List.length_append, List.length_cons, List.length_nil, List.length_take]; omega))) rfl ?_
     refine wpl_q (q_pure rfl) rfl ?_
     refine wpl_nil ?_
     refine ex_again ⟨(i + 1, ns ++ [b26], b28), ⟨by omega, by rw [snoc_len, hi1], by rw [trs_append, hi2, trs_takeS hil, ← p26.1]; rfl, by rw [snoc_len]; exact p28⟩⟩ ?_ ?_ ?_
     ·
      exact (by repeat (first | exact trivial | refine ⟨rfl, ?_⟩))
     ·
      exact fun w h => by
        dsimp only
        rw [snoc_len]
        have h2 := h.sub (M' := .blk b3 25 [.int .u8 (tg.toNat : Int), b10, b28] :: .blk b2 25 [.int .u8 0, nl, nl] :: .blk b1 25 [.int .u8 (tg.toNat : Int), bv, lv] :: .row b10 bs.length 5 1 (v8s bs) :: .row b28 (ns.length + 1) 25 3 (hcs (ns ++ [b26])) :: (b26.ents ++ entsL ns)) (S' := []) SubC.h .nil
        exact h2.perm ((((((entsL_snoc ns b26).cons _).cons _).cons _).cons _).cons _)
     ·
      (show l.length - (i + 1) < l.length - i); omega
    ·
     simp only [decide_eq_false_iff_not] at hc16
     obtain rfl : i = l.length := by omega
     rw [List.take_length] at hi2
     haveI := oneH (t := tg) p10 hi3
     refine wpc_exit ?_
     refine ex_then_exit ?_
     refine ex_then_exit ?_
     refine ex_block_hit ?_
     refine ex_then ?_
     refine wpc_seq ?_
     refine wpc_region ?_
     refine wpl_q (q_ldN Try.underlying25 rfl Try.ti25 rfl LenC.h) rfl ?_
     refine wpl_t0 (t_stA Try.ti25 rfl rfl LenC.h OneC.h LenC.h) (fun _ => ?_)
     refine wpl_nil ?_
     refine ex_then ?_
     refine wpc_ret ?_
     refine retv1 (.inl rfl) rfl (rv_agg Try.underlying25 rfl Try.ti25 rfl (fun w h => h.atB) rfl) ?_
     exact fun w h => ⟨.nd tg b10 bs nv ns, ⟨by show Tr.nd tg bs (trs ns) = Tr.nd tg bs (trs l); rw [hi2], p10, hi3⟩, rfl, h.below, madeT (h.sub SubC.h .nil)⟩
theorem refTwin : ∀ (t : HT) (w : World), HSeen w.cell? t → Sm t.tr → Calls Try.prog 13 [.agg t.c.toArray].toArray w (GivesP w (fun y : HT => y.tr = t.tr ∧ y.sv) (fun y => .agg y.c.toArray) (fun y => y.ents) (fun _ => [])) := by
  intro t
  induction t using HT.ind with
  | _ tg bv bs lv l ih => intro w h hs; exact refTwin_step _ w h hs (fun x hx w hx' hs' => ih x hx w hx' hs')

set_option maxRecDepth 100000 in
theorem octTwin_step (t : HT) (w : World) (ht : HSeen w.cell? t) (hsm : Sm t.tr) (ih : ∀ x ∈ t.kids, ∀ (w : World), HSeen w.cell? x → Sm x.tr → Calls Try.prog 29 [.agg x.c.toArray].toArray w (GivesP w (fun y : HT => y.tr = x.tr ∧ y.sv) (fun y => .agg y.c.toArray) (fun y => y.ents) (fun _ => []))) :
    Calls Try.prog 29 [.agg t.c.toArray].toArray w (GivesP w (fun y : HT => y.tr = t.tr ∧ y.sv) (fun y => .agg y.c.toArray) (fun y => y.ents) (fun _ => [])) := by
  obtain ⟨tg, bv, bs, lv, l⟩ := t
  have hb := ht.1
  have hk := ht.2.1
  have svb := hb.sv
  have svl := hk.sv
  have lb := svb.le
  have ll := svl.le
  simp only [maxLen] at lb ll
  have hln := sm_len hsm
  refine enter (m := 29) (R := Mem w [] [] []) Try.func29 rfl rfl (Nat.le_of_ble_eq_true rfl) (Mem.start w) ?_
  refine wpc_seq ?_
  refine wpc_region ?_
  refine wpl_t (t_box rfl [.int .u8 (tg.toNat : Int), bv, lv] rfl) rfl (fun b1 => ?_)
  refine wpl_t (t_alloc Try.ti25 [.int .u8 0, nl, nl] rfl) rfl (fun b2 => ?_)
  refine wpl_nil ?_
  refine ex_then ?_
  refine wpc_cutc ({ x : Nat × Nat × Value × Value // (SV x.2.2.1 bs.length) ∧ (SV x.2.2.2 l.length) }) [] (fun x Lc => (1, .pointer (some ⟨x.1.1, 0, none⟩)) :: (2, .pointer (some ⟨x.1.2.1, 0, none⟩)) :: Lc) (fun x => Mem w [] [.blk x.1.1 25 [.int .u8 (tg.toNat : Int), x.1.2.2.1, x.1.2.2.2], .blk x.1.2.1 25 [.int .u8 0, nl, nl], .row x.1.2.2.1 bs.length 5 1 (v8s bs), .row x.1.2.2.2 l.length 25 3 (hcs l)] []) ?_ ?_
  ·
   refine wpc_draw 7 (by kernel_rfl) (fun _ h => h.drew) ?_
   refine wpd_p 0 rfl (by kernel_rfl) trivial (q_field Try.underlying25 rfl Try.ti22 rfl rfl _ rfl) rfl sk0 ?_
   refine wpd_q 1 rfl (by kernel_rfl) trivial (q_ld Try.underlying22 rfl rfl rfl) rfl (fun _ h => h) ?_
   refine wpd_p 3 rfl (by kernel_rfl) trivial (q_field Try.underlying25 rfl Try.ti23 rfl rfl _ rfl) rfl sk0 ?_
   refine wpd_q 4 rfl (by kernel_rfl) trivial (q_ld Try.underlying23 rfl rfl rfl) rfl (fun _ h => h) ?_
   refine wpd_tp 2 rfl (by kernel_rfl) trivial (t_callP1 Try.hb44 rfl fun w h => cloneB _ bs w (h.seen_old hb) hln.2) rfl (fun _ => (fun w h => .inr (h.sub SubC.h SubC.h))) (fun b7 p7 => ?_)
   refine wpd_p 6 rfl (by kernel_rfl) trivial (q_field Try.underlying25 rfl Try.ti22 rfl rfl _ rfl) rfl (fun w h => .inr (h.sub SubC.h SubC.h)) ?_
   refine wpd_tp 5 rfl (by kernel_rfl) trivial (t_callP1 Try.hb45 rfl fun w h => cloneO _ l w (h.seen_old hk) hln.1 ht.2.2.sv) rfl (fun _ => (fun w h => .inr (h.sub SubC.h SubC.h))) (fun b10 p10 => ?_)
   refine wpd_t0 7 rfl (by kernel_rfl) trivial (t_st1 Try.ti22 rfl rfl (SV.one (by first | assumption | exact SV.nil | exact SV.slv (by assumption) (by omega) (by omega) | exact arv_sv (by first | decide | (simp only [maxLen]; omega)))) (by first | decide | omega | exact Nat.zero_lt_one | (simp; omega) | (simp; done) | (simp only [v8s_length, v32s_length, vis_length, vns_length, v64s_length]; omega)) [.int .u8 (tg.toNat : Int), b7, lv] rfl) (fun _ => skk rfl) (fun _ => ?_)
   refine wpd_p 8 rfl (by kernel_rfl) trivial (q_field Try.underlying25 rfl Try.ti23 rfl rfl _ rfl) rfl (skk rfl) ?_
   refine wpd_t0 9 rfl (by kernel_rfl) trivial (t_st1 Try.ti23 rfl rfl (SV.one (by first | assumption | exact SV.nil | exact SV.slv (by assumption) (by omega) (by omega) | exact arv_sv (by first | decide | (simp only [maxLen]; omega)))) (by first | decide | omega | exact Nat.zero_lt_one | (simp; omega) | (simp; done) | (simp only [v8s_length, v32s_length, vis_length, vns_length, v64s_length]; omega)) [.int .u8 (tg.toNat : Int), b7, b10] rfl) (fun _ => skk rfl) (fun _ => ?_)
   refine wpd_done (by kernel_rfl) ?_
   refine ex_mid ⟨(b1, b2, b7, b10), ⟨p7, p10⟩⟩ ?_ ?_
   ·
    exact (by repeat (first | exact trivial | refine ⟨rfl, ?_⟩))
   ·
    exact fun w h => by dsimp only; exact h.sel
  ·
   rintro ⟨⟨b1, b2, nb, nv⟩, ⟨hi0, hi1⟩⟩; try dsimp only
   have hi0 : SV nb bs.length := hi0; have hi1 : SV nv l.length := hi1
   have snb : SV nb bs.length := hi0
   have snv : SV nv l.length := hi1
   haveI := oneH (t := tg) snb snv
   refine wpc_seq ?_
   refine wpc_seq ?_
   refine wpc_region ?_
   refine wpl_q (q_field Try.underlying25 rfl Try.ti23 rfl rfl _ rfl) rfl ?_
   refine wpl_q (q_ld Try.underlying23 rfl rfl rfl) rfl ?_
   refine wpl_q (q_lenW Try.underlying23 rfl (by first | assumption | exact SV.nil | exact SV.slv (by assumption) (by omega) (by omega) | exact arv_sv (by first | decide | (simp only [maxLen]; omega)))) rfl ?_
   refine wpl_q (q_pure rfl) rfl ?_
   refine wpl_nil ?_
   refine ex_then ?_
   refine wpc_block ?_
   refine wpc_loopc (ι := { x : Nat × List HT // (x.1 ≤ l.length) ∧ (x.2.length = x.1) ∧ (trs x.2 = trs (l.take x.1)) }) [(1, _), (2, _), (14, _), (15, _)] (fun x Lc => (16, .int .i64 ((x.1.1 : Nat) : Int)) :: Lc) (fun x => Mem w [] (.blk b1 25 [.int .u8 (tg.toNat : Int), nb, nv] :: .blk b2 25 [.int .u8 0, nl, nl] :: .row nb bs.length 5 1 (v8s bs) :: .row nv l.length 25 3 (hcs (x.1.2 ++ l.drop x.1.1)) :: entsL x.1.2) []) (fun x => l.length - x.1.1) ⟨(0, []), ⟨Nat.zero_le _, rfl, rfl⟩⟩ (by repeat (first | exact trivial | refine ⟨rfl, ?_⟩)) ?_ ?_
   ·
    exact fun w h => h
   ·
    rintro ⟨⟨i, ns⟩, ⟨hi0, hi1, hi2⟩⟩; try dsimp only
    have hi0 : i ≤ l.length := hi0; have hi1 : ns.length = i := hi1; have hi2 : trs ns = trs (l.take i) := hi2
    refine wpc_seq ?_
    refine wpc_region ?_
    refine wpl_q (q_pure rfl) rfl ?_
    refine wpl_nil ?_
    refine ex_then ?_
    refine wpc_seq ?_
    refine wpc_cond rfl (fun hc17 => ?_) (fun hc17 => ?_)
    ·
     simp only [decide_eq_true_eq] at hc17
     have hil : i < l.length := by omega
     haveI := (ht.kid hil).sv.one
     have hin : i < (ns ++ l.drop i).length := by rw [List.length_append, List.length_drop]; omega
     refine wpc_skip ?_
     refine ex_then ?_
     refine wpc_seq ?_
     refine wpc_block ?_
     refine wpc_seq ?_
     refine wpc_region ?_
     refine wpl_q (q_pure rfl) rfl ?_
     refine wpl_q (q_idxW Try.underlying23 Try.ti25 rfl rfl (by first | assumption | exact SV.nil | exact SV.slv (by assumption) (by omega) (by omega) | exact arv_sv (by first | decide | (simp only [maxLen]; omega))) (by first | omega | (simp only [maxLen]; omega) | (simp only [List.length_append, List.length_cons, List.length_nil, List.length_take, maxLen]; omega) | (simp only [List.length_append, List.length_cons, List.length_nil, List.length_take]; omega))) rfl ?_
     refine wpl_q (q_ldWN Try.underlying25 rfl Try.ti25 rfl (fun w h => h.seenV) (l.getD i HT.z).c (by rw [cat_part HT.c_length HT.z hin, tw_get hi1 hil]) (HT.c_length _)) rfl ?_
     refine wpl_t (t_alloc Try.ti25 [.int .u8 0, nl, nl] rfl) rfl (fun b4 => ?_)
     refine wpl_q (q_pure rfl) rfl ?_
     refine wpl_t0 (t_stA Try.ti25 rfl rfl LenC.h OneC.h LenC.h) (fun _ => ?_)
     refine wpl_nil ?_
     refine ex_then ?_
     refine wpc_draw 6 (by kernel_rfl) (fun _ h => h.drew) ?_
     refine wpd_p 0 rfl (by kernel_rfl) trivial (q_field Try.underlying25 rfl Try.ti23 rfl rfl _ rfl) rfl sk0 ?_
     refine wpd_q 1 rfl (by kernel_rfl) trivial (q_ld Try.underlying23 rfl rfl rfl) rfl (fun _ h => h) ?_
     refine wpd_p 2 rfl (by kernel_rfl) trivial (q_pure rfl) rfl sk0 ?_
     refine wpd_q 3 rfl (by kernel_rfl) trivial (q_ldN Try.underlying25 rfl Try.ti25 rfl LenC.h) rfl (fun _ h => h) ?_
     refine wpd_tp 4 rfl (by kernel_rfl) trivial (t_callE (fun y : HT => .blk b4 25 (l.getD i HT.z).c :: .blk b1 25 [.int .u8 (tg.toNat : Int), nb, nv] :: .blk b2 25 [.int .u8 0, nl, nl] :: .row nb bs.length 5 1 (v8s bs) :: .row nv l.length 25 3 (hcs (ns ++ l.drop i)) :: (y.ents ++ entsL ns)) (fun y => List.perm_append_comm_assoc y.ents [.blk b4 25 (l.getD i HT.z).c, .blk b1 25 [.int .u8 (tg.toNat : Int), nb, nv], .blk b2 25 [.int .u8 0, nl, nl], .row nb bs.length 5 1 (v8s bs), .row nv l.length 25 3 (hcs (ns ++ l.drop i))] (entsL ns)) Try.hb29 rfl fun w h => ih (l.getD i HT.z) (getD_memH hil) w ((ht.kid hil).old h) (hsm.kid hil)) rfl (fun _ => (fun w h => .inr (h.sub SubC.h SubC.h))) (fun b25 p25 => ?_)
     haveI := p25.2.one
     refine wpd_p 5 rfl (by kernel_rfl) trivial (q_idxW Try.underlying23 Try.ti25 rfl rfl (by first | assumption | exact SV.nil | exact SV.slv (by assumption) (by omega) (by omega) | exact arv_sv (by first | decide | (simp only [maxLen]; omega))) (by first | omega | (simp only [maxLen]; omega) | (simp only [List.length_append, List.length_cons, List.length_nil, List.length_take, maxLen]; omega) | (simp only [List.length_append, List.length_cons, List.length_nil, List.length_take]; omega))) rfl (fun w h => .inr (h.sub SubC.h SubC.h)) ?_
     refine wpd_t0 6 rfl (by kernel_rfl) trivial (t_stWN (vs := b25.c) Try.ti25 rfl rfl rfl (HT.c_length _) OneC.h (by rw [HT.c_length, cat_len HT.c_length, List.length_append, List.length_drop]; omega) (by rw [cat_len HT.c_length, List.length_append, List.length_drop]; omega) (hcs (ns ++ [b25] ++ l.drop (i + 1))) (tw_put hi1 hil b25)) (fun _ => skk rfl) (fun _ => ?_)
     refine wpd_done (by kernel_rfl) ?_
     refine ex_block ?_
     refine ex_then ?_
     refine wpc_region ?_
     refine wpl_q (q_addN (b := 1) rfl rfl (by first | omega | (simp only [maxLen]; omega) | (simp only [List.length_append, List.length_cons, List.length_nil, List.length_take, maxLen]; omega) | (simp only [List.length_append, List.length_cons, List.length_nil, List.length_take]; omega))) rfl ?_
     refine wpl_q (q_pure rfl) rfl ?_
     refine wpl_nil ?_
     refine ex_again ⟨(i + 1, ns ++ [b25]), ⟨by omega, by rw [snoc_len, hi1], by rw [trs_append, hi2, trs_takeS hil, ← p25.1]; rfl⟩⟩ ?_ ?_ ?_
     ·
      exact (by repeat (first | exact trivial | refine ⟨rfl, ?_⟩))
     ·
      exact fun w h => by
        dsimp only
        have h2 := h.sub (M' := .blk b1 25 [.int .u8 (tg.toNat : Int), nb, nv] :: .blk b2 25 [.int .u8 0, nl, nl] :: .row nb bs.length 5 1 (v8s bs) :: .row nv l.length 25 3 (hcs (ns ++ [b25] ++ l.drop (i + 1))) :: (b25.ents ++ entsL ns)) (S' := []) SubC.h .nil
        exact h2.perm (((((entsL_snoc ns b25).cons _).cons _).cons _).cons _)
     ·
      (show l.length - (i + 1) < l.length - i); omega
    ·
     simp only [decide_eq_false_iff_not] at hc17
     obtain rfl : i = l.length := by omega
     rw [List.take_length] at hi2
     refine wpc_exit ?_
     refine ex_then_exit ?_
     refine ex_then_exit ?_
     refine ex_block_hit ?_
     refine ex_then ?_
     refine wpc_seq ?_
     refine wpc_region ?_
     refine wpl_q (q_ldN Try.underlying25 rfl Try.ti25 rfl LenC.h) rfl ?_
     refine wpl_t0 (t_stA Try.ti25 rfl rfl LenC.h OneC.h LenC.h) (fun _ => ?_)
     refine wpl_nil ?_
     refine ex_then ?_
     refine wpc_ret ?_
     refine retv1 (.inl rfl) rfl (rv_agg Try.underlying25 rfl Try.ti25 rfl (fun w h => h.atB) rfl) ?_
     exact fun w h => ⟨.nd tg nb bs nv ns, ⟨by show Tr.nd tg bs (trs ns) = Tr.nd tg bs (trs l); rw [hi2], snb, by rw [hi1]; exact snv⟩, rfl, h.below, by rw [List.drop_length, List.append_nil, ← hi1] at h; exact madeT (h.sub SubC.h .nil)⟩
theorem octTwin : ∀ (t : HT) (w : World), HSeen w.cell? t → Sm t.tr → Calls Try.prog 29 [.agg t.c.toArray].toArray w (GivesP w (fun y : HT => y.tr = t.tr ∧ y.sv) (fun y => .agg y.c.toArray) (fun y => y.ents) (fun _ => [])) := by
  intro t
  induction t using HT.ind with
  | _ tg bv bs lv l ih => intro w h hs; exact octTwin_step _ w h hs (fun x hx w hx' hs' => ih x hx w hx' hs')

end Go.Proofs.Ytommkigkkeailaa
