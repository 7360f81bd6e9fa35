/- A script played. -/
import Derived.Test.YtoaeklbenmlooaaKAC
import Derived.Test.YtoaeklbenmlooaaPLL
namespace Go.Proofs.Ytoaeklbenmlooaa
set_option linter.unusedSimpArgs false
set_option linter.unusedVariables false
open Go Go.PL Go.RowKit

def Stp.z : Stp := ⟨0, 0, 0⟩
theorem Stp.c_length (x : Stp) : x.c.length = 3 := rfl
theorem Stp.one (x : Stp) : ∀ u ∈ x.c, u.oneCell' = true := by
  intro u hu
  simp only [Stp.c, List.mem_cons, List.not_mem_nil, or_false] at hu
  rcases hu with rfl | rfl | rfl <;> rfl
theorem resC_one (r : Int × Int) : ∀ u ∈ resC r, u.oneCell' = true := by
  intro u hu
  simp only [resC, List.mem_cons, List.not_mem_nil, or_false] at hu
  rcases hu with rfl | rfl <;> rfl
abbrev scs (l : List Stp) : List Value := (l.map Stp.c).flatten
theorem rcs_snoc (rs : List (Int × Int)) (r : Int × Int) : rcs rs ++ resC r = rcs (rs ++ [r]) := cat_snoc resC rs r
abbrev rRow (v : Value) (rs : List (Int × Int)) : Ent := .row v rs.length 61 2 (rcs rs)
theorem rRow_snoc (v : Value) (rs : List (Int × Int)) (r : Int × Int) : rRow v (rs ++ [r]) = .row v (rs.length + 1) 61 2 (rcs (rs ++ [r])) := by rw [rRow, List.length_append]; rfl
/-- What a script does. -/
def runF : List Stp → St → List (Int × Int) × St
  | [], s => ([], s)
  | x :: l, s => (((stepF s x).1, (stepF s x).2.2) :: (runF l (stepF s x).2.1).1, (runF l (stepF s x).2.1).2)
theorem runF_snoc : ∀ (l : List Stp) (x : Stp) (s : St), runF (l ++ [x]) s = ((runF l s).1 ++ [((stepF (runF l s).2 x).1, (stepF (runF l s).2 x).2.2)], (stepF (runF l s).2 x).2.1)
  | [], x, s => rfl
  | y :: l, x, s => by
    show ((_ :: (runF (l ++ [x]) _).1, (runF (l ++ [x]) _).2) : List (Int × Int) × St) = _
    rw [runF_snoc l x]; rfl
theorem runF_len : ∀ (l : List Stp) (s : St), (runF l s).1.length = l.length
  | [], _ => rfl
  | _ :: l, s => by show ((_ :: (runF l _).1) : List (Int × Int)).length = _; rw [List.length_cons, runF_len l, List.length_cons]
theorem runF_next {l : List Stp} {i : Nat} {s0 s : St} {rs : List (Int × Int)} (h : i < l.length) (hr : (rs, s) = runF (l.take i) s0) : (rs ++ [((stepF s (l.getD i Stp.z)).1, (stepF s (l.getD i Stp.z)).2.2)], (stepF s (l.getD i Stp.z)).2.1) = runF (l.take (i + 1)) s0 := by
  rw [List.take_add_one, List.getElem?_eq_getElem h, Option.toList_some, runF_snoc, ← hr, List.getD_eq_getElem?_getD, List.getElem?_eq_getElem h]; rfl
structure Bs (s : St) : Prop where
  m : s.ms.length = 32
  d : s.dk.length ≤ 1100
  p : s.pd.length ≤ 1100
  k : s.ks.length ≤ 20
theorem zBs : Bs St.z := ⟨rfl, by decide, by decide, by decide⟩
theorem up_ks {s : St} {b : Bool} (h : upF s b = 0) : s.dk.length + s.pd.length ≤ 1000 ∧ s.ks.length ≤ 8 := by
  obtain ⟨h1, h2⟩ := upF_ok h
  refine ⟨h1.2.2.1, ?_⟩
  cases hu : s.up with
  | false => rw [(h1.2.2.2.1 hu).2]; decide
  | true => rw [← (h1.2.2.2.2 hu).2.2.1]; exact (scanR_ok _).1
theorem writeF_bs {s : St} {bs : List UInt8} (h : Bs s) (hb : bs.length = 10) : Bs (writeF s bs).1 := by
  unfold writeF; split
  · exact zBs
  · exact ⟨h.m, h.d, by show (s.pd ++ bs).length ≤ 1100; rw [List.length_append]; omega, h.k⟩
theorem createF_bs {s : St} {id : UInt32} {ht : Int} (h : Bs s) : Bs (createF s id ht).1 := by
  unfold createF
  split
  · exact zBs
  · rename_i hu
    have hk := up_ks (Decidable.not_not.1 hu)
    split
    · exact zBs
    · split
      · exact zBs
      · split
        · exact zBs
        · exact writeF_bs ⟨h.m, h.d, h.p, by show (s.ks ++ [_]).length ≤ 20; rw [List.length_append, List.length_singleton]; omega⟩ (recB_length _)
theorem reserveF_bs {s : St} {id : UInt32} (h : Bs s) : Bs (reserveF s id).1 := by
  unfold reserveF; split
  · exact zBs
  · split
    · exact zBs
    · exact writeF_bs ⟨h.m, h.d, h.p, by show (s.ks.set _ _).length ≤ 20; rw [List.length_set]; exact h.k⟩ (recB_length _)
theorem dropF_bs {s : St} {id : UInt32} (h : Bs s) : Bs (dropF s id).1 := by
  unfold dropF; split
  · exact zBs
  · exact writeF_bs ⟨h.m, h.d, h.p, by show (s.ks.set _ _).length ≤ 20; rw [List.length_set]; exact h.k⟩ (recB_length _)
theorem syncF_bs {s : St} (h : Bs s) : Bs (syncF s).1 := by
  unfold syncF; split
  · exact zBs
  · rename_i hu
    have hk := up_ks (Decidable.not_not.1 hu)
    exact ⟨h.m, by show (s.dk ++ s.pd).length ≤ 1100; rw [List.length_append]; omega, Nat.zero_le _, by show (durT s.ks s.ks.length).length ≤ 20; rw [durT_len]; exact h.k⟩
theorem crashF_bs {s : St} {k : Int} (h : Bs s) : Bs (crashF s k).1 := by
  unfold crashF; split
  · exact zBs
  · rename_i hu
    have hk := up_ks (Decidable.not_not.1 hu)
    split
    · exact zBs
    · exact ⟨h.m, by show (s.dk ++ s.pd.take k.toNat).length ≤ 1100; rw [List.length_append, List.length_take]; omega, Nat.zero_le _, Nat.zero_le _⟩
theorem openF_bs {s : St} (h : Bs s) : Bs (openF s).1 := by
  unfold openF; split
  · exact zBs
  · exact ⟨h.m, by show (s.dk.take _).length ≤ 1100; rw [List.length_take]; have := h.d; omega, h.p, by show (scanR s.dk).1.length ≤ 20; have := (scanR_ok s.dk).1; omega⟩
theorem takeF_bs {s : St} {id : UInt32} (h : Bs s) : Bs (takeF s id).2.1 := by
  unfold takeF; split
  · exact zBs
  · split
    · exact zBs
    · split
      · exact zBs
      · exact ⟨h.m, h.d, h.p, by show (s.ks.set _ _).length ≤ 20; rw [List.length_set]; exact h.k⟩
theorem stepF_bs {s : St} {x : Stp} (h : Bs s) : Bs (stepF s x).2.1 := by
  unfold stepF; split
  · exact h
  · show Bs (doF s x).2.1
    unfold doF
    split
    · exact createF_bs h
    · split
      · exact reserveF_bs h
      · split
        · exact dropF_bs h
        · split
          · exact syncF_bs h
          · split
            · exact crashF_bs h
            · split
              · exact openF_bs h
              · split
                · exact takeF_bs h
                · exact zBs
theorem runF_bs : ∀ (l : List Stp) {s : St}, Bs s → Bs (runF l s).2
  | [], _, h => h
  | _ :: l, _, h => runF_bs l (stepF_bs h)
theorem newF_bs {m : List UInt8} {n : Int} (h : m.length = 32) : Bs (newF m n).1 := by
  obtain ⟨h1, h2, h3⟩ := newF_nil m n
  exact ⟨newF_len h, by rw [h1]; decide, by rw [h2]; decide, by rw [h3]; decide⟩
def playF (m : List UInt8) (n : Int) (l : List Stp) : List (Int × Int) × St × Int :=
  if ¬ (newF m n).2 = 0 then ([], St.z, (newF m n).2) else if 300 < l.length then ([], St.z, 4) else ((runF l (newF m n).1).1, (runF l (newF m n).1).2, 0)
theorem pl1 {m : List UInt8} {n : Int} {l : List Stp} (h : ¬ (newF m n).2 = 0) : playF m n l = ([], St.z, (newF m n).2) := if_pos h
theorem pl2 {m : List UInt8} {n : Int} {l : List Stp} (h : (newF m n).2 = 0) (h2 : 300 < l.length) : playF m n l = ([], St.z, 4) := by unfold playF; rw [if_neg (fun hh => hh h), if_pos h2]
theorem pl3 {m : List UInt8} {n : Int} {l : List Stp} (h : (newF m n).2 = 0) (h2 : ¬ 300 < l.length) : playF m n l = ((runF l (newF m n).1).1, (runF l (newF m n).1).2, 0) := by unfold playF; rw [if_neg (fun hh => hh h), if_neg h2]
theorem playF_bs {m : List UInt8} {n : Int} {l : List Stp} (h : m.length = 32) : Bs (playF m n l).2.1 := by
  unfold playF; split
  · exact zBs
  · split
    · exact zBs
    · exact runF_bs l (newF_bs h)
theorem pl_new {m : List UInt8} {n : Int} (h : (newF m n).2 = 0) : (newF m n).1 = ⟨m, n, true, [], [], []⟩ := by
  unfold newF at *; split at h
  · cases h
  · rename_i hh; rw [if_neg hh]
theorem zRows4 {w0 w : World} {Ln : List Nat} {M : List Ent} {S : List Fact} (h : Mem w0 Ln M S w) : Mem w0 Ln [rRow nl [], dRow nl St.z.dk, dRow nl St.z.pd, kRow nl St.z.ks] [] w := (zRows h).nilRow 61 2
instance lenC_res {r : Int × Int} : LenC (resC r) 2 := ⟨rfl⟩
instance oneC_res {r : Int × Int} : OneC (resC r) := ⟨resC_one r⟩
instance oneC_rs {rs : List (Int × Int)} : OneC (rcs rs) := ⟨cat_one resC_one rs⟩
instance oneC_sc {l : List Stp} : OneC (scs l) := ⟨cat_one Stp.one l⟩
instance l32_n {m : List UInt8} {n : Int} [h : LenL m 32] : L32 (newF m n).1 := ⟨newF_len h.h⟩
theorem L32.bs {s : St} (h : Bs s) : L32 s := ⟨h.m⟩
instance l32_stp {s : St} {x : Stp} [h : L32 s] : L32 (stepF s x).2.1 := ⟨by
  unfold stepF; split
  · exact h.h
  · show (doF s x).2.1.ms.length = 32
    unfold doF
    split
    · exact createF_len h.h
    · split
      · exact reserveF_len h.h
      · split
        · exact dropF_len h.h
        · split
          · exact syncF_len h.h
          · split
            · exact crashF_len h.h
            · split
              · exact openF_len h.h
              · split
                · exact takeF_len h.h
                · rfl⟩
theorem svl_at {v : Value} {n : Nat} (h : SV v n) {m : Nat} (e : n = m) : SV v m := e ▸ h

set_option maxRecDepth 100000 in
theorem play (m : List UInt8) (n : Int) (lv : Value) (l : List Stp) (w : World) (hm : m.length = 32) (hlv : Seen w.cell? lv l.length 3 (scs l))  :
    Calls Try.prog 31 [.agg (v8s m).toArray, .int .i64 n, lv].toArray w (GivesP w (fun y : Value × V3 => SV y.1 (playF m n l).1.length ∧ (playF m n l).2.1.sv y.2) (fun y => .tuple #[y.1, stV (playF m n l).2.1 y.2, .int .i64 (playF m n l).2.2]) (fun y => [rRow y.1 (playF m n l).1, dRow y.2.1 (playF m n l).2.1.dk, dRow y.2.2.1 (playF m n l).2.1.pd, kRow y.2.2.2 (playF m n l).2.1.ks]) (fun _ => [])) := by
  have slv := hlv.sv
  have lllv := slv.le
  simp only [maxLen] at lllv
  haveI : LenL m 32 := ⟨hm⟩
  refine enter (m := 50) (R := Mem w [] [] []) Try.func31 rfl rfl (Nat.le_of_ble_eq_true rfl) (Mem.start w) ?_
  refine wpc_seq ?_
  refine wpc_region ?_
  refine wpl_t (t_box rfl (v8s m) rfl) rfl (fun b3 => ?_)
  refine wpl_q (q_pure rfl) rfl ?_
  refine wpl_t (t_alloc Try.ti27 (St.z.c nl nl nl) rfl) rfl (fun b7 => ?_)
  refine wpl_q (q_pure rfl) rfl ?_
  refine wpl_nil ?_
  refine ex_then ?_
  refine wpc_seq ?_
  refine wpc_region ?_
  refine wpl_q (q_ldN Try.underlying23 rfl Try.ti23 rfl LenC.h) rfl ?_
  refine wpl_q (q_pure rfl) rfl ?_
  refine wpl_t (t_pur Try.hb27 rfl fun w h => new_ _ _ w (by assumption)) rfl (fun b15 => ?_)
  refine wpl_q (q_pure rfl) rfl ?_
  refine wpl_q (q_pure rfl) rfl ?_
  refine wpl_q (q_pure rfl) rfl ?_
  refine wpl_t0 (t_stA Try.ti27 rfl rfl LenC.h OneC.h LenC.h) (fun _ => ?_)
  refine wpl_q (q_pure rfl) rfl ?_
  refine wpl_nil ?_
  refine ex_then ?_
  refine wpc_seq ?_
  refine wpc_block ?_
  refine wpc_seq ?_
  refine wpc_region ?_
  refine wpl_q (q_pure rfl) rfl ?_
  refine wpl_q (q_pure rfl) rfl ?_
  refine wpl_q (q_pure rfl) rfl ?_
  refine wpl_nil ?_
  refine ex_then ?_
  refine wpc_cond rfl (fun hc18 => ?_) (fun hc18 => ?_)
  ·
   simp only [bne_iff_ne, ne_eq] at hc18
   refine wpc_seq ?_
   refine wpc_region ?_
   refine wpl_q (q_build (cs := St.z.c nl nl nl) rfl built_st0) rfl ?_
   refine wpl_q (q_pure rfl) rfl ?_
   refine wpl_q (q_pure rfl) rfl ?_
   refine wpl_t0 (t_stA Try.ti27 rfl rfl LenC.h OneC.h LenC.h) (fun _ => ?_)
   refine wpl_q (q_pure rfl) rfl ?_
   refine wpl_nil ?_
   refine ex_then ?_
   refine wpc_ret ?_
   refine ex_block_ret ?_
   refine ex_then_ret ?_
   refine retv3 (.inl rfl) rfl (rv_tmp rfl) (rv_agg Try.underlying27 rfl Try.ti27 rfl (fun w h => h.atB) LenC.h) (rv_tmp rfl) ?_
   exact fun w h => ⟨(nl, nl, nl, nl), by rw [pl1 hc18]; exact ⟨SV.nil, zSV⟩, by rw [pl1 hc18]; first | done | rfl, h.below, by rw [pl1 hc18]; exact (zRows4 h).made SubC.h .nil⟩
  ·
   simp only [bne_eq_false_iff_eq] at hc18
   have hnw := hc18
   refine wpc_seq ?_
   refine wpc_region ?_
   refine wpl_q (q_pure rfl) rfl ?_
   refine wpl_q (q_lenW Try.underlying56 rfl (by first | assumption | exact SV.nil | exact SV.slv (by assumption) (by omega) (by omega) | exact arv_sv (by first | decide | (simp only [maxLen]; omega)))) rfl ?_
   refine wpl_q (q_pure rfl) rfl ?_
   refine wpl_q (q_pure rfl) rfl ?_
   refine wpl_nil ?_
   refine ex_then ?_
   refine wpc_cond rfl (fun hc23 => ?_) (fun hc23 => ?_)
   ·
    simp only [decide_eq_true_eq] at hc23
    refine wpc_seq ?_
    refine wpc_region ?_
    refine wpl_q (q_build (cs := St.z.c nl nl nl) rfl built_st0) rfl ?_
    refine wpl_q (q_pure rfl) rfl ?_
    refine wpl_t0 (t_stA Try.ti27 rfl rfl LenC.h OneC.h LenC.h) (fun _ => ?_)
    refine wpl_q (q_pure rfl) rfl ?_
    refine wpl_nil ?_
    refine ex_then ?_
    refine wpc_ret ?_
    refine ex_block_ret ?_
    refine ex_then_ret ?_
    refine retv3 (.inl rfl) rfl (rv_tmp rfl) (rv_agg Try.underlying27 rfl Try.ti27 rfl (fun w h => h.atB) LenC.h) (rv_tmp rfl) ?_
    exact fun w h => ⟨(nl, nl, nl, nl), by rw [pl2 hnw (by omega)]; exact ⟨SV.nil, zSV⟩, by rw [pl2 hnw (by omega)]; first | done | rfl, h.below, by rw [pl2 hnw (by omega)]; exact (zRows4 h).made SubC.h .nil⟩
   ·
    simp only [decide_eq_false_iff_not] at hc23
    have hsh : ¬ 300 < l.length := by omega
    refine wpc_skip ?_
    refine ex_block ?_
    refine ex_then ?_
    refine wpc_seq ?_
    refine wpc_seq ?_
    refine wpc_region ?_
    refine wpl_q (q_pure rfl) rfl ?_
    refine wpl_q (q_lenW Try.underlying56 rfl (by first | assumption | exact SV.nil | exact SV.slv (by assumption) (by omega) (by omega) | exact arv_sv (by first | decide | (simp only [maxLen]; omega)))) rfl ?_
    refine wpl_q (q_pure rfl) rfl ?_
    refine wpl_nil ?_
    refine ex_then ?_
    refine wpc_block ?_
    refine wpc_loopc (ι := { x : Nat × St × V3 × Value × List (Int × Int) // (x.1 ≤ l.length) ∧ ((x.2.2.2.2, x.2.1) = runF (l.take x.1) (newF m n).1) ∧ (SV x.2.2.2.1 x.2.2.2.2.length) ∧ (x.2.1.sv x.2.2.1) ∧ (Bs x.2.1) }) [(7, _), (28, _), (29, _)] (fun x Lc => (30, .int .i64 ((x.1.1 : Nat) : Int)) :: (6, x.1.2.2.2.1) :: Lc) (fun x => Mem w [] [.blk b7 27 (x.1.2.1.c x.1.2.2.1.1 x.1.2.2.1.2.1 x.1.2.2.1.2.2), rRow x.1.2.2.2.1 x.1.2.2.2.2, dRow x.1.2.2.1.1 x.1.2.1.dk, dRow x.1.2.2.1.2.1 x.1.2.1.pd, kRow x.1.2.2.1.2.2 x.1.2.1.ks] []) (fun x => l.length - x.1.1) ⟨(0, (newF m n).1, (nl, nl, nl), nl, []), ⟨Nat.zero_le _, rfl, SV.nil, by obtain ⟨e1, e2, e3⟩ := newF_nil m n; exact ⟨by rw [e1]; exact SV.nil, by rw [e2]; exact SV.nil, by rw [e3]; exact SV.nil⟩, newF_bs hm⟩⟩ (by repeat (first | exact trivial | refine ⟨rfl, ?_⟩)) ?_ ?_
    ·
     exact fun w h => by
       obtain ⟨e1, e2, e3⟩ := newF_nil m n
       have h2 : Mem _ _ [.blk b7 27 ((newF m n).1.c nl nl nl)] [] w := h.sub SubC.h .nil
       dsimp only
       rw [e1, e2, e3]
       have h3 : Mem _ _ [rRow nl [], dRow nl [], dRow nl [], kRow nl [], .blk b7 27 ((newF m n).1.c nl nl nl)] [] w := ((((h2.nilRow 66 6).nilRow 5 1).nilRow 5 1).nilRow 61 2)
       exact h3.sel
    ·
     rintro ⟨⟨i, s, y, v, rs⟩, ⟨hi0, hi1, hi2, hi3, hi4⟩⟩; try dsimp only
     have hi0 : i ≤ l.length := hi0; have hi1 : (rs, s) = runF (l.take i) (newF m n).1 := hi1; have hi2 : SV v rs.length := hi2; have hi3 : s.sv y := hi3; have hi4 : Bs s := hi4
     have hrl : rs.length = i := by
       have e := congrArg (fun p : List (Int × Int) × St => p.1.length) hi1
       simp only [runF_len, List.length_take] at e
       omega
     haveI : L32 s := ⟨hi4.m⟩
     haveI := OneC.sv hi3
     refine wpc_seq ?_
     refine wpc_region ?_
     refine wpl_q (q_pure rfl) rfl ?_
     refine wpl_nil ?_
     refine ex_then ?_
     refine wpc_seq ?_
     refine wpc_cond rfl (fun hc31 => ?_) (fun hc31 => ?_)
     ·
      simp only [decide_eq_true_eq] at hc31
      have hil : i < l.length := by omega
      refine wpc_skip ?_
      refine ex_then ?_
      refine wpc_seq ?_
      refine wpc_block ?_
      refine wpc_seq ?_
      refine wpc_region ?_
      refine wpl_q (q_idxW Try.underlying56 Try.ti58 rfl rfl (by first | assumption | exact SV.nil | exact SV.slv (by assumption) (by omega) (by omega) | exact arv_sv (by first | decide | (simp only [maxLen]; omega))) (by first | omega | (simp only [maxLen]; omega) | (simp only [List.length_append, List.length_cons, List.length_nil, List.length_take, maxLen]; omega) | (simp only [List.length_append, List.length_cons, List.length_nil, List.length_take]; omega))) rfl ?_
      refine wpl_q (q_ldWN Try.underlying58 rfl Try.ti58 rfl (fun w h => h.seen_old hlv) (l.getD i Stp.z).c (cat_part Stp.c_length Stp.z hil) rfl) rfl ?_
      refine wpl_t (t_alloc Try.ti58 Stp.z.c rfl) rfl (fun b10 => ?_)
      refine wpl_t0 (t_stA Try.ti58 rfl rfl LenC.h OneC.h LenC.h) (fun _ => ?_)
      refine wpl_nil ?_
      refine ex_then ?_
      refine wpc_seq ?_
      refine wpc_region ?_
      refine wpl_t (t_alloc Try.ti61 [.int .i64 0, .int .i64 0] rfl) rfl (fun b11 => ?_)
      refine wpl_nil ?_
      refine ex_then ?_
      refine wpc_seq ?_
      refine wpc_region ?_
      refine wpl_q (q_ldN Try.underlying27 rfl Try.ti27 rfl LenC.h) rfl ?_
      refine wpl_q (q_ldN Try.underlying58 rfl Try.ti58 rfl LenC.h) rfl ?_
      refine wpl_tp (t_callL [dRow y.1 s.dk, dRow y.2.1 s.pd, kRow y.2.2 s.ks] [.blk b11 61 [.int .i64 0, .int .i64 0], .blk b10 58 (l.getD i Stp.z).c, .blk b7 27 (s.c y.1 y.2.1 y.2.2), rRow v rs] [dRow y.1 s.dk, dRow y.2.1 s.pd, kRow y.2.2 s.ks, .blk b11 61 [.int .i64 0, .int .i64 0], .blk b10 58 (l.getD i Stp.z).c, .blk b7 27 (s.c y.1 y.2.1 y.2.2), rRow v rs] (fun x => [dRow x.1 (stepF s (l.getD i Stp.z)).2.1.dk, dRow x.2.1 (stepF s (l.getD i Stp.z)).2.1.pd, kRow x.2.2 (stepF s (l.getD i Stp.z)).2.1.ks, .blk b11 61 [.int .i64 0, .int .i64 0], .blk b10 58 (l.getD i Stp.z).c, .blk b7 27 (s.c y.1 y.2.1 y.2.2), rRow v rs]) rfl inferInstance (fun _ => rfl) Try.hb55 rfl fun w h h2 => step_ s y.1 y.2.1 y.2.2 (l.getD i Stp.z) w h2 hi4.m hi3 (by have := hi4.d; omega) (by have := hi4.p; omega) (by have := hi4.k; omega)) rfl (fun b37 p37 => ?_)
      haveI := OneC.sv p37
      refine wpl_q (q_pure rfl) rfl ?_
      refine wpl_q (q_pure rfl) rfl ?_
      refine wpl_q (q_pure rfl) rfl ?_
      refine wpl_q (q_pure rfl) rfl ?_
      refine wpl_q (q_field Try.underlying61 rfl Try.ti3 rfl rfl _ rfl) rfl ?_
      refine wpl_t0 (t_st1 Try.ti3 rfl rfl rfl (by first | decide | omega | exact Nat.zero_lt_one | (simp; omega) | (simp; done) | (simp only [v8s_length, v32s_length, vis_length, vns_length, v64s_length]; omega)) _ rfl) (fun _ => ?_)
      refine wpl_t0 (t_stA Try.ti27 rfl rfl LenC.h OneC.h LenC.h) (fun _ => ?_)
      refine wpl_q (q_field Try.underlying61 rfl Try.ti31 rfl rfl _ rfl) rfl ?_
      refine wpl_t0 (t_st1 Try.ti31 rfl rfl rfl (by first | decide | omega | exact Nat.zero_lt_one | (simp; omega) | (simp; done) | (simp only [v8s_length, v32s_length, vis_length, vns_length, v64s_length]; omega)) _ (by first | exact vns_set _ | rfl)) (fun _ => ?_)
      refine wpl_nil ?_
      refine ex_then ?_
      refine wpc_region ?_
      refine wpl_q (q_pure rfl) rfl ?_
      refine wpl_q (q_ldN Try.underlying61 rfl Try.ti61 rfl rfl) rfl ?_
      refine wpl_tp (t_bsG [.agg (resC ((stepF s (l.getD i Stp.z)).1, (stepF s (l.getD i Stp.z)).2.2)).toArray] (resC ((stepF s (l.getD i Stp.z)).1, (stepF s (l.getD i Stp.z)).2.2)) Try.underlying53 Try.ti61 rfl (by decide) rfl (by decide) (by decide) rfl (by intro v hv; rw [List.mem_singleton] at hv; subst hv; rfl) (List.append_nil _)) rfl (fun b45 p45 => ?_)
      refine wpl_tp (t_apW Try.underlying53 Try.ti61 rfl (by decide) rfl rfl (fun w h => by first | exact h.seenV | exact h.seenA (by first | decide | (simp only [maxLen]; omega)) (by first | with_reducible rfl | (simp only [v8s_length, v32s_length, vis_length, vns_length, v64s_length, List.length_replicate]; first | done | with_reducible assumption | omega) | (rw [v8s_length]; (first | with_reducible assumption | with_reducible exact shortF_length _ | with_reducible exact stepF_length _ _ _ | with_reducible exact sumF_length _ | with_reducible exact climbF_length _ (by first | with_reducible assumption | with_reducible exact shortF_length _ | with_reducible exact beginF_length _ _ | with_reducible exact getD_mem_len (by assumption) (by omega)) _ _ _ | with_reducible exact beginF_length _ _ | with_reducible exact chainF_length _ _ _ | with_reducible exact recF_length _ _ | with_reducible exact publicF_length _ | with_reducible exact getD_mem_len (by assumption) (by omega) | (with_reducible exact List.length_replicate))) | rfl) | exact h.seen_old (by assumption) | exact h.seen_oldL (by assumption) (by assumption) | exact h.seen_fact (by repeat (first | exact List.mem_cons_self .. | apply List.mem_cons_of_mem))) OneC.h (by first | omega | (simp only [maxLen]; omega) | (simp only [List.length_append, List.length_cons, List.length_nil, List.length_take, maxLen]; omega) | (simp only [List.length_append, List.length_cons, List.length_nil, List.length_take]; omega)) (by first | omega | (simp only [maxLen]; omega) | (simp only [List.length_append, List.length_cons, List.length_nil, List.length_take, maxLen]; omega) | (simp only [List.length_append, List.length_cons, List.length_nil, List.length_take]; omega)) (rcs (rs ++ [((stepF s (l.getD i Stp.z)).1, (stepF s (l.getD i Stp.z)).2.2)])) (rcs_snoc _ _)) rfl (fun b46 p46 => ?_)
      refine wpl_q (q_pure rfl) rfl ?_
      refine wpl_nil ?_
      refine ex_block ?_
      refine ex_then ?_
      refine wpc_region ?_
      refine wpl_q (q_addN (b := 1) rfl rfl (by first | omega | (simp only [maxLen]; omega) | (simp only [List.length_append, List.length_cons, List.length_nil, List.length_take, maxLen]; omega) | (simp only [List.length_append, List.length_cons, List.length_nil, List.length_take]; omega))) rfl ?_
      refine wpl_q (q_pure rfl) rfl ?_
      refine wpl_nil ?_
      refine ex_again ⟨(i + 1, (stepF s (l.getD i Stp.z)).2.1, b37, b46, rs ++ [((stepF s (l.getD i Stp.z)).1, (stepF s (l.getD i Stp.z)).2.2)]), ⟨by omega, runF_next hil hi1, svl_at p46 (by rw [List.length_append]; rfl), p37, stepF_bs hi4⟩⟩ ?_ ?_ ?_
      ·
       exact (by repeat (first | exact trivial | refine ⟨rfl, ?_⟩))
      ·
       exact fun w h => by dsimp only; rw [rRow_snoc]; exact h.sel
      ·
       (show l.length - (i + 1) < l.length - i); omega
     ·
      simp only [decide_eq_false_iff_not] at hc31
      obtain rfl : i = l.length := by omega
      rw [List.take_length] at hi1
      refine wpc_exit ?_
      refine ex_then_exit ?_
      refine ex_then_exit ?_
      refine ex_block_hit ?_
      refine ex_then ?_
      refine wpc_seq ?_
      refine wpc_draw 3 (by kernel_rfl) (fun _ h => h.drew) ?_
      refine wpd_p 0 rfl (by kernel_rfl) trivial (q_pure rfl) rfl sk0 ?_
      refine wpd_q 1 rfl (by kernel_rfl) trivial (q_ldN Try.underlying27 rfl Try.ti27 rfl LenC.h) rfl (fun _ h => h) ?_
      refine wpd_p 2 rfl (by kernel_rfl) trivial (q_pure rfl) rfl sk0 ?_
      refine wpd_t0 3 rfl (by kernel_rfl) trivial (t_stA Try.ti27 rfl rfl LenC.h OneC.h LenC.h) (fun _ => skk rfl) (fun _ => ?_)
      refine wpd_p 4 rfl (by kernel_rfl) trivial (q_pure rfl) rfl (skk rfl) ?_
      refine wpd_done (by kernel_rfl) ?_
      refine ex_then ?_
      refine wpc_ret ?_
      refine retv3 (.inl rfl) rfl (rv_tmp rfl) (rv_agg Try.underlying27 rfl Try.ti27 rfl (fun w h => h.atB) LenC.h) (rv_tmp rfl) ?_
      exact fun w h => ⟨(v, y), by rw [pl3 hnw hsh, ← hi1]; exact ⟨hi2, hi3⟩, by rw [pl3 hnw hsh, ← hi1]; first | done | rfl, h.below, by rw [pl3 hnw hsh, ← hi1]; exact h.sel.made (Sub.refl _) .nil⟩

set_option maxRecDepth 100000 in
theorem refPlay (m : List UInt8) (n : Int) (lv : Value) (l : List Stp) (w : World) (hm : m.length = 32) (hlv : Seen w.cell? lv l.length 3 (scs l))  :
    Calls Try.prog 36 [.agg (v8s m).toArray, .int .i64 n, lv].toArray w (GivesP w (fun y : Value × V3 => SV y.1 (playF m n l).1.length ∧ (playF m n l).2.1.sv y.2) (fun y => .tuple #[y.1, stV (playF m n l).2.1 y.2, .int .i64 (playF m n l).2.2]) (fun y => [rRow y.1 (playF m n l).1, dRow y.2.1 (playF m n l).2.1.dk, dRow y.2.2.1 (playF m n l).2.1.pd, kRow y.2.2.2 (playF m n l).2.1.ks]) (fun _ => [])) := by
  have slv := hlv.sv
  have lllv := slv.le
  simp only [maxLen] at lllv
  haveI : LenL m 32 := ⟨hm⟩
  refine enter (m := 51) (R := Mem w [] [] []) Try.func36 rfl rfl (Nat.le_of_ble_eq_true rfl) (Mem.start w) ?_
  refine wpc_seq ?_
  refine wpc_region ?_
  refine wpl_t (t_box rfl (v8s m) rfl) rfl (fun b3 => ?_)
  refine wpl_q (q_pure rfl) rfl ?_
  refine wpl_t (t_alloc Try.ti27 (St.z.c nl nl nl) rfl) rfl (fun b7 => ?_)
  refine wpl_q (q_pure rfl) rfl ?_
  refine wpl_nil ?_
  refine ex_then ?_
  refine wpc_seq ?_
  refine wpc_region ?_
  refine wpl_q (q_ldN Try.underlying23 rfl Try.ti23 rfl LenC.h) rfl ?_
  refine wpl_q (q_pure rfl) rfl ?_
  refine wpl_t (t_pur Try.hb28 rfl fun w h => refNew _ _ w (by assumption)) rfl (fun b18 => ?_)
  refine wpl_q (q_pure rfl) rfl ?_
  refine wpl_q (q_pure rfl) rfl ?_
  refine wpl_q (q_pure rfl) rfl ?_
  refine wpl_t (t_alloc Try.ti27 (St.z.c nl nl nl) rfl) rfl (fun b9 => ?_)
  refine wpl_t0 (t_stA Try.ti27 rfl rfl LenC.h OneC.h LenC.h) (fun _ => ?_)
  refine wpl_q (q_pure rfl) rfl ?_
  refine wpl_nil ?_
  refine ex_then ?_
  refine wpc_seq ?_
  refine wpc_seq ?_
  refine wpc_region ?_
  refine wpl_q (q_pure rfl) rfl ?_
  refine wpl_q (q_pure rfl) rfl ?_
  refine wpl_nil ?_
  refine ex_then ?_
  refine wpc_cond rfl (fun hc22 => ?_) (fun hc22 => ?_)
  ·
   simp only [bne_iff_ne, ne_eq] at hc22
   refine wpc_seq ?_
   refine wpc_region ?_
   refine wpl_q (q_build (cs := St.z.c nl nl nl) rfl built_st0) rfl ?_
   refine wpl_q (q_pure rfl) rfl ?_
   refine wpl_q (q_pure rfl) rfl ?_
   refine wpl_t0 (t_stA Try.ti27 rfl rfl LenC.h OneC.h LenC.h) (fun _ => ?_)
   refine wpl_q (q_pure rfl) rfl ?_
   refine wpl_nil ?_
   refine ex_then ?_
   refine wpc_ret ?_
   refine ex_then_ret ?_
   refine retv3 (.inl rfl) rfl (rv_tmp rfl) (rv_agg Try.underlying27 rfl Try.ti27 rfl (fun w h => h.atB) LenC.h) (rv_tmp rfl) ?_
   exact fun w h => ⟨(nl, nl, nl, nl), by rw [pl1 hc22]; exact ⟨SV.nil, zSV⟩, by rw [pl1 hc22]; first | done | rfl, h.below, by rw [pl1 hc22]; exact (zRows4 h).made SubC.h .nil⟩
  ·
   simp only [bne_eq_false_iff_eq] at hc22
   have hnw := hc22
   refine wpc_skip ?_
   refine ex_then ?_
   refine wpc_seq ?_
   refine wpc_seq ?_
   refine wpc_region ?_
   refine wpl_q (q_pure rfl) rfl ?_
   refine wpl_q (q_lenW Try.underlying56 rfl (by first | assumption | exact SV.nil | exact SV.slv (by assumption) (by omega) (by omega) | exact arv_sv (by first | decide | (simp only [maxLen]; omega)))) rfl ?_
   refine wpl_q (q_pure rfl) rfl ?_
   refine wpl_nil ?_
   refine ex_then ?_
   refine wpc_cond rfl (fun hc27 => ?_) (fun hc27 => ?_)
   ·
    simp only [decide_eq_true_eq] at hc27
    refine wpc_seq ?_
    refine wpc_region ?_
    refine wpl_q (q_build (cs := St.z.c nl nl nl) rfl built_st0) rfl ?_
    refine wpl_q (q_pure rfl) rfl ?_
    refine wpl_t0 (t_stA Try.ti27 rfl rfl LenC.h OneC.h LenC.h) (fun _ => ?_)
    refine wpl_q (q_pure rfl) rfl ?_
    refine wpl_nil ?_
    refine ex_then ?_
    refine wpc_ret ?_
    refine ex_then_ret ?_
    refine retv3 (.inl rfl) rfl (rv_tmp rfl) (rv_agg Try.underlying27 rfl Try.ti27 rfl (fun w h => h.atB) LenC.h) (rv_tmp rfl) ?_
    exact fun w h => ⟨(nl, nl, nl, nl), by rw [pl2 hnw (by omega)]; exact ⟨SV.nil, zSV⟩, by rw [pl2 hnw (by omega)]; first | done | rfl, h.below, by rw [pl2 hnw (by omega)]; exact (zRows4 h).made SubC.h .nil⟩
   ·
    simp only [decide_eq_false_iff_not] at hc27
    have hsh : ¬ 300 < l.length := by omega
    refine wpc_skip ?_
    refine ex_then ?_
    refine wpc_seq ?_
    refine wpc_region ?_
    refine wpl_q (q_pure rfl) rfl ?_
    refine wpl_nil ?_
    refine ex_then ?_
    refine wpc_seq ?_
    refine wpc_seq ?_
    refine wpc_region ?_
    refine wpl_q (q_pure rfl) rfl ?_
    refine wpl_nil ?_
    refine ex_then ?_
    refine wpc_block ?_
    refine wpc_loopc (ι := { x : Nat × St × V3 × Value × List (Int × Int) // (x.1 ≤ l.length) ∧ ((x.2.2.2.2, x.2.1) = runF (l.take x.1) (newF m n).1) ∧ (SV x.2.2.2.1 x.2.2.2.2.length) ∧ (x.2.1.sv x.2.2.1) ∧ (Bs x.2.1) }) [(2, _), (7, _), (9, _)] (fun x Lc => (12, .int .i64 ((x.1.1 : Nat) : Int)) :: (11, x.1.2.2.2.1) :: Lc) (fun x => Mem w [] [.blk b9 27 (x.1.2.1.c x.1.2.2.1.1 x.1.2.2.1.2.1 x.1.2.2.1.2.2), .blk b7 27 (St.z.c nl nl nl), rRow x.1.2.2.2.1 x.1.2.2.2.2, dRow x.1.2.2.1.1 x.1.2.1.dk, dRow x.1.2.2.1.2.1 x.1.2.1.pd, kRow x.1.2.2.1.2.2 x.1.2.1.ks] []) (fun x => l.length - x.1.1) ⟨(0, (newF m n).1, (nl, nl, nl), nl, []), ⟨Nat.zero_le _, rfl, SV.nil, by obtain ⟨e1, e2, e3⟩ := newF_nil m n; exact ⟨by rw [e1]; exact SV.nil, by rw [e2]; exact SV.nil, by rw [e3]; exact SV.nil⟩, newF_bs hm⟩⟩ (by repeat (first | exact trivial | refine ⟨rfl, ?_⟩)) ?_ ?_
    ·
     exact fun w h => by
       obtain ⟨e1, e2, e3⟩ := newF_nil m n
       have h2 : Mem _ _ [.blk b9 27 ((newF m n).1.c nl nl nl), .blk b7 27 (St.z.c nl nl nl)] [] w := h.sel
       dsimp only
       rw [e1, e2, e3]
       have h3 : Mem _ _ [rRow nl [], dRow nl [], dRow nl [], kRow nl [], .blk b9 27 ((newF m n).1.c nl nl nl), .blk b7 27 (St.z.c nl nl nl)] [] w := ((((h2.nilRow 66 6).nilRow 5 1).nilRow 5 1).nilRow 61 2)
       exact h3.sel
    ·
     rintro ⟨⟨i, s, y, v, rs⟩, ⟨hi0, hi1, hi2, hi3, hi4⟩⟩; try dsimp only
     have hi0 : i ≤ l.length := hi0; have hi1 : (rs, s) = runF (l.take i) (newF m n).1 := hi1; have hi2 : SV v rs.length := hi2; have hi3 : s.sv y := hi3; have hi4 : Bs s := hi4
     have hrl : rs.length = i := by
       have e := congrArg (fun p : List (Int × Int) × St => p.1.length) hi1
       simp only [runF_len, List.length_take] at e
       omega
     haveI : L32 s := ⟨hi4.m⟩
     haveI := OneC.sv hi3
     refine wpc_seq ?_
     refine wpc_seq ?_
     refine wpc_region ?_
     refine wpl_q (q_pure rfl) rfl ?_
     refine wpl_q (q_pure rfl) rfl ?_
     refine wpl_q (q_lenW Try.underlying56 rfl (by first | assumption | exact SV.nil | exact SV.slv (by assumption) (by omega) (by omega) | exact arv_sv (by first | decide | (simp only [maxLen]; omega)))) rfl ?_
     refine wpl_q (q_pure rfl) rfl ?_
     refine wpl_nil ?_
     refine ex_then ?_
     refine wpc_cond rfl (fun hc32 => ?_) (fun hc32 => ?_)
     ·
      simp only [decide_eq_true_eq] at hc32
      have hil : i < l.length := by omega
      refine wpc_skip ?_
      refine ex_then ?_
      refine wpc_seq ?_
      refine wpc_block ?_
      refine wpc_cutc ({ x : Nat × Nat × V3 // ((stepF s (l.getD i Stp.z)).2.1.sv x.2.2) }) [(2, lv), (7, .pointer (some ⟨b7, 0, none⟩)), (9, .pointer (some ⟨b9, 0, none⟩)), (11, v), (12, .int .i64 ((i : Nat) : Int))] (fun x Lc => (13, .pointer (some ⟨x.1.1, 0, none⟩)) :: (14, .pointer (some ⟨x.1.2.1, 0, none⟩)) :: Lc) (fun x => Mem w [] [.blk x.1.2.1 27 ((stepF s (l.getD i Stp.z)).2.1.c x.1.2.2.1 x.1.2.2.2.1 x.1.2.2.2.2), .blk x.1.1 61 [.int .i64 (stepF s (l.getD i Stp.z)).1, .int .i64 (stepF s (l.getD i Stp.z)).2.2], .blk b9 27 (s.c y.1 y.2.1 y.2.2), .blk b7 27 (St.z.c nl nl nl), rRow v rs, dRow x.1.2.2.1 (stepF s (l.getD i Stp.z)).2.1.dk, dRow x.1.2.2.2.1 (stepF s (l.getD i Stp.z)).2.1.pd, kRow x.1.2.2.2.2 (stepF s (l.getD i Stp.z)).2.1.ks] []) ?_ ?_
      ·
       refine wpc_draw 11 (by kernel_rfl) (fun _ h => h.drew) ?_
       refine wpd_q 0 rfl (by kernel_rfl) trivial (q_ldN Try.underlying27 rfl Try.ti27 rfl LenC.h) rfl (fun _ h => h) ?_
       refine wpd_p 1 rfl (by kernel_rfl) trivial (q_pure rfl) rfl sk0 ?_
       refine wpd_p 2 rfl (by kernel_rfl) trivial (q_pure rfl) rfl sk0 ?_
       refine wpd_p 3 rfl (by kernel_rfl) trivial (q_idxW Try.underlying56 Try.ti58 rfl rfl (by first | assumption | exact SV.nil | exact SV.slv (by assumption) (by omega) (by omega) | exact arv_sv (by first | decide | (simp only [maxLen]; omega))) (by first | omega | (simp only [maxLen]; omega) | (simp only [List.length_append, List.length_cons, List.length_nil, List.length_take, maxLen]; omega) | (simp only [List.length_append, List.length_cons, List.length_nil, List.length_take]; omega))) rfl sk0 ?_
       refine wpd_q 4 rfl (by kernel_rfl) trivial (q_ldWN Try.underlying58 rfl Try.ti58 rfl (fun w h => h.seen_old hlv) (l.getD i Stp.z).c (cat_part Stp.c_length Stp.z hil) rfl) rfl (fun _ h => h) ?_
       refine wpd_three 5 9 10 (by kernel_rfl) ?_ ?_ ?_
       ·
        refine wpa_tp 5 rfl trivial (t_callP3 Try.hb57 rfl fun w h => refStep s y.1 y.2.1 y.2.2 (l.getD i Stp.z) w ⟨hi4.m, h.seenV, h.seenV, h.seenV, by have := hi4.d; omega, by have := hi4.p; omega, by have := hi4.k; omega⟩) rfl (fun _ => (fun w h => .inr (h.sub SubC.h SubC.h))) (fun b41 p41 => ?_)
        haveI := OneC.sv p41
        refine wpd_p 6 rfl (by kernel_rfl) trivial (q_pure rfl) rfl (fun w h => .inr (h.sub SubC.h SubC.h)) ?_
        refine wpd_p 7 rfl (by kernel_rfl) trivial (q_pure rfl) rfl (fun w h => .inr (h.sub SubC.h SubC.h)) ?_
        refine wpd_p 8 rfl (by kernel_rfl) trivial (q_pure rfl) rfl (fun w h => .inr (h.sub SubC.h SubC.h)) ?_
        refine wpd_two 9 10 (by kernel_rfl) ?_ ?_
        ·
         refine wpa_t 9 rfl trivial (t_alloc Try.ti61 [.int .i64 0, .int .i64 0] rfl) rfl (fun _ => (fun w h => .inr (h.sub SubC.h SubC.h))) (fun b13 => ?_)
         refine wpd_t 10 rfl (by kernel_rfl) trivial (t_alloc Try.ti27 (St.z.c nl nl nl) rfl) rfl (fun _ => (fun w h => .inr (h.sub SubC.h SubC.h))) (fun b14 => ?_)
         refine wpd_t0 11 rfl (by kernel_rfl) trivial (t_stA Try.ti61 rfl rfl LenC.h OneC.h LenC.h) (fun _ => skk rfl) (fun _ => ?_)
         refine wpd_t0 12 rfl (by kernel_rfl) trivial (t_stA Try.ti27 rfl rfl LenC.h OneC.h LenC.h) (fun _ => skk rfl) (fun _ => ?_)
         refine wpd_done (by kernel_rfl) ?_
         refine ex_mid ⟨(b13, b14, b41), p41⟩ ?_ ?_
         ·
          exact (by repeat (first | exact trivial | refine ⟨rfl, ?_⟩))
         ·
          exact fun w h => by dsimp only; exact h.sel
        ·
         refine wpa_t 10 rfl trivial (t_alloc Try.ti27 (St.z.c nl nl nl) rfl) rfl (fun _ => (fun w h => .inr (h.sub SubC.h SubC.h))) (fun b14 => ?_)
         refine wpd_t 9 rfl (by kernel_rfl) trivial (t_alloc Try.ti61 [.int .i64 0, .int .i64 0] rfl) rfl (fun _ => (fun w h => .inr (h.sub SubC.h SubC.h))) (fun b13 => ?_)
         refine wpd_t0 11 rfl (by kernel_rfl) trivial (t_stA Try.ti61 rfl rfl LenC.h OneC.h LenC.h) (fun _ => skk rfl) (fun _ => ?_)
         refine wpd_t0 12 rfl (by kernel_rfl) trivial (t_stA Try.ti27 rfl rfl LenC.h OneC.h LenC.h) (fun _ => skk rfl) (fun _ => ?_)
         refine wpd_done (by kernel_rfl) ?_
         refine ex_mid ⟨(b13, b14, b41), p41⟩ ?_ ?_
         ·
          exact (by repeat (first | exact trivial | refine ⟨rfl, ?_⟩))
         ·
          exact fun w h => by dsimp only; exact h.sel
       ·
        refine wpa_t 9 rfl trivial (t_alloc Try.ti61 [.int .i64 0, .int .i64 0] rfl) rfl (fun _ => (fun w h => .inr (h.sub SubC.h SubC.h))) (fun b13 => ?_)
        refine wpd_two 5 10 (by kernel_rfl) ?_ ?_
        ·
         refine wpa_tp 5 rfl trivial (t_callP3 Try.hb57 rfl fun w h => refStep s y.1 y.2.1 y.2.2 (l.getD i Stp.z) w ⟨hi4.m, h.seenV, h.seenV, h.seenV, by have := hi4.d; omega, by have := hi4.p; omega, by have := hi4.k; omega⟩) rfl (fun _ => (fun w h => .inr (h.sub SubC.h SubC.h))) (fun b41 p41 => ?_)
         haveI := OneC.sv p41
         refine wpd_p 6 rfl (by kernel_rfl) trivial (q_pure rfl) rfl (fun w h => .inr (h.sub SubC.h SubC.h)) ?_
         refine wpd_p 7 rfl (by kernel_rfl) trivial (q_pure rfl) rfl (fun w h => .inr (h.sub SubC.h SubC.h)) ?_
         refine wpd_p 8 rfl (by kernel_rfl) trivial (q_pure rfl) rfl (fun w h => .inr (h.sub SubC.h SubC.h)) ?_
         refine wpd_t 10 rfl (by kernel_rfl) trivial (t_alloc Try.ti27 (St.z.c nl nl nl) rfl) rfl (fun _ => (fun w h => .inr (h.sub SubC.h SubC.h))) (fun b14 => ?_)
         refine wpd_t0 11 rfl (by kernel_rfl) trivial (t_stA Try.ti61 rfl rfl LenC.h OneC.h LenC.h) (fun _ => skk rfl) (fun _ => ?_)
         refine wpd_t0 12 rfl (by kernel_rfl) trivial (t_stA Try.ti27 rfl rfl LenC.h OneC.h LenC.h) (fun _ => skk rfl) (fun _ => ?_)
         refine wpd_done (by kernel_rfl) ?_
         refine ex_mid ⟨(b13, b14, b41), p41⟩ ?_ ?_
         ·
          exact (by repeat (first | exact trivial | refine ⟨rfl, ?_⟩))
         ·
          exact fun w h => by dsimp only; exact h.sel
        ·
         refine wpa_t 10 rfl trivial (t_alloc Try.ti27 (St.z.c nl nl nl) rfl) rfl (fun _ => (fun w h => .inr (h.sub SubC.h SubC.h))) (fun b14 => ?_)
         refine wpd_tp 5 rfl (by kernel_rfl) trivial (t_callP3 Try.hb57 rfl fun w h => refStep s y.1 y.2.1 y.2.2 (l.getD i Stp.z) w ⟨hi4.m, h.seenV, h.seenV, h.seenV, by have := hi4.d; omega, by have := hi4.p; omega, by have := hi4.k; omega⟩) rfl (fun _ => (fun w h => .inr (h.sub SubC.h SubC.h))) (fun b41 p41 => ?_)
         haveI := OneC.sv p41
         refine wpd_p 6 rfl (by kernel_rfl) trivial (q_pure rfl) rfl (fun w h => .inr (h.sub SubC.h SubC.h)) ?_
         refine wpd_p 7 rfl (by kernel_rfl) trivial (q_pure rfl) rfl (fun w h => .inr (h.sub SubC.h SubC.h)) ?_
         refine wpd_p 8 rfl (by kernel_rfl) trivial (q_pure rfl) rfl (fun w h => .inr (h.sub SubC.h SubC.h)) ?_
         refine wpd_t0 11 rfl (by kernel_rfl) trivial (t_stA Try.ti61 rfl rfl LenC.h OneC.h LenC.h) (fun _ => skk rfl) (fun _ => ?_)
         refine wpd_t0 12 rfl (by kernel_rfl) trivial (t_stA Try.ti27 rfl rfl LenC.h OneC.h LenC.h) (fun _ => skk rfl) (fun _ => ?_)
         refine wpd_done (by kernel_rfl) ?_
         refine ex_mid ⟨(b13, b14, b41), p41⟩ ?_ ?_
         ·
          exact (by repeat (first | exact trivial | refine ⟨rfl, ?_⟩))
         ·
          exact fun w h => by dsimp only; exact h.sel
       ·
        refine wpa_t 10 rfl trivial (t_alloc Try.ti27 (St.z.c nl nl nl) rfl) rfl (fun _ => (fun w h => .inr (h.sub SubC.h SubC.h))) (fun b14 => ?_)
        refine wpd_two 5 9 (by kernel_rfl) ?_ ?_
        ·
         refine wpa_tp 5 rfl trivial (t_callP3 Try.hb57 rfl fun w h => refStep s y.1 y.2.1 y.2.2 (l.getD i Stp.z) w ⟨hi4.m, h.seenV, h.seenV, h.seenV, by have := hi4.d; omega, by have := hi4.p; omega, by have := hi4.k; omega⟩) rfl (fun _ => (fun w h => .inr (h.sub SubC.h SubC.h))) (fun b41 p41 => ?_)
         haveI := OneC.sv p41
         refine wpd_p 6 rfl (by kernel_rfl) trivial (q_pure rfl) rfl (fun w h => .inr (h.sub SubC.h SubC.h)) ?_
         refine wpd_p 7 rfl (by kernel_rfl) trivial (q_pure rfl) rfl (fun w h => .inr (h.sub SubC.h SubC.h)) ?_
         refine wpd_p 8 rfl (by kernel_rfl) trivial (q_pure rfl) rfl (fun w h => .inr (h.sub SubC.h SubC.h)) ?_
         refine wpd_t 9 rfl (by kernel_rfl) trivial (t_alloc Try.ti61 [.int .i64 0, .int .i64 0] rfl) rfl (fun _ => (fun w h => .inr (h.sub SubC.h SubC.h))) (fun b13 => ?_)
         refine wpd_t0 11 rfl (by kernel_rfl) trivial (t_stA Try.ti61 rfl rfl LenC.h OneC.h LenC.h) (fun _ => skk rfl) (fun _ => ?_)
         refine wpd_t0 12 rfl (by kernel_rfl) trivial (t_stA Try.ti27 rfl rfl LenC.h OneC.h LenC.h) (fun _ => skk rfl) (fun _ => ?_)
         refine wpd_done (by kernel_rfl) ?_
         refine ex_mid ⟨(b13, b14, b41), p41⟩ ?_ ?_
         ·
          exact (by repeat (first | exact trivial | refine ⟨rfl, ?_⟩))
         ·
          exact fun w h => by dsimp only; exact h.sel
        ·
         refine wpa_t 9 rfl trivial (t_alloc Try.ti61 [.int .i64 0, .int .i64 0] rfl) rfl (fun _ => (fun w h => .inr (h.sub SubC.h SubC.h))) (fun b13 => ?_)
         refine wpd_tp 5 rfl (by kernel_rfl) trivial (t_callP3 Try.hb57 rfl fun w h => refStep s y.1 y.2.1 y.2.2 (l.getD i Stp.z) w ⟨hi4.m, h.seenV, h.seenV, h.seenV, by have := hi4.d; omega, by have := hi4.p; omega, by have := hi4.k; omega⟩) rfl (fun _ => (fun w h => .inr (h.sub SubC.h SubC.h))) (fun b41 p41 => ?_)
         haveI := OneC.sv p41
         refine wpd_p 6 rfl (by kernel_rfl) trivial (q_pure rfl) rfl (fun w h => .inr (h.sub SubC.h SubC.h)) ?_
         refine wpd_p 7 rfl (by kernel_rfl) trivial (q_pure rfl) rfl (fun w h => .inr (h.sub SubC.h SubC.h)) ?_
         refine wpd_p 8 rfl (by kernel_rfl) trivial (q_pure rfl) rfl (fun w h => .inr (h.sub SubC.h SubC.h)) ?_
         refine wpd_t0 11 rfl (by kernel_rfl) trivial (t_stA Try.ti61 rfl rfl LenC.h OneC.h LenC.h) (fun _ => skk rfl) (fun _ => ?_)
         refine wpd_t0 12 rfl (by kernel_rfl) trivial (t_stA Try.ti27 rfl rfl LenC.h OneC.h LenC.h) (fun _ => skk rfl) (fun _ => ?_)
         refine wpd_done (by kernel_rfl) ?_
         refine ex_mid ⟨(b13, b14, b41), p41⟩ ?_ ?_
         ·
          exact (by repeat (first | exact trivial | refine ⟨rfl, ?_⟩))
         ·
          exact fun w h => by dsimp only; exact h.sel
      ·
       rintro ⟨⟨b13, b14, y2⟩, hi0⟩; try dsimp only
       have hi0 : (stepF s (l.getD i Stp.z)).2.1.sv y2 := hi0
       have hj : (stepF s (l.getD i Stp.z)).2.1.sv y2 := hi0
       haveI := OneC.sv hj
       refine wpc_seq ?_
       refine wpc_region ?_
       refine wpl_q (q_pure rfl) rfl ?_
       refine wpl_q (q_ldN Try.underlying61 rfl Try.ti61 rfl rfl) rfl ?_
       refine wpl_tp (t_bsG [.agg (resC ((stepF s (l.getD i Stp.z)).1, (stepF s (l.getD i Stp.z)).2.2)).toArray] (resC ((stepF s (l.getD i Stp.z)).1, (stepF s (l.getD i Stp.z)).2.2)) Try.underlying53 Try.ti61 rfl (by decide) rfl (by decide) (by decide) rfl (by intro v hv; rw [List.mem_singleton] at hv; subst hv; rfl) (List.append_nil _)) rfl (fun b46 p46 => ?_)
       refine wpl_tp (t_apW Try.underlying53 Try.ti61 rfl (by decide) rfl rfl (fun w h => by first | exact h.seenV | exact h.seenA (by first | decide | (simp only [maxLen]; omega)) (by first | with_reducible rfl | (simp only [v8s_length, v32s_length, vis_length, vns_length, v64s_length, List.length_replicate]; first | done | with_reducible assumption | omega) | (rw [v8s_length]; (first | with_reducible assumption | with_reducible exact shortF_length _ | with_reducible exact stepF_length _ _ _ | with_reducible exact sumF_length _ | with_reducible exact climbF_length _ (by first | with_reducible assumption | with_reducible exact shortF_length _ | with_reducible exact beginF_length _ _ | with_reducible exact getD_mem_len (by assumption) (by omega)) _ _ _ | with_reducible exact beginF_length _ _ | with_reducible exact chainF_length _ _ _ | with_reducible exact recF_length _ _ | with_reducible exact publicF_length _ | with_reducible exact getD_mem_len (by assumption) (by omega) | (with_reducible exact List.length_replicate))) | rfl) | exact h.seen_old (by assumption) | exact h.seen_oldL (by assumption) (by assumption) | exact h.seen_fact (by repeat (first | exact List.mem_cons_self .. | apply List.mem_cons_of_mem))) OneC.h (by first | omega | (simp only [maxLen]; omega) | (simp only [List.length_append, List.length_cons, List.length_nil, List.length_take, maxLen]; omega) | (simp only [List.length_append, List.length_cons, List.length_nil, List.length_take]; omega)) (by first | omega | (simp only [maxLen]; omega) | (simp only [List.length_append, List.length_cons, List.length_nil, List.length_take, maxLen]; omega) | (simp only [List.length_append, List.length_cons, List.length_nil, List.length_take]; omega)) (rcs (rs ++ [((stepF s (l.getD i Stp.z)).1, (stepF s (l.getD i Stp.z)).2.2)])) (rcs_snoc _ _)) rfl (fun b47 p47 => ?_)
       refine wpl_q (q_pure rfl) rfl ?_
       refine wpl_nil ?_
       refine ex_then ?_
       refine wpc_region ?_
       refine wpl_q (q_ldN Try.underlying27 rfl Try.ti27 rfl LenC.h) rfl ?_
       refine wpl_t0 (t_stA Try.ti27 rfl rfl LenC.h OneC.h LenC.h) (fun _ => ?_)
       refine wpl_nil ?_
       refine ex_block ?_
       refine ex_then ?_
       refine wpc_region ?_
       refine wpl_q (q_pure rfl) rfl ?_
       refine wpl_q (q_addN (b := 1) rfl rfl (by first | omega | (simp only [maxLen]; omega) | (simp only [List.length_append, List.length_cons, List.length_nil, List.length_take, maxLen]; omega) | (simp only [List.length_append, List.length_cons, List.length_nil, List.length_take]; omega))) rfl ?_
       refine wpl_q (q_pure rfl) rfl ?_
       refine wpl_nil ?_
       refine ex_again ⟨(i + 1, (stepF s (l.getD i Stp.z)).2.1, y2, b47, rs ++ [((stepF s (l.getD i Stp.z)).1, (stepF s (l.getD i Stp.z)).2.2)]), ⟨by omega, runF_next hil hi1, svl_at p47 (by rw [List.length_append]; rfl), hj, stepF_bs hi4⟩⟩ ?_ ?_ ?_
       ·
        exact (by repeat (first | exact trivial | refine ⟨rfl, ?_⟩))
       ·
        exact fun w h => by dsimp only; rw [rRow_snoc]; exact h.sel
       ·
        (show l.length - (i + 1) < l.length - i); omega
     ·
      simp only [decide_eq_false_iff_not] at hc32
      obtain rfl : i = l.length := by omega
      rw [List.take_length] at hi1
      refine wpc_exit ?_
      refine ex_then_exit ?_
      refine ex_then_exit ?_
      refine ex_block_hit ?_
      refine ex_then ?_
      refine wpc_seq ?_
      refine wpc_draw 3 (by kernel_rfl) (fun _ h => h.drew) ?_
      refine wpd_p 0 rfl (by kernel_rfl) trivial (q_pure rfl) rfl sk0 ?_
      refine wpd_q 1 rfl (by kernel_rfl) trivial (q_ldN Try.underlying27 rfl Try.ti27 rfl LenC.h) rfl (fun _ h => h) ?_
      refine wpd_p 2 rfl (by kernel_rfl) trivial (q_pure rfl) rfl sk0 ?_
      refine wpd_t0 3 rfl (by kernel_rfl) trivial (t_stA Try.ti27 rfl rfl LenC.h OneC.h LenC.h) (fun _ => skk rfl) (fun _ => ?_)
      refine wpd_p 4 rfl (by kernel_rfl) trivial (q_pure rfl) rfl (skk rfl) ?_
      refine wpd_done (by kernel_rfl) ?_
      refine ex_then ?_
      refine wpc_ret ?_
      refine retv3 (.inl rfl) rfl (rv_tmp rfl) (rv_agg Try.underlying27 rfl Try.ti27 rfl (fun w h => h.atB) LenC.h) (rv_tmp rfl) ?_
      exact fun w h => ⟨(v, y), by rw [pl3 hnw hsh, ← hi1]; exact ⟨hi2, hi3⟩, by rw [pl3 hnw hsh, ← hi1]; first | done | rfl, h.below, by rw [pl3 hnw hsh, ← hi1]; exact h.sel.made (Sub.refl _) .nil⟩

end Go.Proofs.Ytoaeklbenmlooaa
