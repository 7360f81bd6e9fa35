/- A full journal. -/
import Derived.Test.YtoaeklbenmlooaaKAI
import Derived.Test.YtoaeklbenmlooaaKAE
namespace Go.Proofs.Ytoaeklbenmlooaa
set_option linter.unusedSimpArgs false
set_option linter.unusedVariables false
open Go Go.PL Go.RowKit

/-- A journal that is being filled: k keys before, and the last one with j records more. -/
structure FilO (s : St) (k : Nat) : Prop where
  c : ChkP s
  u : s.up = true
  b : s.bt = 1
  d : s.dk = []
  n : s.ks.length = k
  i : ∀ i, i < k → (s.ks.getD i KE.z).id = UInt32.ofNat i ∧ (s.ks.getD i KE.z).dr = false
  p : s.pd.length = 170 * k
structure Fil (s : St) (k j : Nat) : Prop where
  c : ChkP s
  u : s.up = true
  b : s.bt = 1
  d : s.dk = []
  n : s.ks.length = k + 1
  i : ∀ i, i < k + 1 → (s.ks.getD i KE.z).id = UInt32.ofNat i ∧ (s.ks.getD i KE.z).dr = false
  p : s.pd.length = 170 * k + 10 + 10 * j
  h : (s.ks.getD k KE.z).ht = 4
  a : (s.ks.getD k KE.z).ak = ((j : Nat) : Int)
theorem Fil.next {s : St} {k : Nat} (h : Fil s k 16) : FilO s (k + 1) := ⟨h.c, h.u, h.b, h.d, h.n, h.i, by have := h.p; omega⟩
theorem ofNat_ne {a b : Nat} (ha : a < 100) (hb : b < 100) (h : a ≠ b) : UInt32.ofNat a ≠ UInt32.ofNat b := fun e => by
  have e := congrArg UInt32.toNat e
  rw [UInt32.toNat_ofNat', UInt32.toNat_ofNat', Nat.mod_eq_of_lt (by omega), Nat.mod_eq_of_lt (by omega)] at e
  exact h e
theorem place_absent {ks : List KE} {k : Nat} (hk : k < 100) (hn : ks.length ≤ k) (h : ∀ i, i < ks.length → (ks.getD i KE.z).id = UInt32.ofNat i) : placeF ks (UInt32.ofNat k) < 0 := by
  rcases idxF_spec (isId (UInt32.ofNat k)) KE.z ks with ⟨e, _⟩ | ⟨j, h1, _, e2, _⟩
  · rw [placeF, e]; decide
  · rw [isId, decide_eq_true_eq, h j h1] at e2
    exact absurd e2 (ofNat_ne (by omega) hk (by omega))
theorem place_present {ks : List KE} {k : Nat} (hk : k < ks.length) (hl : ks.length < 100) (h : ∀ i, i < ks.length → (ks.getD i KE.z).id = UInt32.ofNat i) : placeF ks (UInt32.ofNat k) = ((k : Nat) : Int) :=
  idxF_found KE.z (fun i hi => by rw [isId, decide_eq_false_iff_not, h i (by omega)]; exact ofNat_ne (by omega) (by omega) (by omega)) hk (by rw [isId, decide_eq_true_eq, h k hk])
theorem Fil.first {s : St} {k : Nat} (h : FilO s k) (hk : k < 6) : (createF s (UInt32.ofNat k) 4).2 = 0 ∧ Fil (createF s (UInt32.ofNat k) 4).1 k 0 := by
  have hu : upF s true = 0 := upF_0 (chk0 h.c) h.u
  have hp := place_absent (ks := s.ks) (k := k) (by omega) (by rw [h.n]; exact Nat.le_refl _) (fun i hi => (h.i i (by rw [← h.n]; exact hi)).1)
  have hn := h.n
  have hl := h.p
  have e := cr5 (id := UInt32.ofNat k) (ht := 4) hu (by omega) (by omega) (by omega)
  have hd : s.dk.length = 0 := by rw [h.d]; rfl
  have hw : (createF s (UInt32.ofNat k) 4).2 = 0 := by
    rw [e, writeF, if_neg]
    show ¬ 1000 < s.dk.length + s.pd.length + 10
    omega
  obtain ⟨_, _, _, _, _, _, e2⟩ := createF_ok hw
  have hc := createF_chk hw
  rw [e2] at hc
  refine ⟨hw, ?_⟩
  rw [e2]
  refine ⟨hc, h.u, h.b, h.d, by simp [h.n], fun i hi => ?_, ?_, ?_, ?_⟩
  · by_cases hi2 : i < s.ks.length
    · rw [getD_snoc hi2]; exact h.i i (by omega)
    · obtain rfl : i = s.ks.length := by omega
      rw [getD_snocL, h.n]; exact ⟨rfl, rfl⟩
  · show (s.pd ++ _).length = _; rw [List.length_append, recB_length]; omega
  · show ((s.ks ++ [_]).getD k KE.z).ht = 4; rw [← h.n, getD_snocL]
  · show ((s.ks ++ [_]).getD k KE.z).ak = 0; rw [← h.n, getD_snocL]
theorem Fil.more {s : St} {k j : Nat} (h : Fil s k j) (hj : j < 16) (hk : k < 6) (hl : s.pd.length < 1000) : (reserveF s (UInt32.ofNat k)).2 = 0 ∧ Fil (reserveF s (UInt32.ofNat k)).1 k (j + 1) := by
  have hu : upF s true = 0 := upF_0 (chk0 h.c) h.u
  have hn := h.n
  have hlp := h.p
  have hp : placeF s.ks (UInt32.ofNat k) = ((k : Nat) : Int) := place_present (by omega) (by omega) (fun i hi => (h.i i (by omega)).1)
  have ht : (thereF s (UInt32.ofNat k)).2 = 0 := by
    rw [th_ok hu]
    rintro (hh | hh)
    · omega
    · rw [hp, Int.toNat_natCast, (h.i k (by omega)).2] at hh; cases hh
  have ek : kAt s (UInt32.ofNat k) = s.ks.getD k KE.z := kAt_j hp
  have hd : s.dk.length = 0 := by rw [h.d]; rfl
  have hw : (reserveF s (UInt32.ofNat k)).2 = 0 := by
    unfold reserveF
    rw [if_neg (fun hh => hh ht), ek, if_neg (by rw [h.a, h.h]; simp; omega), writeF, if_neg]
    show ¬ 1000 < s.dk.length + s.pd.length + 10
    omega
  obtain ⟨_, _, _, e2⟩ := reserveF_ok hw
  have hc := reserveF_chk hw
  rw [e2] at hc
  refine ⟨hw, ?_⟩
  rw [e2, ek, hp, Int.toNat_natCast] at *
  have hA : newA s (s.ks.getD k KE.z) = j + 1 := by
    rw [newA, h.a, h.b, h.h]; simp; omega
  refine ⟨hc, h.u, h.b, h.d, by simp [h.n], fun i hi => ?_, ?_, ?_, ?_⟩
  · show ((s.ks.set k _).getD i KE.z).id = _ ∧ ((s.ks.set k _).getD i KE.z).dr = _
    rw [getD_set (by omega)]
    split
    · rename_i e; subst e; exact h.i k hi
    · exact h.i i hi
  · show (s.pd ++ _).length = _; rw [List.length_append, recB_length]; omega
  · show ((s.ks.set k _).getD k KE.z).ht = 4; rw [getD_set (by omega), if_pos rfl]; exact h.h
  · show ((s.ks.set k _).getD k KE.z).ak = _; rw [getD_set (by omega), if_pos rfl]; dsimp only; rw [hA]
/-- The full journal. -/
structure Full (s : St) : Prop where
  c : ChkP s
  u : s.up = true
  d : s.dk = []
  p : s.pd.length = 1000
  k : placeF s.ks 0 = 0
  r : (s.ks.getD 0 KE.z).dr = false
theorem Fil.full {s : St} (h : Fil s 5 14) : Full s := ⟨h.c, h.u, h.d, h.p, place_present (k := 0) (by rw [h.n]; decide) (by rw [h.n]; decide) (fun i hi => (h.i i (by rw [h.n] at hi; exact hi)).1), (h.i 0 (by decide)).2⟩
theorem Full.drop {s : St} (h : Full s) : (dropF s 0).2 = 16 := by
  have hu : upF s true = 0 := upF_0 (chk0 h.c) h.u
  have ht : (thereF s 0).2 = 0 := by
    rw [th_ok hu]
    rintro (hh | hh)
    · rw [h.k] at hh; exact absurd hh (by decide)
    · rw [h.k, show (0 : Int).toNat = 0 from rfl, h.r] at hh; cases hh
  unfold dropF
  rw [if_neg (fun hh => hh ht), writeF, if_pos]
  have := h.p
  show 1000 < s.dk.length + s.pd.length + 10
  omega
def zH : List UInt8 := List.replicate 32 0
instance lenL_zH : LenL zH 32 := ⟨rfl⟩
/-- Where the filling stands. -/
def At6 (s : St) (k : Nat) : Prop := Bs s ∧ (k < 6 → FilO s k) ∧ (k = 6 → Full s) ∧ k ≤ 6
def AtJ (s : St) (k j : Nat) : Prop := Bs s ∧ Fil s k j ∧ j ≤ 16 ∧ k < 6
theorem AtJ.out {s : St} {k j : Nat} (h : AtJ s k j) (hx : j = 16 ∨ 1000 ≤ s.pd.length) : At6 s (k + 1) := by
  have hp := h.2.1.p
  have h3 := h.2.2.1
  have h4 := h.2.2.2
  have hc := h.2.1.c.2.2.1
  refine ⟨h.1, fun hk => ?_, fun hk => ?_, by omega⟩
  · obtain rfl : j = 16 := by omega
    exact h.2.1.next
  · obtain rfl : k = 5 := by omega
    obtain rfl : j = 14 := by omega
    exact h.2.1.full
theorem ofNat_succ32 (k : Nat) : UInt32.ofNat k + 1 = UInt32.ofNat (k + 1) := (UInt32.ofNat_add k 1).symm
theorem ofNat_lt {k : Nat} (h : k < 1000) : (UInt32.ofNat k).toNat = k := by rw [UInt32.toNat_ofNat']; exact Nat.mod_eq_of_lt (by omega)
theorem new_1 : newF zH 1 = (⟨zH, 1, true, [], [], []⟩, 0) := rfl
theorem at_0 : At6 (newF zH 1).1 0 := ⟨newF_bs rfl, fun _ => ⟨newF_chk rfl, rfl, rfl, rfl, rfl, fun i hi => absurd hi (Nat.not_lt_zero _), rfl⟩, fun h => absurd h (by decide), by decide⟩

set_option maxRecDepth 100000 in
theorem filled  (w : World)   :
    Calls Try.prog 34 [].toArray w (Pur w (.bool true)) := by
  refine enter (m := 63) (R := Mem w [] [] []) Try.func34 rfl rfl (Nat.le_of_ble_eq_true rfl) (Mem.start w) ?_
  refine wpc_seq ?_
  refine wpc_region ?_
  refine wpl_q (q_pure rfl) rfl ?_
  refine wpl_nil ?_
  refine ex_then ?_
  refine wpc_seq ?_
  refine wpc_region ?_
  refine wpl_q (q_build (cs := v8s zH) rfl (built_array Try.underlying23 Try.ti23 Try.ti5 rfl)) rfl ?_
  refine wpl_t (t_pur Try.hb27 rfl fun w h => new_ zH 1 w rfl) rfl (fun b9 => ?_)
  refine wpl_q (q_pure rfl) rfl ?_
  refine wpl_q (q_pure rfl) rfl ?_
  refine wpl_q (q_pure rfl) rfl ?_
  refine wpl_t (t_alloc Try.ti27 (St.z.c nl nl nl) rfl) rfl (fun b1 => ?_)
  refine wpl_t0 (t_stA Try.ti27 rfl rfl LenC.h OneC.h LenC.h) (fun _ => ?_)
  refine wpl_q (q_pure rfl) rfl ?_
  first | refine wpl_re 2 rfl (congrArg (Value.int .i64) hm.1) ?_ | refine wpl_re 2 rfl (congrArg (Value.int .i64) hf.1) ?_ | refine wpl_re 2 rfl (show _ = Value.int .i64 0 from rfl) ?_
  refine wpl_nil ?_
  refine ex_then ?_
  refine wpc_seq ?_
  refine wpc_seq ?_
  refine wpc_region ?_
  refine wpl_q (q_pure rfl) rfl ?_
  first | refine wpl_re 3 rfl (congrArg (fun u : UInt32 => Value.int .u32 ((u.toNat : Nat) : Int)) (ofNat_succ32 k)) ?_ | skip
  refine wpl_nil ?_
  refine ex_then ?_
  refine wpc_block ?_
  refine wpc_loopc (ι := { x : Nat × St × V3 // (At6 x.2.1 x.1) ∧ (x.2.1.sv x.2.2) }) [(1, _)] (fun x Lc => (3, .int .u32 (((UInt32.ofNat x.1.1).toNat : Nat) : Int)) :: (2, .int .i64 0) :: Lc) (fun x => Mem w [] [.blk b1 27 (x.1.2.1.c x.1.2.2.1 x.1.2.2.2.1 x.1.2.2.2.2), dRow x.1.2.2.1 x.1.2.1.dk, dRow x.1.2.2.2.1 x.1.2.1.pd, kRow x.1.2.2.2.2 x.1.2.1.ks] []) (fun x => 6 - x.1.1) ⟨(0, (newF zH 1).1, (nl, nl, nl)), ⟨at_0, ⟨SV.nil, SV.nil, SV.nil⟩⟩⟩ (by repeat (first | exact trivial | refine ⟨rfl, ?_⟩)) ?_ ?_
  ·
   exact fun w h => by
     have h3 : Mem _ _ [dRow nl (newF zH 1).1.dk, dRow nl (newF zH 1).1.pd, kRow nl (newF zH 1).1.ks, .blk b1 27 ((newF zH 1).1.c nl nl nl)] [] w := (((h.nilRow 66 6).nilRow 5 1).nilRow 5 1)
     dsimp only
     exact h3.sel
  ·
   rintro ⟨⟨k, s, y⟩, ⟨hi0, hi1⟩⟩; try dsimp only
   have hi0 : At6 s k := hi0; have hi1 : s.sv y := hi1
   haveI : L32 s := ⟨hi0.1.m⟩
   haveI := OneC.sv hi1
   have hk6 := hi0.2.2.2
   have e3 := ofNat_lt (k := k) (by omega)
   have spy := hi1.2.1
   refine wpc_seq ?_
   refine wpc_seq ?_
   refine wpc_region ?_
   refine wpl_q (q_pure rfl) rfl ?_
   refine wpl_q (q_pure rfl) rfl ?_
   refine wpl_q (q_pure rfl) rfl ?_
   refine wpl_bool2 14 13 rfl rfl (fun hb14 => ?_) (fun hb14 => ?_)
   ·
    have hk : k < 6 := by rw [e3] at hb14; simp only [decide_eq_true_eq] at hb14; omega
    refine wpl_on rfl rfl ?_
    refine wpl_q (q_pure rfl) rfl ?_
    refine wpl_on rfl rfl ?_
    refine wpl_q (q_tru (q_eqI rfl rfl) rfl) rfl ?_
    refine wpl_q (q_pure rfl) rfl ?_
    refine wpl_nil ?_
    refine ex_then ?_
    refine wpc_cond_t rfl ?_
    refine wpc_skip ?_
    refine ex_then ?_
    refine wpc_seq ?_
    refine wpc_block ?_
    refine wpc_seq ?_
    refine wpc_region ?_
    refine wpl_q (q_ldN Try.underlying27 rfl Try.ti27 rfl LenC.h) rfl ?_
    refine wpl_q (q_pure rfl) rfl ?_
    refine wpl_tp (t_callP3 Try.hb21 rfl fun w h => create s y.1 y.2.1 y.2.2 (UInt32.ofNat k) 4 w ⟨(hi0.1).m, h.seenV, h.seenV, h.seenV, by have := (hi0.1).d; omega, by have := (hi0.1).p; omega, by have := (hi0.1).k; omega⟩) rfl (fun b23 p23 => ?_)
    haveI := OneC.sv p23
    have hf := Fil.first (hi0.2.1 hk) hk
    refine wpl_q (q_pure rfl) rfl ?_
    refine wpl_q (q_pure rfl) rfl ?_
    refine wpl_q (q_pure rfl) rfl ?_
    refine wpl_t0 (t_stA Try.ti27 rfl rfl LenC.h OneC.h LenC.h) (fun _ => ?_)
    refine wpl_q (q_pure rfl) rfl ?_
    first | refine wpl_re 2 rfl (congrArg (Value.int .i64) hm.1) ?_ | refine wpl_re 2 rfl (congrArg (Value.int .i64) hf.1) ?_ | refine wpl_re 2 rfl (show _ = Value.int .i64 0 from rfl) ?_
    refine wpl_nil ?_
    refine ex_then ?_
    refine wpc_seq ?_
    refine wpc_region ?_
    refine wpl_q (q_pure rfl) rfl ?_
    refine wpl_nil ?_
    refine ex_then ?_
    refine wpc_block ?_
    refine wpc_loopc (ι := { x : Nat × St × V3 // (AtJ x.2.1 k x.1) ∧ (x.2.1.sv x.2.2) }) [(1, _), (3, _), (15, _), (16, _)] (fun x Lc => (4, .int .i64 ((x.1.1 : Nat) : Int)) :: (2, .int .i64 0) :: Lc) (fun x => Mem w [] [.blk b1 27 (x.1.2.1.c x.1.2.2.1 x.1.2.2.2.1 x.1.2.2.2.2), dRow x.1.2.2.1 x.1.2.1.dk, dRow x.1.2.2.2.1 x.1.2.1.pd, kRow x.1.2.2.2.2 x.1.2.1.ks] []) (fun x => 16 - x.1.1) ⟨(0, (createF s (UInt32.ofNat k) 4).1, b23), ⟨⟨createF_bs hi0.1, hf.2, Nat.zero_le _, hk⟩, p23⟩⟩ (by repeat (first | exact trivial | refine ⟨rfl, ?_⟩)) ?_ ?_
    ·
     exact fun w h => by dsimp only; exact h.sel
    ·
     rintro ⟨⟨j, s2, z⟩, ⟨hi0, hi1⟩⟩; try dsimp only
     have hi0 : AtJ s2 k j := hi0; have hi1 : s2.sv z := hi1
     haveI : L32 s2 := ⟨hi0.1.m⟩
     haveI := OneC.sv hi1
     have hpd := hi0.2.1.p
     have spz := hi1.2.1
     have hlt2 := hi0.2.2.1
     have hz := hi1
     refine wpc_seq ?_
     refine wpc_seq ?_
     refine wpc_region ?_
     refine wpl_q (q_pure rfl) rfl ?_
     refine wpl_q (q_pure rfl) rfl ?_
     refine wpl_q (q_pure rfl) rfl ?_
     refine wpl_bool2 28 27 rfl rfl (fun hb28 => ?_) (fun hb28 => ?_)
     ·
      have hj : j < 16 := by simp at hb28; omega
      refine wpl_on rfl rfl ?_
      refine wpl_q (q_pure rfl) rfl ?_
      refine wpl_on rfl rfl ?_
      refine wpl_q (q_tru (q_eqI rfl rfl) rfl) rfl ?_
      refine wpl_q (q_pure rfl) rfl ?_
      refine wpl_q (q_pure rfl) rfl ?_
      refine wpl_on rfl rfl ?_
      refine wpl_q (q_field Try.underlying27 rfl Try.ti24 rfl rfl _ rfl) rfl ?_
      refine wpl_on rfl rfl ?_
      refine wpl_q (q_ld Try.underlying24 rfl rfl (by first | exact St.c_d L32.h | exact St.c_p L32.h | exact St.c_k L32.h | exact St.c_b L32.h | exact St.c_u L32.h)) rfl ?_
      refine wpl_on rfl rfl ?_
      refine wpl_q (q_lenW Try.underlying24 rfl (by first | assumption | exact SV.nil | exact SV.slv (by assumption) (by omega) (by omega) | exact arv_sv (by first | decide | (simp only [maxLen]; omega)))) rfl ?_
      refine wpl_on rfl rfl ?_
      refine wpl_q (q_pure rfl) rfl ?_
      refine wpl_q (q_pure rfl) rfl ?_
      refine wpl_nil ?_
      refine ex_then ?_
      refine wpc_cond rfl (fun hc37 => ?_) (fun hc37 => ?_)
      ·
       have hlp : s2.pd.length < 1000 := by simp at hc37; omega
       have hm := Fil.more hi0.2.1 hj hk hlp
       refine wpc_skip ?_
       refine ex_then ?_
       refine wpc_seq ?_
       refine wpc_block ?_
       refine wpc_region ?_
       refine wpl_q (q_ldN Try.underlying27 rfl Try.ti27 rfl LenC.h) rfl ?_
       refine wpl_q (q_pure rfl) rfl ?_
       refine wpl_tp (t_callP3 Try.hb23 rfl fun w h => reserve s2 z.1 z.2.1 z.2.2 (UInt32.ofNat k) w ⟨(hi0.1).m, h.seenV, h.seenV, h.seenV, by have := (hi0.1).d; omega, by have := (hi0.1).p; omega, by have := (hi0.1).k; omega⟩) rfl (fun b43 p43 => ?_)
       haveI := OneC.sv p43
       refine wpl_q (q_pure rfl) rfl ?_
       refine wpl_q (q_pure rfl) rfl ?_
       refine wpl_q (q_pure rfl) rfl ?_
       refine wpl_t0 (t_stA Try.ti27 rfl rfl LenC.h OneC.h LenC.h) (fun _ => ?_)
       refine wpl_q (q_pure rfl) rfl ?_
       first | refine wpl_re 2 rfl (congrArg (Value.int .i64) hm.1) ?_ | refine wpl_re 2 rfl (congrArg (Value.int .i64) hf.1) ?_ | refine wpl_re 2 rfl (show _ = Value.int .i64 0 from rfl) ?_
       refine wpl_nil ?_
       refine ex_block ?_
       refine ex_then ?_
       refine wpc_region ?_
       refine wpl_q (q_pure rfl) rfl ?_
       refine wpl_q (q_addN (b := 1) rfl rfl (by first | omega | (simp only [maxLen]; omega) | (simp only [List.length_append, List.length_cons, List.length_nil, List.length_take, maxLen]; omega) | (simp only [List.length_append, List.length_cons, List.length_nil, List.length_take]; omega))) rfl ?_
       refine wpl_q (q_pure rfl) rfl ?_
       refine wpl_nil ?_
       refine ex_again ⟨(j + 1, (reserveF s2 (UInt32.ofNat k)).1, b43), ⟨⟨reserveF_bs hi0.1, hm.2, by omega, hi0.2.2.2⟩, p43⟩⟩ ?_ ?_ ?_
       ·
        exact (by repeat (first | exact trivial | refine ⟨rfl, ?_⟩))
       ·
        exact fun w h => by dsimp only; exact h.sel
       ·
        (show 16 - (j + 1) < 16 - j); omega
      ·
       have hat := AtJ.out hi0 (by first | exact .inl (by omega) | exact .inr (by simp at hc37; omega))
       refine wpc_exit ?_
       refine ex_then_exit ?_
       refine ex_then_exit ?_
       refine ex_block_hit ?_
       refine ex_block ?_
       refine ex_then ?_
       refine wpc_region ?_
       refine wpl_q (q_pure rfl) rfl ?_
       refine wpl_q (q32_add (b := (1 : UInt32)) rfl rfl) rfl ?_
       refine wpl_q (q_pure rfl) rfl ?_
       first | refine wpl_re 3 rfl (congrArg (fun u : UInt32 => Value.int .u32 ((u.toNat : Nat) : Int)) (ofNat_succ32 k)) ?_ | skip
       refine wpl_nil ?_
       refine ex_again ⟨(k + 1, s2, z), ⟨hat, hz⟩⟩ ?_ ?_ ?_
       ·
        exact (by repeat (first | exact trivial | refine ⟨rfl, ?_⟩))
       ·
        exact fun w h => by dsimp only; exact h.sel
       ·
        (show 6 - (k + 1) < 6 - k); omega
     ·
      have hj : ¬ j < 16 := by simp at hb28; omega
      have hat := AtJ.out hi0 (.inl (by omega))
      refine wpl_off rfl rfl rfl rfl ?_
      refine wpl_off rfl rfl rfl rfl ?_
      refine wpl_q (q_pure rfl) rfl ?_
      refine wpl_q (q_pure rfl) rfl ?_
      refine wpl_off rfl rfl rfl rfl ?_
      refine wpl_off rfl rfl rfl rfl ?_
      refine wpl_off rfl rfl rfl rfl ?_
      refine wpl_off rfl rfl rfl rfl ?_
      refine wpl_q (q_pure rfl) rfl ?_
      refine wpl_nil ?_
      refine ex_then ?_
      refine wpc_cond_f rfl ?_
      refine wpc_exit ?_
      refine ex_then_exit ?_
      refine ex_then_exit ?_
      refine ex_block_hit ?_
      refine ex_block ?_
      refine ex_then ?_
      refine wpc_region ?_
      refine wpl_q (q_pure rfl) rfl ?_
      refine wpl_q (q32_add (b := (1 : UInt32)) rfl rfl) rfl ?_
      refine wpl_q (q_pure rfl) rfl ?_
      first | refine wpl_re 3 rfl (congrArg (fun u : UInt32 => Value.int .u32 ((u.toNat : Nat) : Int)) (ofNat_succ32 k)) ?_ | skip
      refine wpl_nil ?_
      refine ex_again ⟨(k + 1, s2, z), ⟨hat, hz⟩⟩ ?_ ?_ ?_
      ·
       exact (by repeat (first | exact trivial | refine ⟨rfl, ?_⟩))
      ·
       exact fun w h => by dsimp only; exact h.sel
      ·
       (show 6 - (k + 1) < 6 - k); omega
   ·
    have hk : k = 6 := by rw [e3] at hb14; simp only [decide_eq_false_iff_not] at hb14; omega
    have hF := hi0.2.2.1 hk
    refine wpl_off rfl rfl rfl rfl ?_
    refine wpl_off rfl rfl rfl rfl ?_
    refine wpl_q (q_pure rfl) rfl ?_
    refine wpl_nil ?_
    refine ex_then ?_
    refine wpc_cond_f rfl ?_
    refine wpc_exit ?_
    refine ex_then_exit ?_
    refine ex_then_exit ?_
    refine ex_block_hit ?_
    refine ex_then ?_
    refine wpc_seq ?_
    refine wpc_region ?_
    refine wpl_q (q_ldN Try.underlying27 rfl Try.ti27 rfl LenC.h) rfl ?_
    refine wpl_tp (t_callP3 Try.hb25 rfl fun w h => drop_ s y.1 y.2.1 y.2.2 0 w ⟨(hi0.1).m, h.seenV, h.seenV, h.seenV, by have := (hi0.1).d; omega, by have := (hi0.1).p; omega, by have := (hi0.1).k; omega⟩) rfl (fun b48 p48 => ?_)
    haveI := OneC.sv p48
    refine wpl_q (q_pure rfl) rfl ?_
    refine wpl_q (q_pure rfl) rfl ?_
    refine wpl_q (q_pure rfl) rfl ?_
    refine wpl_t (t_alloc Try.ti27 (St.z.c nl nl nl) rfl) rfl (fun b5 => ?_)
    refine wpl_t0 (t_stA Try.ti27 rfl rfl LenC.h OneC.h LenC.h) (fun _ => ?_)
    refine wpl_q (q_pure rfl) rfl ?_
    refine wpl_nil ?_
    refine ex_then ?_
    refine wpc_seq ?_
    refine wpc_region ?_
    refine wpl_q (q_pure rfl) rfl ?_
    refine wpl_q (q_tru (q_eqI rfl rfl) rfl) rfl ?_
    refine wpl_q (q_pure rfl) rfl ?_
    refine wpl_on rfl rfl ?_
    refine wpl_q (q_field Try.underlying27 rfl Try.ti24 rfl rfl _ rfl) rfl ?_
    refine wpl_on rfl rfl ?_
    refine wpl_q (q_ld Try.underlying24 rfl rfl (by first | exact St.c_d L32.h | exact St.c_p L32.h | exact St.c_k L32.h | exact St.c_b L32.h | exact St.c_u L32.h)) rfl ?_
    refine wpl_on rfl rfl ?_
    refine wpl_q (q_lenW Try.underlying24 rfl (by first | assumption | exact SV.nil | exact SV.slv (by assumption) (by omega) (by omega) | exact arv_sv (by first | decide | (simp only [maxLen]; omega)))) rfl ?_
    refine wpl_on rfl rfl ?_
    refine wpl_q (q_tru (q_eqI rfl rfl) (by rw [hF.p]; rfl)) rfl ?_
    refine wpl_q (q_pure rfl) rfl ?_
    refine wpl_q (q_pure rfl) rfl ?_
    refine wpl_on rfl rfl ?_
    refine wpl_q (q_pure rfl) rfl ?_
    refine wpl_on rfl rfl ?_
    refine wpl_q (q_tru (q_eqI rfl rfl) hF.drop) rfl ?_
    refine wpl_q (q_pure rfl) rfl ?_
    refine wpl_q (q_pure rfl) rfl ?_
    refine wpl_nil ?_
    refine ex_then ?_
    refine wpc_ret ?_
    refine ret1 (.inl rfl) rfl rfl ?_
    exact fun w h => ⟨rfl, h.below⟩

end Go.Proofs.Ytoaeklbenmlooaa
