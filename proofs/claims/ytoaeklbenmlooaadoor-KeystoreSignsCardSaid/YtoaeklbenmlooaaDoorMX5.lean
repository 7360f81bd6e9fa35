/- What the statement reaches, in order. -/
import Derived.Test.YtoaeklbenmlooaaDoorMXPLN
import Derived.Test.YtoaeklbenmlooaaDoorMXPLL
import Derived.Test.YtoaeklbenmlooaaDoorMXTI
import Derived.Test.YtoaeklbenmlooaaDoorMXPLI
import Derived.Test.YtoaeklbenmlooaaDoorMXPLZ
import Derived.WalkKit
import Derived.ProofKit
import Derived.OpenShut
import Derived.ChangeOld
import Derived.Below
import Derived.Carry
import Derived.LaidMore
import Derived.Deep.DeepHandedRow
import Derived.Deep.DeepWitnessRowRef
import Derived.Lib.LaidTab
import Derived.Stop.Joined
import Derived.Test.YtoaeklbenmlooaaDoorMX4
set_option linter.unusedSimpArgs false
set_option linter.unusedVariables false
set_option maxRecDepth 100000
namespace Go.Proofs.YtoaeklbenmlooaaDoor
open Go Go.PL Go.RowKit
theorem sib_eq (j : Nat) : j ^^^ 1 = if j % 2 = 1 then j - 1 else j + 1 := by
  have h := Nat.div_add_mod j 2
  split
  · rename_i h1
    have e : j = 2 * (j / 2) + 1 := by omega
    generalize j / 2 = c at e
    subst e
    rw [show 2 * c + 1 - 1 = 2 * c from zz16]
    apply Nat.eq_of_testBit_eq
    intro i
    cases i with
    | zero => simp [Nat.testBit_zero, Nat.testBit_xor]
    | succ i => simp [Nat.testBit_succ, Nat.xor_div_two]; congr 1; omega
  · have e : j = 2 * (j / 2) := by omega
    generalize j / 2 = c at e
    subst e
    apply Nat.eq_of_testBit_eq
    intro i
    cases i with
    | zero => simp [Nat.testBit_zero, Nat.testBit_xor]
    | succ i => simp [Nat.testBit_succ, Nat.xor_div_two]; congr 1; omega
theorem climb_add (x : List UInt8) (i f n : Nat) : ∀ m, climbF (climbF x i f n) i (f + n) m = climbF x i f (n + m)
  | 0 => rfl
  | m + 1 => by rw [climbF, climb_add x i f n m, ← Nat.add_assoc, climbF, Nat.add_assoc]
theorem chain_up (s : List UInt8) (i a b : Nat) (h : a ≤ b) : climbF (chainF s i a) i a (b - a) = chainF s i b := by
  have := climb_add (beginF s i) i 0 a (b - a)
  rw [Nat.zero_add, show a + (b - a) = b from zz16] at this
  exact this
theorem sg_get (s m : List UInt8) (n i : Nat) (h : i < n) : (sg s m n).getD i [] = chainF s i (dig m i) := by
  rw [sg, List.getD_eq_getElem?_getD, List.getElem?_map, List.getElem?_eq_getElem (by simpa using h)]; simp
theorem rec_signE (s m : List UInt8) (n : Nat) (i : Nat) (hi : i < n) (q : Nat) (hq : dig m i ≤ q) : climbF ((sg s m n).getD i []) i (dig m i) (q - dig m i) = chainF s i q := by
  rw [sg_get s m n i hi, chain_up s i _ _ hq]
theorem rec_acc (s m : List UInt8) (n q : Nat) (hq : ∀ i, dig m i ≤ q) : accF (fun i => climbF ((sg s m n).getD i []) i (dig m i) (q - dig m i)) n = accF (fun i => chainF s i q) n :=
  accF_congr _ _ n (fun i hi => rec_signE s m n i hi q (hq i)) n (Nat.le_refl _)
theorem recE_eq (m : List UInt8) (chs : List (List UInt8)) : recE m chs = fun i => climbF (chs.getD i []) i (dig m i) (15 - dig m i) := rfl
theorem rec_sign (s m : List UInt8) : recF m (signF s m) = publicF s := by
  have h1 : recF m (signF s m) = shortF (accF (recE m (signF s m)) 35) := if_pos (signF_length s m)
  rw [h1, recE_eq]
  exact congrArg shortF (rec_acc s m 35 15 (dig_le m))
theorem upF_path (s : List UInt8) (q m : Nat) : ∀ i, i ≤ m → upFM (nodeF s 0 q) q (pathF s q m) i = nodeF s i (q / 2 ^ i)
  | 0, _ => by rw [upFM, Nat.pow_zero, Nat.div_one]
  | i + 1, h => by
    have hg : (pathF s q m).getD i [] = nodeF s i ((q / 2 ^ i) ^^^ 1) := by
      rw [pathF, List.getD_eq_getElem?_getD, List.getElem?_map, List.getElem?_eq_getElem (by rw [List.length_range]; exact h)]; simp
    rw [upFM, upF_path s q m i zz16, hg, show q / 2 ^ (i + 1) = q / 2 ^ i / 2 by rw [Nat.pow_succ, Nat.div_div_eq_div_mul]]
    generalize q / 2 ^ i = j
    rw [sib_eq, nodeF, stepU]
    by_cases hj : j % 2 = 1
    · rw [if_neg zz16, if_pos hj, show 2 * (j / 2) + 1 = j from zz16, show 2 * (j / 2) = j - 1 from zz16]
    · rw [if_pos zz16, if_neg hj, show 2 * (j / 2) = j from zz16]
theorem root_path (s : List UInt8) (q m : Nat) (bs : List UInt8) (hq : q < 2 ^ m) : upFM (recF bs (signF (leafF s q) bs)) q (pathF s q m) m = nodeF s m 0 := by
  rw [rec_sign]
  have := upF_path s q m m (Nat.le_refl _)
  rw [Nat.div_eq_of_lt hq] at this
  exact this
theorem check_sign {s : List UInt8} {m q : Nat} {bs : List UInt8} (hm : m ≤ 4) (hq : q < 2 ^ m) : checkF m q (signF (leafF s q) bs).length (pathF s q m).length = 0 := by
  rw [signF_length, pathF_length]; exact check_0 zz16 ⟨zz16, zz16, rfl, rfl⟩
theorem root_sign {s : List UInt8} {m q : Nat} {bs : List UInt8} (hm : m ≤ 4) (hq : q < 2 ^ m) : rootF m q bs (signF (leafF s q) bs) (pathF s q m) = nodeF s m 0 := by
  have h : rootF m q bs (signF (leafF s q) bs) (pathF s q m) = upFM (recF bs (signF (leafF s q) bs)) q (pathF s q m) (pathF s q m).length := if_pos (check_sign hm hq)
  rw [h, pathF_length]; exact root_path s q m bs hq
theorem keyR_in {s : List UInt8} {m : Nat} (hm : m ≤ 4) : keyR s m = nodeF s m 0 := if_pos ⟨zz16, zz16⟩
theorem sig_ver (s : List UInt8) {ht idx : Int} (bs : List UInt8) (h : okS ht idx) : checkF (keyH ht) (sigI ht idx) (sigC s ht idx bs).length (sigP s ht idx).length = 0 ∧ rootF (keyH ht) (sigI ht idx) bs (sigC s ht idx bs) (sigP s ht idx) = keyR s ht := by
  obtain ⟨m, rfl⟩ : ∃ m : Nat, ht = (m : Int) := ⟨ht.toNat, by have := h.1; omega⟩
  obtain ⟨q, rfl⟩ : ∃ q : Nat, idx = (q : Int) := ⟨idx.toNat, by have := h.2; omega⟩
  have hm : m ≤ 4 := by have := h.1; omega
  have hq : q < 2 ^ m := by have h2 := h.2.2; rw [Int.toNat_natCast] at h2; exact Int.ofNat_lt.1 h2
  have e1 : sigC s m q bs = signF (leafF s q) bs := by unfold sigC; rw [if_pos h, Int.toNat_natCast]
  have e2 : sigP s m q = pathF s q m := by unfold sigP; rw [if_pos h, Int.toNat_natCast, Int.toNat_natCast]
  have e3 : keyH m = m := if_pos h.1
  have e4 : sigI m q = q := if_pos h
  rw [e1, e2, e3, e4, keyR_in hm]
  exact ⟨check_sign hm hq, root_sign hm hq⟩
theorem nx_le {s : St} (h : upF s true = 0) {j : Nat} (hj : j < s.ks.length) : 0 ≤ (s.ks.getD j KE.z).nx ∧ (s.ks.getD j KE.z).nx ≤ ((2 ^ (s.ks.getD j KE.z).ht.toNat : Nat) : Int) := by
  obtain ⟨h1, h2⟩ := upF_ok h
  have hu := h1.2.2.2.2 h2
  have h3 := hu.2.2.2 j hj
  obtain ⟨_, e2, _, _⟩ := okb h3
  have h4 := durF_le hu hj
  have h5 := ((scanR_good (s.dk ++ s.pd)).get (by rw [hu.2.2.1]; exact hj)).2.2.2.2.2
  simp only [okK, Bool.and_eq_true, decide_eq_true_eq] at h3
  rw [e2]
  exact ⟨h3.1.2, zz16⟩
theorem tk_inv {s : St} {id : UInt32} (h : (takeF s id).2.2 = 0) : ∃ j, (thereF s id).2 = 0 ∧ upF s true = 0 ∧ j < s.ks.length ∧ placeF s.ks id = ((j : Nat) : Int) ∧ ¬ (s.ks.getD j KE.z).nx = ((2 ^ (s.ks.getD j KE.z).ht.toNat : Nat) : Int) ∧ takeF s id = ((s.ks.getD j KE.z).nx, setK s j { s.ks.getD j KE.z with nx := (((s.ks.getD j KE.z).nx.toNat + 1 : Nat) : Int) }, 0) := by
  by_cases h1 : (thereF s id).2 = 0
  · obtain ⟨hup, j, hjl, hej, hth⟩ := there_ok h1
    by_cases h2 : (s.ks.getD j KE.z).nx = ((2 ^ (s.ks.getD j KE.z).ht.toNat : Nat) : Int)
    · rw [tk2 h1 hej h2] at h; cases h
    · by_cases h3 : (s.ks.getD j KE.z).nx = (s.ks.getD j KE.z).du
      · rw [tk3 h1 hej h2 h3] at h; cases h
      · exact ⟨j, h1, hup, hjl, hej, h2, tk4 h1 hej h2 h3⟩
  · rw [tk1 h1] at h; exact absurd h h1
theorem tk_bad {s : St} {id : UInt32} (h : (takeF s id).2.2 ≠ 0) : takeF s id = (0, St.z, (takeF s id).2.2) := by
  by_cases h1 : (thereF s id).2 = 0
  · obtain ⟨hup, j, hjl, hej, hth⟩ := there_ok h1
    by_cases h2 : (s.ks.getD j KE.z).nx = ((2 ^ (s.ks.getD j KE.z).ht.toNat : Nat) : Int)
    · rw [tk2 h1 hej h2]
    · by_cases h3 : (s.ks.getD j KE.z).nx = (s.ks.getD j KE.z).du
      · rw [tk3 h1 hej h2 h3]
      · rw [tk4 h1 hej h2 h3] at h; exact absurd rfl h
  · rw [tk1 h1]
theorem ok_sig {s : St} (h : upF s true = 0) {j : Nat} (hj : j < s.ks.length) (hn : ¬ (s.ks.getD j KE.z).nx = ((2 ^ (s.ks.getD j KE.z).ht.toNat : Nat) : Int)) : okS (s.ks.getD j KE.z).ht (s.ks.getD j KE.z).nx := by
  obtain ⟨n0, n1⟩ := nx_le h hj
  obtain ⟨k0, k1, _, _⟩ := key_ok h hj
  exact ⟨⟨k0, k1⟩, n0, zz16⟩
theorem place_setN {s : St} {id : UInt32} {j : Nat} (h : placeF s.ks id = ((j : Nat) : Int)) (x : Int) : placeF (s.ks.set j { s.ks.getD j KE.z with nx := x }) id = ((j : Nat) : Int) := by
  rw [← h]
  exact place_ids _ (ids_set rfl)
section
variable {P : Program} {Q : Exit → Act → World → Prop} {n : Cx} {L : Slots} {w0 : World} {Ln : List Nat} {M : List Ent} {S : List Fact}
theorem t_callP5 {k : FuncId} {args : Array Operand} {at_ : Array TypeId} {vs : List Value} {ι : Type} {p : ι → Prop} {V : ι → Value} {A B C D E : ι → Ent}
    (hb : HasBody P k) (hv : evs L args.toList = some vs) (hc : ∀ w, Mem w0 Ln M S w → Calls P k vs.toArray w (GivesP w p V (fun x => [A x, B x, C x, D x, E x]) (fun _ => []))) :
    TOpP P Q n (Mem w0 Ln M S) L (.call { callee := .value (.func k), args := args, argTypes := at_ }) ι p V (fun x => Mem w0 Ln (A x :: B x :: C x :: D x :: E x :: M) S) := t_callP hb hv hc
end
theorem sd16 (m : List UInt8) (id : UInt32) : (seedF m id).length = 16 := shortF_length _
instance lenC_pk {x : List UInt8} {t : Int} : LenC (v8s (keyR x t) ++ [Value.int .i64 (keyH t)]) 17 := ⟨by rw [List.length_append, v8s_length, keyR_length]; rfl⟩
instance lenC_pz : LenC (v8s (List.replicate 16 0) ++ [Value.int .i64 0]) 17 := ⟨rfl⟩
instance lenC_sz {a : Int} {u v : Value} : LenC [.int .i64 a, u, v] 3 := ⟨rfl⟩
theorem one_v8i (xs : List UInt8) (t : Int) : ∀ u ∈ v8s xs ++ [Value.int .i64 t], u.oneCell' = true := fun u hu => by
  rcases List.mem_append.1 hu with h | h
  · exact v8s_one _ u h
  · rw [List.mem_singleton] at h; subst h; rfl
instance oneC_pk {x : List UInt8} {t : Int} : OneC (v8s x ++ [Value.int .i64 t]) := ⟨one_v8i _ _⟩
end Go.Proofs.YtoaeklbenmlooaaDoor
namespace Go.Proofs.YtoaeklbenmlooaaDoor
open Go Go.PL Go.RowKit
theorem public18 (s : St) (dv pv kv : Value) (id : UInt32) (w : World) (hs : StS w.cell? s dv pv kv) (j : Nat) (hjl : j < s.ks.length) (hej : placeF s.ks id = ((j : Nat) : Int)) (hup : upF s true = 0) (hth : thereF s id = (((j : Nat) : Int), 0)) (hG : Glb w) :
    Calls Tryd.prog 16 [.agg (s.c dv pv kv).toArray, .int .u32 id.toNat].toArray w (Pur w (.tuple #[.agg (v8s (keyR (seedF s.ms id) (s.ks.getD j KE.z).ht) ++ [Value.int .i64 (keyH (s.ks.getD j KE.z).ht)]).toArray, .int .i64 0])) := by
  have sdv := hs.d.sv
  have spv := hs.p.sv
  have skv := hs.k.sv
  have l1dv := hs.ld
  have l1pv := hs.lp
  have l1kv := hs.lk
  obtain ⟨k0, k1, k2, k3⟩ := key_ok hup hjl
  refine enter (m := 31) (R := Mem w [] [] []) Tryd.func16 rfl rfl (Nat.le_of_ble_eq_true rfl) (Mem.start w) ?_
  refine wpc_seq <| wpc_region ?_
  refine wpl_t (t_box rfl (s.c dv pv kv) rfl) rfl (fun b2 => ?_)
  refine wpl_t (t_alloc Tryd.ti51 (v8s (List.replicate 16 0) ++ [Value.int .i64 0]) rfl) rfl (fun b4 => ?_)
  refine wpl_q (q_pure rfl) rfl <| wpl_nil <| ex_then <| wpc_seq <| wpc_region <| wpl_q (q_ldN Tryd.underlying35 rfl Tryd.ti35 rfl (St.c_length hs.len)) rfl <| wpl_q (q_pure rfl) rfl ?_
  refine wpl_t (t_pur (v := .tuple #[.int .i64 ((j : Nat) : Int), .int .i64 0]) Tryd.hb27 rfl fun w h => by
    have q := there_ s dv pv kv id w (StS.old h hs)
    rw [hth] at q
    exact q) rfl (fun b11 => ?_)
  refine wpl_q (q_pure rfl) rfl <| wpl_q (q_pure rfl) rfl <| wpl_q (q_pure rfl) rfl <| wpl_q (q_pure rfl) rfl <| wpl_q (q_pure rfl) rfl <| wpl_nil <| ex_then <| wpc_seq <| wpc_seq <| wpc_region <| wpl_q (q_pure rfl) rfl ?_
  refine wpl_q (q_bt (c := false) (q_neI rfl rfl) rfl) rfl ?_
  refine wpl_nil <| ex_then ?_
  refine wpc_cond_f rfl ?_
  refine wpc_skip <| ex_then <| wpc_seq ?_
  refine wpc_draw 13 zz6 (fun _ h => h.drew) ?_
  refine wpd_p 0 rfl zz6 trivial (q_field Tryd.underlying35 rfl Tryd.ti24 rfl rfl _ rfl) rfl sk0 ?_
  refine wpd_q 1 rfl zz6 trivial (q_ldP Tryd.underlying24 rfl Tryd.ti24 rfl (v8s s.ms) (St.c_m hs.len) (by rw [v8s_length]; exact hs.len)) rfl (fun _ h => h) ?_
  refine wpd_p 2 rfl zz6 trivial (q_pure rfl) rfl sk0 ?_
  refine wpd_p 4 rfl zz6 trivial (q_field Tryd.underlying35 rfl Tryd.ti26 rfl rfl _ rfl) rfl sk0 ?_
  refine wpd_q 5 rfl zz6 trivial (q_ld Tryd.underlying26 rfl rfl zz13) rfl (fun _ h => h) ?_
  refine wpd_p 6 rfl zz6 trivial (q_pure rfl) rfl sk0 ?_
  refine wpd_p 7 rfl zz6 trivial (q_idxW Tryd.underlying26 Tryd.ti40 rfl rfl zz3 zz1) rfl sk0 ?_
  refine wpd_p 8 rfl zz6 trivial (q_fieldPo 1 Tryd.underlying40 rfl Tryd.ti3 rfl rfl rfl) rfl sk0 ?_
  refine wpd_q 9 rfl zz6 trivial (q_ldWF Tryd.underlying3 rfl rfl (fun w h => h.seen_old hs.k) (kcs_get hjl rfl)) rfl (fun _ h => h) ?_
  refine wpd_t 3 rfl zz6 trivial (t_pur Tryd.hb8 rfl fun w h => seed s.ms id w hs.len (glob h hG)) rfl (fun _ => sk0) (fun b21 => ?_)
  refine wpd_t 10 rfl zz6 trivial (t_pur (v := .tuple #[.agg (v8s (keyR (seedF s.ms id) (s.ks.getD j KE.z).ht) ++ [Value.int .i64 (keyH (s.ks.getD j KE.z).ht)]).toArray, .int .i64 0]) Tryd.hb31 rfl fun w h => by
    have q := key7 (seedF s.ms id) (s.ks.getD j KE.z).ht w (sd16 _ _) (glob h hG)
    rw [show keyE (s.ks.getD j KE.z).ht = 0 from if_pos ⟨k0, k1⟩] at q
    exact q) rfl (fun _ => sk0) (fun b28 => ?_)
  refine wpd_p 11 rfl zz6 trivial (q_pure rfl) rfl sk0 ?_
  refine wpd_p 12 rfl zz6 trivial (q_pure rfl) rfl sk0 ?_
  refine wpd_t0 13 rfl zz6 trivial (t_stA Tryd.ti51 rfl rfl LenC.h OneC.h LenC.h) (fun _ => skk rfl) (fun _ => ?_)
  refine wpd_p 14 rfl zz6 trivial (q_pure rfl) rfl (skk rfl) ?_
  refine wpd_done zz6 ?_
  refine ex_then <| wpc_ret ?_
  refine retv2 (.inl rfl) rfl (rv_agg Tryd.underlying51 rfl Tryd.ti51 rfl (fun w h => h.atB) zz2) (rv_tmp rfl) ?_
  exact fun w h => ⟨rfl, h.below⟩
end Go.Proofs.YtoaeklbenmlooaaDoor
namespace Go.Proofs.YtoaeklbenmlooaaDoor
open Go Go.PL Go.RowKit
theorem take_ok (s : St) (dv pv kv : Value) (id : UInt32) (w : World) (hs : StS w.cell? s dv pv kv) (j : Nat) (htk : takeF s id = ((s.ks.getD j KE.z).nx, (setK s j { (s.ks.getD j KE.z) with nx := ((((s.ks.getD j KE.z).nx.toNat + 1 : Nat)) : Int) }), 0)) : Calls Tryd.prog 13 [.agg (s.c dv pv kv).toArray, .int .u32 id.toNat].toArray w (GivesP w (fun x : V3 => (setK s j { (s.ks.getD j KE.z) with nx := ((((s.ks.getD j KE.z).nx.toNat + 1 : Nat)) : Int) }).sv x) (fun x => .tuple #[.int .i64 (s.ks.getD j KE.z).nx, stV (setK s j { (s.ks.getD j KE.z) with nx := ((((s.ks.getD j KE.z).nx.toNat + 1 : Nat)) : Int) }) x, .int .i64 0]) (fun x => [dRow x.1 (setK s j { (s.ks.getD j KE.z) with nx := ((((s.ks.getD j KE.z).nx.toNat + 1 : Nat)) : Int) }).dk, dRow x.2.1 (setK s j { (s.ks.getD j KE.z) with nx := ((((s.ks.getD j KE.z).nx.toNat + 1 : Nat)) : Int) }).pd, kRow x.2.2 (setK s j { (s.ks.getD j KE.z) with nx := ((((s.ks.getD j KE.z).nx.toNat + 1 : Nat)) : Int) }).ks]) (fun _ => [])) := by
  have q := take_ s dv pv kv id w hs
  rw [htk] at q
  exact q
theorem take_no (s : St) (dv pv kv : Value) (id : UInt32) (w : World) (hs : StS w.cell? s dv pv kv) (e : Int) (htk : takeF s id = (0, St.z, e)) : Calls Tryd.prog 13 [.agg (s.c dv pv kv).toArray, .int .u32 id.toNat].toArray w (GivesP w (fun x : V3 => St.z.sv x) (fun x => .tuple #[.int .i64 0, stV St.z x, .int .i64 e]) (fun x => [dRow x.1 St.z.dk, dRow x.2.1 St.z.pd, kRow x.2.2 St.z.ks]) (fun _ => [])) := by
  have q := take_ s dv pv kv id w hs
  rw [htk] at q
  exact q
theorem sign_ (s : St) (dv pv kv : Value) (id : UInt32) (mv : Value) (ms : List UInt8) (w : World) (hs : StS w.cell? s dv pv kv) (hmv : Seen w.cell? mv ms.length 1 (v8s ms)) (hml : ms.length ≤ 300) (j : Nat) (hjl : j < s.ks.length) (hej : placeF s.ks id = ((j : Nat) : Int)) (hup : upF s true = 0) (htk : takeF s id = ((s.ks.getD j KE.z).nx, (setK s j { (s.ks.getD j KE.z) with nx := ((((s.ks.getD j KE.z).nx.toNat + 1 : Nat)) : Int) }), 0)) (ho : okS (s.ks.getD j KE.z).ht (s.ks.getD j KE.z).nx) (hG : Glb w) :
    Calls Tryd.prog 14 [.agg (s.c dv pv kv).toArray, .int .u32 id.toNat, mv].toArray w (GivesP w (fun y : (Value × Value) × V3 => (SV y.1.1 (sigC (seedF s.ms id) (s.ks.getD j KE.z).ht (s.ks.getD j KE.z).nx ms).length ∧ SV y.1.2 (sigP (seedF s.ms id) (s.ks.getD j KE.z).ht (s.ks.getD j KE.z).nx).length) ∧ (setK s j { (s.ks.getD j KE.z) with nx := ((((s.ks.getD j KE.z).nx.toNat + 1 : Nat)) : Int) }).sv y.2) (fun y => .tuple #[.agg #[.int .i64 (s.ks.getD j KE.z).nx, y.1.1, y.1.2], stV (setK s j { (s.ks.getD j KE.z) with nx := ((((s.ks.getD j KE.z).nx.toNat + 1 : Nat)) : Int) }) y.2, .int .i64 0]) (fun y => [.row y.1.1 (sigC (seedF s.ms id) (s.ks.getD j KE.z).ht (s.ks.getD j KE.z).nx ms).length 31 16 (v8s (sigC (seedF s.ms id) (s.ks.getD j KE.z).ht (s.ks.getD j KE.z).nx ms).flatten), .row y.1.2 (sigP (seedF s.ms id) (s.ks.getD j KE.z).ht (s.ks.getD j KE.z).nx).length 31 16 (v8s (sigP (seedF s.ms id) (s.ks.getD j KE.z).ht (s.ks.getD j KE.z).nx).flatten), dRow y.2.1 (setK s j { (s.ks.getD j KE.z) with nx := ((((s.ks.getD j KE.z).nx.toNat + 1 : Nat)) : Int) }).dk, dRow y.2.2.1 (setK s j { (s.ks.getD j KE.z) with nx := ((((s.ks.getD j KE.z).nx.toNat + 1 : Nat)) : Int) }).pd, kRow y.2.2.2 (setK s j { (s.ks.getD j KE.z) with nx := ((((s.ks.getD j KE.z).nx.toNat + 1 : Nat)) : Int) }).ks]) (fun _ => [])) := by
  have sdv := hs.d.sv
  have spv := hs.p.sv
  have skv := hs.k.sv
  have l1dv := hs.ld
  have l1pv := hs.lp
  have l1kv := hs.lk
  have smv := hmv.sv
  have lmv := smv.le
  simp only [maxLen] at lmv
  obtain ⟨k0, k1, k2, k3⟩ := key_ok hup hjl
  have hk8 := keys_le hup
  refine enter (m := 48) (R := Mem w [] [] []) Tryd.func14 rfl rfl (Nat.le_of_ble_eq_true rfl) (Mem.start w) ?_
  refine wpc_seq <| wpc_region ?_
  refine wpl_t (t_box rfl (s.c dv pv kv) rfl) rfl (fun b3 => ?_)
  refine wpl_t (t_alloc Tryd.ti46 [.int .i64 0, .slice none 0 0, .slice none 0 0] rfl) rfl (fun b6 => ?_)
  refine wpl_t (t_alloc Tryd.ti35 (St.z.c nl nl nl) rfl) rfl (fun b7 => ?_)
  refine wpl_q (q_pure rfl) rfl <| wpl_nil <| ex_then <| wpc_seq <| wpc_region <| wpl_q (q_ldN Tryd.underlying35 rfl Tryd.ti35 rfl (St.c_length hs.len)) rfl <| wpl_q (q_pure rfl) rfl ?_
  refine wpl_tp (t_callP3 Tryd.hb13 rfl fun w h => take_ok s dv pv kv id w (StS.old h hs) j htk) rfl (fun b13 p13 => ?_)
  have q3 : SV b13.2.2 s.ks.length := by rw [show s.ks.length = (s.ks.set j { (s.ks.getD j KE.z) with nx := ((((s.ks.getD j KE.z).nx.toNat + 1 : Nat)) : Int) }).length from (List.length_set ..).symm]; exact p13.2.2
  have hjs : j < (s.ks.set j { (s.ks.getD j KE.z) with nx := ((((s.ks.getD j KE.z).nx.toNat + 1 : Nat)) : Int) }).length := by rw [List.length_set]; exact hjl
  haveI : LenC ((setK s j { (s.ks.getD j KE.z) with nx := ((((s.ks.getD j KE.z).nx.toNat + 1 : Nat)) : Int) }).c b13.1 b13.2.1 b13.2.2) 37 := ⟨St.c_length (s := (setK s j { (s.ks.getD j KE.z) with nx := ((((s.ks.getD j KE.z).nx.toNat + 1 : Nat)) : Int) })) hs.len⟩
  haveI : OneC ((setK s j { (s.ks.getD j KE.z) with nx := ((((s.ks.getD j KE.z).nx.toNat + 1 : Nat)) : Int) }).c b13.1 b13.2.1 b13.2.2) := ⟨St.c_one (s := (setK s j { (s.ks.getD j KE.z) with nx := ((((s.ks.getD j KE.z).nx.toNat + 1 : Nat)) : Int) })) p13.1 p13.2.1 p13.2.2⟩
  refine wpl_q (q_pure rfl) rfl <| wpl_q (q_pure rfl) rfl <| wpl_q (q_pure rfl) rfl <| wpl_q (q_pure rfl) rfl <| wpl_q (q_pure rfl) rfl ?_
  refine wpl_t0 (t_stA Tryd.ti35 rfl rfl zz18 zz24 zz18) (fun _ => ?_)
  refine wpl_q (q_pure rfl) rfl <| wpl_nil <| ex_then <| wpc_seq <| wpc_seq <| wpc_region <| wpl_q (q_pure rfl) rfl ?_
  refine wpl_q (q_bt (c := false) (q_neI rfl rfl) rfl) rfl ?_
  refine wpl_nil <| ex_then ?_
  refine wpc_cond_f rfl ?_
  refine wpc_skip <| ex_then <| wpc_seq ?_
  refine wpc_draw 19 zz6 (fun _ h => h.drew) ?_
  refine wpd_p 0 rfl zz6 trivial (q_field Tryd.underlying35 rfl Tryd.ti24 rfl rfl _ rfl) rfl sk0 ?_
  refine wpd_q 1 rfl zz6 trivial (q_ldP Tryd.underlying24 rfl Tryd.ti24 rfl (v8s s.ms) (St.c_m hs.len) (by rw [v8s_length]; exact hs.len)) rfl (fun _ h => h) ?_
  refine wpd_p 2 rfl zz6 trivial (q_pure rfl) rfl sk0 ?_
  refine wpd_p 4 rfl zz6 trivial (q_field Tryd.underlying35 rfl Tryd.ti26 rfl rfl _ rfl) rfl sk0 ?_
  refine wpd_q 5 rfl zz6 trivial (q_ld Tryd.underlying26 rfl rfl zz51) rfl (fun _ h => h) ?_
  refine wpd_p 6 rfl zz6 trivial (q_field Tryd.underlying35 rfl Tryd.ti26 rfl rfl _ rfl) rfl sk0 ?_
  refine wpd_q 7 rfl zz6 trivial (q_ld Tryd.underlying26 rfl rfl zz51) rfl (fun _ h => h) ?_
  refine wpd_p 8 rfl zz6 trivial (q_pure rfl) rfl sk0 ?_
  refine wpd_p 13 rfl zz6 trivial (q_pure rfl) rfl sk0 ?_
  refine wpd_p 14 rfl zz6 trivial (q_pure rfl) rfl sk0 ?_
  refine wpd_t 3 rfl zz6 trivial (t_pur Tryd.hb8 rfl fun w h => seed s.ms id w hs.len (glob h hG)) rfl (fun _ => sk0) (fun b26 => ?_)
  refine wpd_t 9 rfl zz6 trivial (t_pur (v := .int .i64 ((j : Nat) : Int)) Tryd.hb30 rfl fun w h => by
    have q := place b13.2.2 (s.ks.set j { (s.ks.getD j KE.z) with nx := ((((s.ks.getD j KE.z).nx.toNat + 1 : Nat)) : Int) }) id w (show Seen w.cell? b13.2.2 (s.ks.set j { (s.ks.getD j KE.z) with nx := ((((s.ks.getD j KE.z).nx.toNat + 1 : Nat)) : Int) }).length 6 (kcs (s.ks.set j { (s.ks.getD j KE.z) with nx := ((((s.ks.getD j KE.z).nx.toNat + 1 : Nat)) : Int) })) from h.seenV)
    rwa [place_setN hej] at q) rfl (fun _ => sk0) (fun b32 => ?_)
  refine wpd_p 10 rfl zz6 trivial (q_idxW Tryd.underlying26 Tryd.ti40 rfl rfl zz3 zz1) rfl sk0 ?_
  refine wpd_p 11 rfl zz6 trivial (q_fieldPo 1 Tryd.underlying40 rfl Tryd.ti3 rfl rfl rfl) rfl sk0 ?_
  refine wpd_q 12 rfl zz6 trivial (q_ldWF Tryd.underlying3 rfl rfl (fun w h => (show Seen w.cell? b13.2.2 (s.ks.set j { (s.ks.getD j KE.z) with nx := ((((s.ks.getD j KE.z).nx.toNat + 1 : Nat)) : Int) }).length 6 (kcs (s.ks.set j { (s.ks.getD j KE.z) with nx := ((((s.ks.getD j KE.z).nx.toNat + 1 : Nat)) : Int) })) from h.seenV)) (set_get (v := .int .i64 (s.ks.getD j KE.z).ht) hjl rfl)) rfl (fun _ h => h) ?_
  refine wpd_tp 15 rfl zz6 trivial (t_callP2 Tryd.hb29 rfl fun w h => by
    have q := sign7 (seedF s.ms id) (s.ks.getD j KE.z).ht (s.ks.getD j KE.z).nx mv ms w (sd16 _ _) (h.seen_old hmv) (glob h hG)
    rw [show sigI (s.ks.getD j KE.z).ht (s.ks.getD j KE.z).nx = (s.ks.getD j KE.z).nx from if_pos ho, show sigE (s.ks.getD j KE.z).ht (s.ks.getD j KE.z).nx = 0 from if_pos ho] at q
    exact q) rfl (fun _ => (fun w h => .inr (h.sub SubC.h SubC.h))) (fun b38 p38 => ?_)
  have svz1 := p38.1
  have svz2 := p38.2
  haveI : OneC [.int .i64 (s.ks.getD j KE.z).nx, b38.1, b38.2] := OneC.cons rfl (OneC.cons (SV.one p38.1) (OneC.cons (SV.one p38.2) oneC_nil))
  refine wpd_p 16 rfl zz6 trivial (q_pure rfl) rfl (fun w h => .inr (h.sub SubC.h SubC.h)) ?_
  refine wpd_p 17 rfl zz6 trivial (q_pure rfl) rfl (fun w h => .inr (h.sub SubC.h SubC.h)) ?_
  refine wpd_p 18 rfl zz6 trivial (q_pure rfl) rfl (fun w h => .inr (h.sub SubC.h SubC.h)) ?_
  refine wpd_t0 19 rfl zz6 trivial (t_stA Tryd.ti46 rfl rfl zz18 zz24 zz18) (fun _ => skk rfl) (fun _ => ?_)
  refine wpd_p 20 rfl zz6 trivial (q_pure rfl) rfl (skk rfl) ?_
  refine wpd_done zz6 ?_
  refine ex_then <| wpc_seq <| wpc_seq <| wpc_region <| wpl_q (q_pure rfl) rfl ?_
  refine wpl_q (q_bt (c := false) (q_neI rfl rfl) rfl) rfl ?_
  refine wpl_nil <| ex_then ?_
  refine wpc_cond_f rfl ?_
  refine wpc_skip <| ex_then <| wpc_seq ?_
  refine wpc_draw 99 zz6 (fun _ h => h.drew) ?_
  refine wpd_q 0 rfl zz6 trivial (q_ldN Tryd.underlying46 rfl Tryd.ti46 rfl LenC.h) rfl (fun _ h => h) ?_
  refine wpd_q 1 rfl zz6 trivial (q_ldN Tryd.underlying35 rfl Tryd.ti35 rfl LenC.h) rfl (fun _ h => h) ?_
  refine wpd_t0 2 rfl zz6 trivial (t_stA Tryd.ti46 rfl rfl zz18 zz24 zz18) (fun _ => (fun w h => .inr (h.sub SubC.h SubC.h))) (fun _ => ?_)
  refine wpd_t0 3 rfl zz6 trivial (t_stA Tryd.ti35 rfl rfl zz18 zz24 zz18) (fun _ => (fun w h => .inr (h.sub SubC.h SubC.h))) (fun _ => ?_)
  refine wpd_p 4 rfl zz6 trivial (q_pure rfl) rfl (fun w h => .inr (h.sub SubC.h SubC.h)) ?_
  refine wpd_done zz6 ?_
  refine ex_then <| wpc_ret ?_
  refine retv3 (.inl rfl) rfl (rv_agg Tryd.underlying46 rfl Tryd.ti46 rfl (fun w h => h.atB) rfl) (rv_agg Tryd.underlying35 rfl Tryd.ti35 rfl (fun w h => h.atB) (St.c_length (s := (setK s j { (s.ks.getD j KE.z) with nx := ((((s.ks.getD j KE.z).nx.toNat + 1 : Nat)) : Int) })) hs.len)) (rv_tmp rfl) ?_
  exact fun w h => ⟨(b38, b13), ⟨p38, p13⟩, rfl, h.below, h.made zz8 .nil⟩
theorem sign0 (s : St) (dv pv kv : Value) (id : UInt32) (mv : Value) (ms : List UInt8) (w : World) (hs : StS w.cell? s dv pv kv) (hmv : Seen w.cell? mv ms.length 1 (v8s ms)) (hml : ms.length ≤ 300) (e : Int) (htk : takeF s id = (0, St.z, e)) (he : e ≠ 0) :
    Calls Tryd.prog 14 [.agg (s.c dv pv kv).toArray, .int .u32 id.toNat, mv].toArray w (Pur w (.tuple #[.agg #[.int .i64 0, .slice none 0 0, .slice none 0 0], .agg (St.z.c nl nl nl).toArray, .int .i64 e])) := by
  have sdv := hs.d.sv
  have spv := hs.p.sv
  have skv := hs.k.sv
  have l1dv := hs.ld
  have l1pv := hs.lp
  have l1kv := hs.lk
  have smv := hmv.sv
  have lmv := smv.le
  simp only [maxLen] at lmv
  refine enter (m := 48) (R := Mem w [] [] []) Tryd.func14 rfl rfl (Nat.le_of_ble_eq_true rfl) (Mem.start w) ?_
  refine wpc_seq <| wpc_region ?_
  refine wpl_t (t_box rfl (s.c dv pv kv) rfl) rfl (fun b3 => ?_)
  refine wpl_t (t_alloc Tryd.ti46 [.int .i64 0, .slice none 0 0, .slice none 0 0] rfl) rfl (fun b6 => ?_)
  refine wpl_t (t_alloc Tryd.ti35 (St.z.c nl nl nl) rfl) rfl (fun b7 => ?_)
  refine wpl_q (q_pure rfl) rfl <| wpl_nil <| ex_then <| wpc_seq <| wpc_region <| wpl_q (q_ldN Tryd.underlying35 rfl Tryd.ti35 rfl (St.c_length hs.len)) rfl <| wpl_q (q_pure rfl) rfl ?_
  refine wpl_tp (t_callP3 Tryd.hb13 rfl fun w h => take_no s dv pv kv id w (StS.old h hs) e htk) rfl (fun b13 p13 => ?_)
  haveI : LenC (St.z.c b13.1 b13.2.1 b13.2.2) 37 := ⟨St.c_length (s := St.z) rfl⟩
  haveI : OneC (St.z.c b13.1 b13.2.1 b13.2.2) := ⟨St.c_one (s := St.z) p13.1 p13.2.1 p13.2.2⟩
  refine wpl_q (q_pure rfl) rfl <| wpl_q (q_pure rfl) rfl <| wpl_q (q_pure rfl) rfl <| wpl_q (q_pure rfl) rfl <| wpl_q (q_pure rfl) rfl ?_
  refine wpl_t0 (t_stA Tryd.ti35 rfl rfl zz36 zz56 zz36) (fun _ => ?_)
  refine wpl_q (q_pure rfl) rfl <| wpl_nil <| ex_then <| wpc_seq <| wpc_seq <| wpc_region <| wpl_q (q_pure rfl) rfl ?_
  refine wpl_q (q_bt (c := true) (q_neI rfl rfl) (by rw [decide_eq_false he]; rfl)) rfl ?_
  refine wpl_nil <| ex_then ?_
  refine wpc_cond_t rfl ?_
  refine wpc_seq <| wpc_region ?_
  refine wpl_q (q_build (cs := [.int .i64 0, .slice none 0 0, .slice none 0 0]) rfl zz6) rfl ?_
  refine wpl_q (q_build (cs := St.z.c nl nl nl) rfl built_st0) rfl ?_
  refine wpl_q (q_pure rfl) rfl ?_
  refine wpl_t0 (t_stA Tryd.ti46 rfl rfl zz36 zz56 zz36) (fun _ => ?_)
  refine wpl_t0 (t_stA Tryd.ti35 rfl rfl zz36 zz56 zz36) (fun _ => ?_)
  refine wpl_q (q_pure rfl) rfl <| wpl_nil <| ex_then <| wpc_ret ?_
  refine ex_then_ret ?_
  refine retv3 (.inl rfl) rfl (rv_agg Tryd.underlying46 rfl Tryd.ti46 rfl (fun w h => h.atB) rfl) (rv_agg Tryd.underlying35 rfl Tryd.ti35 rfl (fun w h => h.atB) (St.c_length rfl)) (rv_tmp rfl) ?_
  exact fun w h => ⟨rfl, h.below⟩
end Go.Proofs.YtoaeklbenmlooaaDoor
namespace Go.Proofs.YtoaeklbenmlooaaDoor
open Go Go.PL Go.RowKit
theorem lawA (s : St) (dv pv kv : Value) (id : UInt32) (mv : Value) (ms : List UInt8) (w : World) (hln : s.ms.length = 32) (hd : Seen w.cell? dv s.dk.length 1 (v8s s.dk)) (hp : Seen w.cell? pv s.pd.length 1 (v8s s.pd)) (hk : Seen w.cell? kv s.ks.length 6 (kcs s.ks)) (hmv : Seen w.cell? mv ms.length 1 (v8s ms)) (j : Nat) (hjl : j < s.ks.length) (hej : placeF s.ks id = ((j : Nat) : Int)) (hup : upF s true = 0) (hth : thereF s id = (((j : Nat) : Int), 0)) (htk : takeF s id = ((s.ks.getD j KE.z).nx, (setK s j { (s.ks.getD j KE.z) with nx := ((((s.ks.getD j KE.z).nx.toNat + 1 : Nat)) : Int) }), 0)) (ho : okS (s.ks.getD j KE.z).ht (s.ks.getD j KE.z).nx) (hver : checkF (keyH (s.ks.getD j KE.z).ht) (s.ks.getD j KE.z).nx (sigC (seedF s.ms id) (s.ks.getD j KE.z).ht (s.ks.getD j KE.z).nx ms).length (sigP (seedF s.ms id) (s.ks.getD j KE.z).ht (s.ks.getD j KE.z).nx).length = 0 ∧ rootF (keyH (s.ks.getD j KE.z).ht) (s.ks.getD j KE.z).nx ms (sigC (seedF s.ms id) (s.ks.getD j KE.z).ht (s.ks.getD j KE.z).nx ms) (sigP (seedF s.ms id) (s.ks.getD j KE.z).ht (s.ks.getD j KE.z).nx) = keyR (seedF s.ms id) (s.ks.getD j KE.z).ht) (hG : Glb w) :
    Calls Tryd.prog 4 [.agg (s.c dv pv kv).toArray, .int .u32 id.toNat, mv].toArray w (Pur w (.bool true)) := by
  have smv := hmv.sv
  have lmv := smv.le
  simp only [maxLen] at lmv
  refine enter (m := 111) (R := Mem w [] [] []) Tryd.func4 rfl rfl (Nat.le_of_ble_eq_true rfl) (Mem.start w) ?_
  refine wpc_seq <| wpc_region ?_
  refine wpl_t (t_box rfl (s.c dv pv kv) rfl) rfl (fun b3 => ?_)
  refine wpl_q (q_pure rfl) rfl <| wpl_nil <| ex_then <| wpc_seq <| wpc_region ?_
  refine wpl_t (t_pur (v := .bool true) Tryd.hb10 rfl fun w h => alive w) rfl (fun b17 => ?_)
  refine wpl_q (q_pure rfl) rfl <| wpl_nil <| ex_then <| wpc_seq <| wpc_seq <| wpc_region <| wpl_q (q_ldN Tryd.underlying35 rfl Tryd.ti35 rfl (St.c_length hln)) rfl ?_
  refine wpl_t (t_pur Tryd.hb11 rfl fun w h => refGreat s dv pv kv w hln hd.sv hp.sv hk.sv) rfl (fun b19 => ?_)
  refine wpl_q (q_pure rfl) rfl ?_
  refine wpl_bool2 20 19 rfl rfl (fun hb20 => ?_) (fun hb20 => ?_)
  ·
   refine wpl_off rfl rfl rfl rfl <| wpl_off rfl rfl rfl rfl <| wpl_off rfl rfl rfl rfl <| wpl_q (q_pure rfl) rfl <| wpl_q (q_pure rfl) rfl <| wpl_off rfl rfl rfl rfl <| wpl_off rfl rfl rfl rfl <| wpl_q (q_pure rfl) rfl <| wpl_nil <| ex_then ?_
   refine wpc_cond_t rfl ?_
   refine wpc_seq <| wpc_region <| wpl_q (q_pure rfl) rfl <| wpl_q (q_pure rfl) rfl <| wpl_nil <| ex_then <| wpc_ret ?_
   refine ex_then_ret ?_
   refine ret1 (.inl rfl) rfl rfl ?_
   exact fun w h => ⟨by first | rfl | simp, h.below⟩
  ·
   have hg := great_f hb20
   have hs : StS w.cell? s dv pv kv := ⟨hln, hd, hp, hk, zz16, zz16, zz16⟩
   have skv := hk.sv
   refine wpl_on rfl rfl <| wpl_q (q_pure rfl) rfl <| wpl_on rfl rfl ?_
   refine wpl_q (q_lenW Tryd.underlying22 rfl zz3) rfl ?_
   refine wpl_on rfl rfl <| wpl_q (q_pure rfl) rfl <| wpl_q (q_pure rfl) rfl <| wpl_q (q_pure rfl) rfl ?_
   refine wpl_bool2 25 23 rfl rfl (fun hb25 => ?_) (fun hb25 => ?_)
   ·
    refine wpl_off rfl rfl rfl rfl <| wpl_off rfl rfl rfl rfl <| wpl_q (q_pure rfl) rfl <| wpl_nil <| ex_then ?_
    refine wpc_cond_t rfl ?_
    refine wpc_seq <| wpc_region <| wpl_q (q_pure rfl) rfl <| wpl_q (q_pure rfl) rfl <| wpl_nil <| ex_then <| wpc_ret ?_
    refine ex_then_ret ?_
    refine ret1 (.inl rfl) rfl rfl ?_
    exact fun w h => ⟨by first | rfl | simp, h.below⟩
   ·
    have hml : ms.length ≤ 300 := by have := of_decide_eq_false hb25; omega
    refine wpl_on rfl rfl <| wpl_q (q_pure rfl) rfl <| wpl_on rfl rfl <| wpl_q (q_pure rfl) rfl <| wpl_q (q_pure rfl) rfl <| wpl_nil <| ex_then ?_
    refine wpc_cond_f rfl ?_
    refine wpc_skip <| ex_then <| wpc_seq <| wpc_region <| wpl_q (q_field Tryd.underlying35 rfl Tryd.ti26 rfl rfl _ rfl) rfl ?_
    refine wpl_q (q_ld Tryd.underlying26 rfl rfl zz21) rfl ?_
    refine wpl_q (q_pure rfl) rfl ?_
    refine wpl_t (t_pur Tryd.hb12 rfl fun w h => refPlace kv s.ks id w (h.seen_old hk)) rfl (fun b33 => ?_)
    refine wpl_q (q_pure rfl) rfl <| wpl_nil <| ex_then <| wpc_seq ?_
    refine wpc_cutc ({ x : Bool // True }) [(1, .int .u32 id.toNat), (2, mv), (3, .pointer (some ⟨b3, 0, none⟩)), (7, .bool true)] (fun x Lc => (44, .bool x.1) :: Lc) (fun x => Mem w [] [.blk b3 35 (s.c dv pv kv)] []) ?_ ?_
    ·
     refine wpc_region <| wpl_q (q_pure rfl) rfl <| wpl_q (q_pure rfl) rfl <| wpl_q (q_pure rfl) rfl ?_
     refine wpl_bool2 36 35 rfl rfl (fun hb36 => ?_) (fun hb36 => ?_)
     ·
      obtain ⟨hjl2, hej2⟩ := place_nat (ks := s.ks) (id := id) (by simpa using hb36)
      refine wpl_re 8 rfl (congrArg (Value.int .i64) hej2) ?_
      refine wpl_on rfl rfl <| wpl_q (q_field Tryd.underlying35 rfl Tryd.ti26 rfl rfl _ rfl) rfl <| wpl_on rfl rfl ?_
      refine wpl_q (q_ld Tryd.underlying26 rfl rfl zz21) rfl ?_
      refine wpl_on rfl rfl <| wpl_q (q_pure rfl) rfl <| wpl_on rfl rfl ?_
      refine wpl_q (q_idxW Tryd.underlying26 Tryd.ti40 rfl rfl zz3 zz1) rfl ?_
      refine wpl_on rfl rfl <| wpl_q (q_fieldPo 1 Tryd.underlying40 rfl Tryd.ti3 rfl rfl rfl) rfl <| wpl_on rfl rfl ?_
      refine wpl_q (q_ldWF Tryd.underlying3 rfl rfl (fun w h => h.seen_old hk) (kcs_get hjl2 rfl)) rfl ?_
      refine wpl_on rfl rfl <| wpl_q (q_pure rfl) rfl <| wpl_q (q_pure rfl) rfl <| wpl_nil ?_
      refine ex_mid ⟨decide ((s.ks.getD (placeF s.ks id).toNat KE.z).ht > 2), trivial⟩ ?_ ?_
      ·
       exact zz14
      ·
       exact fun w h => by first | exact h | exact h.sub SubC.h SubC.h | exact h.sub zz8 zz8
     ·
      refine wpl_off rfl rfl rfl rfl <| wpl_off rfl rfl rfl rfl <| wpl_off rfl rfl rfl rfl <| wpl_off rfl rfl rfl rfl <| wpl_off rfl rfl rfl rfl <| wpl_off rfl rfl rfl rfl <| wpl_off rfl rfl rfl rfl <| wpl_q (q_pure rfl) rfl <| wpl_nil ?_
      refine ex_mid ⟨false, trivial⟩ ?_ ?_
      ·
       exact zz14
      ·
       exact fun w h => by first | exact h | exact h.sub SubC.h SubC.h | exact h.sub zz8 zz8
    ·
     rintro ⟨c, _⟩; try dsimp only
     refine wpc_cond rfl (fun hc44 => ?_) (fun hc44 => ?_)
     ·
      try simp only [decide_eq_true_eq, decide_eq_false_iff_not, Bool.and_eq_true, Bool.or_eq_true, beq_iff_eq, bne_iff_ne, ne_eq, Bool.not_eq_true', Bool.not_eq_false', Decidable.not_not] at hc44
      refine wpc_seq <| wpc_region <| wpl_q (q_pure rfl) rfl <| wpl_q (q_pure rfl) rfl <| wpl_nil <| ex_then <| wpc_ret ?_
      refine ex_then_ret ?_
      refine ret1 (.inl rfl) rfl rfl ?_
      exact fun w h => ⟨by first | rfl | simp, h.below⟩
     ·
      try simp only [decide_eq_true_eq, decide_eq_false_iff_not, Bool.and_eq_true, Bool.or_eq_true, beq_iff_eq, bne_iff_ne, ne_eq, Bool.not_eq_true', Bool.not_eq_false', Decidable.not_not] at hc44
      refine wpc_skip <| ex_then <| wpc_seq <| wpc_region <| wpl_q (q_ldN Tryd.underlying35 rfl Tryd.ti35 rfl (St.c_length hln)) rfl <| wpl_q (q_pure rfl) rfl ?_
      refine wpl_tp (t_callP3 Tryd.hb13 rfl fun w h => take_ok s dv pv kv id w (StS.old h hs) j htk) rfl (fun b49 p49 => ?_)
      haveI : LenC ((setK s j { (s.ks.getD j KE.z) with nx := ((((s.ks.getD j KE.z).nx.toNat + 1 : Nat)) : Int) }).c b49.1 b49.2.1 b49.2.2) 37 := ⟨St.c_length (s := (setK s j { (s.ks.getD j KE.z) with nx := ((((s.ks.getD j KE.z).nx.toNat + 1 : Nat)) : Int) })) hs.len⟩
      haveI : OneC ((setK s j { (s.ks.getD j KE.z) with nx := ((((s.ks.getD j KE.z).nx.toNat + 1 : Nat)) : Int) }).c b49.1 b49.2.1 b49.2.2) := ⟨St.c_one (s := (setK s j { (s.ks.getD j KE.z) with nx := ((((s.ks.getD j KE.z).nx.toNat + 1 : Nat)) : Int) })) p49.1 p49.2.1 p49.2.2⟩
      refine wpl_q (q_pure rfl) rfl <| wpl_q (q_pure rfl) rfl <| wpl_q (q_pure rfl) rfl <| wpl_q (q_pure rfl) rfl ?_
      refine wpl_t (t_alloc Tryd.ti35 (St.z.c nl nl nl) rfl) rfl (fun b10 => ?_)
      refine wpl_q (q_pure rfl) rfl ?_
      refine wpl_t0 (t_stA Tryd.ti35 rfl rfl zz18 zz29 zz18) (fun _ => ?_)
      refine wpl_q (q_pure rfl) rfl <| wpl_nil <| ex_then <| wpc_seq <| wpc_region <| wpl_q (q_ldN Tryd.underlying35 rfl Tryd.ti35 rfl (St.c_length hln)) rfl <| wpl_q (q_pure rfl) rfl <| wpl_q (q_pure rfl) rfl ?_
      refine wpl_tp (t_callP5 Tryd.hb14 rfl fun w h => sign_ s dv pv kv id mv ms w (StS.old h hs) (h.seen_old hmv) hml j hjl hej hup htk ho (glob h hG)) rfl (fun b57 p57 => ?_)
      have svc1 := p57.1.1
      have svc2 := p57.1.2
      haveI : OneC [.int .i64 (s.ks.getD j KE.z).nx, b57.1.1, b57.1.2] := OneC.cons rfl (OneC.cons (SV.one p57.1.1) (OneC.cons (SV.one p57.1.2) oneC_nil))
      haveI : LenC ((setK s j { (s.ks.getD j KE.z) with nx := ((((s.ks.getD j KE.z).nx.toNat + 1 : Nat)) : Int) }).c b57.2.1 b57.2.2.1 b57.2.2.2) 37 := ⟨St.c_length (s := (setK s j { (s.ks.getD j KE.z) with nx := ((((s.ks.getD j KE.z).nx.toNat + 1 : Nat)) : Int) })) hs.len⟩
      haveI : OneC ((setK s j { (s.ks.getD j KE.z) with nx := ((((s.ks.getD j KE.z).nx.toNat + 1 : Nat)) : Int) }).c b57.2.1 b57.2.2.1 b57.2.2.2) := ⟨St.c_one (s := (setK s j { (s.ks.getD j KE.z) with nx := ((((s.ks.getD j KE.z).nx.toNat + 1 : Nat)) : Int) })) p57.2.1 p57.2.2.1 p57.2.2.2⟩
      refine wpl_q (q_pure rfl) rfl <| wpl_q (q_pure rfl) rfl <| wpl_q (q_pure rfl) rfl <| wpl_q (q_pure rfl) rfl ?_
      refine wpl_t (t_alloc Tryd.ti46 [.int .i64 0, .slice none 0 0, .slice none 0 0] rfl) rfl (fun b12 => ?_)
      refine wpl_t (t_alloc Tryd.ti35 (St.z.c nl nl nl) rfl) rfl (fun b13 => ?_)
      refine wpl_t0 (t_stA Tryd.ti46 rfl rfl zz18 zz29 zz18) (fun _ => ?_)
      refine wpl_t0 (t_stA Tryd.ti35 rfl rfl zz18 zz29 zz18) (fun _ => ?_)
      refine wpl_q (q_pure rfl) rfl <| wpl_nil <| ex_then <| wpc_seq <| wpc_seq <| wpc_region <| wpl_q (q_pure rfl) rfl <| wpl_q (q_pure rfl) rfl ?_
      refine wpl_q (q_bt (c := false) (q_neI rfl rfl) zz50) rfl ?_
      refine wpl_nil <| ex_then ?_
      refine wpc_cond_f rfl ?_
      refine wpc_skip <| ex_then <| wpc_seq <| wpc_seq <| wpc_region <| wpl_q (q_pure rfl) rfl ?_
      refine wpl_q (q_bt (c := false) (q_neI rfl rfl) rfl) rfl ?_
      refine wpl_nil <| ex_then ?_
      refine wpc_cond_f rfl ?_
      refine wpc_skip <| ex_then <| wpc_seq <| wpc_region <| wpl_q (q_ldN Tryd.underlying35 rfl Tryd.ti35 rfl (St.c_length hln)) rfl <| wpl_q (q_pure rfl) rfl ?_
      refine wpl_t (t_pur Tryd.hb16 rfl fun w h => public18 s dv pv kv id w (StS.old h hs) j hjl hej hup hth (glob h hG)) rfl (fun b86 => ?_)
      refine wpl_q (q_pure rfl) rfl <| wpl_q (q_pure rfl) rfl <| wpl_q (q_pure rfl) rfl ?_
      refine wpl_t (t_alloc Tryd.ti51 (v8s (List.replicate 16 0) ++ [Value.int .i64 0]) rfl) rfl (fun b15 => ?_)
      refine wpl_t0 (t_stA Tryd.ti51 rfl rfl LenC.h OneC.h LenC.h) (fun _ => ?_)
      refine wpl_q (q_pure rfl) rfl <| wpl_nil <| ex_then <| wpc_seq <| wpc_region <| wpl_q (q_pure rfl) rfl <| wpl_q (q_pure rfl) rfl <| wpl_on rfl rfl <| wpl_q (q_pure rfl) rfl <| wpl_on rfl rfl <| wpl_q (q_tru (q_eqI rfl rfl) rfl) rfl <| wpl_q (q_pure rfl) rfl ?_
      refine wpl_q (q_pure rfl) rfl <| wpl_on rfl rfl <| wpl_q (q_field Tryd.underlying46 rfl Tryd.ti3 rfl rfl _ rfl) rfl <| wpl_on rfl rfl <| wpl_q (q_ld Tryd.underlying3 rfl rfl rfl) rfl <| wpl_on rfl rfl <| wpl_q (q_pure rfl) rfl <| wpl_on rfl rfl <| wpl_q (q_tru (q_eqI rfl rfl) rfl) rfl <| wpl_q (q_pure rfl) rfl <| wpl_q (q_pure rfl) rfl <| wpl_on rfl rfl ?_
      refine wpl_q (q_ldN Tryd.underlying35 rfl Tryd.ti35 rfl (St.c_length (s := (setK s j { (s.ks.getD j KE.z) with nx := ((((s.ks.getD j KE.z).nx.toNat + 1 : Nat)) : Int) })) hs.len)) rfl ?_
      refine wpl_on rfl rfl ?_
      refine wpl_q (q_ldN Tryd.underlying35 rfl Tryd.ti35 rfl (St.c_length (s := (setK s j { (s.ks.getD j KE.z) with nx := ((((s.ks.getD j KE.z).nx.toNat + 1 : Nat)) : Int) })) hs.len)) rfl ?_
      refine wpl_on rfl rfl ?_
      refine wpl_t (t_pur (v := .bool true) Tryd.hb15 rfl fun w h => refSame_ (setK s j { (s.ks.getD j KE.z) with nx := ((((s.ks.getD j KE.z).nx.toNat + 1 : Nat)) : Int) }) b57.2.1 b57.2.2.1 b57.2.2.2 b49.1 b49.2.1 b49.2.2 w hs.len h.seenV h.seenV h.seenV h.seenV h.seenV h.seenV) rfl (fun b103 => ?_)
      refine wpl_q (q_pure rfl) rfl <| wpl_q (q_pure rfl) rfl <| wpl_on rfl rfl <| wpl_q (q_ldN Tryd.underlying51 rfl Tryd.ti51 rfl LenC.h) rfl <| wpl_on rfl rfl <| wpl_q (q_pure rfl) rfl <| wpl_on rfl rfl <| wpl_q (q_ldN Tryd.underlying46 rfl Tryd.ti46 rfl LenC.h) rfl <| wpl_on rfl rfl ?_
      refine wpl_t (t_pur (v := .bool true) Tryd.hb17 rfl fun w h => by
        have q := verify7 (keyR (seedF s.ms id) (s.ks.getD j KE.z).ht) (keyH (s.ks.getD j KE.z).ht) mv ms b57.1.1 b57.1.2 (sigC (seedF s.ms id) (s.ks.getD j KE.z).ht (s.ks.getD j KE.z).nx ms) (sigP (seedF s.ms id) (s.ks.getD j KE.z).ht (s.ks.getD j KE.z).nx) (s.ks.getD j KE.z).nx w (keyR_length _ _) (h.seen_old hmv) h.seenV (sigC_all _ _ _ _) h.seenV (sigP_all _ _ _) (glob h hG)
        rwa [decide_eq_true hver] at q) rfl (fun b109 => ?_)
      refine wpl_q (q_pure rfl) rfl <| wpl_q (q_pure rfl) rfl <| wpl_nil <| ex_then <| wpc_ret ?_
      refine ret1 (.inl rfl) rfl rfl ?_
      exact fun w h => ⟨by first | rfl | simp, h.below⟩
theorem lawB (s : St) (dv pv kv : Value) (id : UInt32) (mv : Value) (ms : List UInt8) (w : World) (hln : s.ms.length = 32) (hd : Seen w.cell? dv s.dk.length 1 (v8s s.dk)) (hp : Seen w.cell? pv s.pd.length 1 (v8s s.pd)) (hk : Seen w.cell? kv s.ks.length 6 (kcs s.ks)) (hmv : Seen w.cell? mv ms.length 1 (v8s ms)) (e : Int) (htk : takeF s id = (0, St.z, e)) (he : e ≠ 0) (hG : Glb w) :
    Calls Tryd.prog 4 [.agg (s.c dv pv kv).toArray, .int .u32 id.toNat, mv].toArray w (Pur w (.bool true)) := by
  have smv := hmv.sv
  have lmv := smv.le
  simp only [maxLen] at lmv
  refine enter (m := 111) (R := Mem w [] [] []) Tryd.func4 rfl rfl (Nat.le_of_ble_eq_true rfl) (Mem.start w) ?_
  refine wpc_seq <| wpc_region ?_
  refine wpl_t (t_box rfl (s.c dv pv kv) rfl) rfl (fun b3 => ?_)
  refine wpl_q (q_pure rfl) rfl <| wpl_nil <| ex_then <| wpc_seq <| wpc_region ?_
  refine wpl_t (t_pur (v := .bool true) Tryd.hb10 rfl fun w h => alive w) rfl (fun b17 => ?_)
  refine wpl_q (q_pure rfl) rfl <| wpl_nil <| ex_then <| wpc_seq <| wpc_seq <| wpc_region <| wpl_q (q_ldN Tryd.underlying35 rfl Tryd.ti35 rfl (St.c_length hln)) rfl ?_
  refine wpl_t (t_pur Tryd.hb11 rfl fun w h => refGreat s dv pv kv w hln hd.sv hp.sv hk.sv) rfl (fun b19 => ?_)
  refine wpl_q (q_pure rfl) rfl ?_
  refine wpl_bool2 20 19 rfl rfl (fun hb20 => ?_) (fun hb20 => ?_)
  ·
   refine wpl_off rfl rfl rfl rfl <| wpl_off rfl rfl rfl rfl <| wpl_off rfl rfl rfl rfl <| wpl_q (q_pure rfl) rfl <| wpl_q (q_pure rfl) rfl <| wpl_off rfl rfl rfl rfl <| wpl_off rfl rfl rfl rfl <| wpl_q (q_pure rfl) rfl <| wpl_nil <| ex_then ?_
   refine wpc_cond_t rfl ?_
   refine wpc_seq <| wpc_region <| wpl_q (q_pure rfl) rfl <| wpl_q (q_pure rfl) rfl <| wpl_nil <| ex_then <| wpc_ret ?_
   refine ex_then_ret ?_
   refine ret1 (.inl rfl) rfl rfl ?_
   exact fun w h => ⟨by first | rfl | simp, h.below⟩
  ·
   have hg := great_f hb20
   have hs : StS w.cell? s dv pv kv := ⟨hln, hd, hp, hk, zz16, zz16, zz16⟩
   have skv := hk.sv
   refine wpl_on rfl rfl <| wpl_q (q_pure rfl) rfl <| wpl_on rfl rfl ?_
   refine wpl_q (q_lenW Tryd.underlying22 rfl zz3) rfl ?_
   refine wpl_on rfl rfl <| wpl_q (q_pure rfl) rfl <| wpl_q (q_pure rfl) rfl <| wpl_q (q_pure rfl) rfl ?_
   refine wpl_bool2 25 23 rfl rfl (fun hb25 => ?_) (fun hb25 => ?_)
   ·
    refine wpl_off rfl rfl rfl rfl <| wpl_off rfl rfl rfl rfl <| wpl_q (q_pure rfl) rfl <| wpl_nil <| ex_then ?_
    refine wpc_cond_t rfl ?_
    refine wpc_seq <| wpc_region <| wpl_q (q_pure rfl) rfl <| wpl_q (q_pure rfl) rfl <| wpl_nil <| ex_then <| wpc_ret ?_
    refine ex_then_ret ?_
    refine ret1 (.inl rfl) rfl rfl ?_
    exact fun w h => ⟨by first | rfl | simp, h.below⟩
   ·
    have hml : ms.length ≤ 300 := by have := of_decide_eq_false hb25; omega
    refine wpl_on rfl rfl <| wpl_q (q_pure rfl) rfl <| wpl_on rfl rfl <| wpl_q (q_pure rfl) rfl <| wpl_q (q_pure rfl) rfl <| wpl_nil <| ex_then ?_
    refine wpc_cond_f rfl ?_
    refine wpc_skip <| ex_then <| wpc_seq <| wpc_region <| wpl_q (q_field Tryd.underlying35 rfl Tryd.ti26 rfl rfl _ rfl) rfl ?_
    refine wpl_q (q_ld Tryd.underlying26 rfl rfl zz21) rfl ?_
    refine wpl_q (q_pure rfl) rfl ?_
    refine wpl_t (t_pur Tryd.hb12 rfl fun w h => refPlace kv s.ks id w (h.seen_old hk)) rfl (fun b33 => ?_)
    refine wpl_q (q_pure rfl) rfl <| wpl_nil <| ex_then <| wpc_seq ?_
    refine wpc_cutc ({ x : Bool // True }) [(1, .int .u32 id.toNat), (2, mv), (3, .pointer (some ⟨b3, 0, none⟩)), (7, .bool true)] (fun x Lc => (44, .bool x.1) :: Lc) (fun x => Mem w [] [.blk b3 35 (s.c dv pv kv)] []) ?_ ?_
    ·
     refine wpc_region <| wpl_q (q_pure rfl) rfl <| wpl_q (q_pure rfl) rfl <| wpl_q (q_pure rfl) rfl ?_
     refine wpl_bool2 36 35 rfl rfl (fun hb36 => ?_) (fun hb36 => ?_)
     ·
      obtain ⟨hjl2, hej2⟩ := place_nat (ks := s.ks) (id := id) (by simpa using hb36)
      refine wpl_re 8 rfl (congrArg (Value.int .i64) hej2) ?_
      refine wpl_on rfl rfl <| wpl_q (q_field Tryd.underlying35 rfl Tryd.ti26 rfl rfl _ rfl) rfl <| wpl_on rfl rfl ?_
      refine wpl_q (q_ld Tryd.underlying26 rfl rfl zz21) rfl ?_
      refine wpl_on rfl rfl <| wpl_q (q_pure rfl) rfl <| wpl_on rfl rfl ?_
      refine wpl_q (q_idxW Tryd.underlying26 Tryd.ti40 rfl rfl zz3 zz1) rfl ?_
      refine wpl_on rfl rfl <| wpl_q (q_fieldPo 1 Tryd.underlying40 rfl Tryd.ti3 rfl rfl rfl) rfl <| wpl_on rfl rfl ?_
      refine wpl_q (q_ldWF Tryd.underlying3 rfl rfl (fun w h => h.seen_old hk) (kcs_get hjl2 rfl)) rfl ?_
      refine wpl_on rfl rfl <| wpl_q (q_pure rfl) rfl <| wpl_q (q_pure rfl) rfl <| wpl_nil ?_
      refine ex_mid ⟨decide ((s.ks.getD (placeF s.ks id).toNat KE.z).ht > 2), trivial⟩ ?_ ?_
      ·
       exact zz14
      ·
       exact fun w h => by first | exact h | exact h.sub SubC.h SubC.h | exact h.sub zz8 zz8
     ·
      refine wpl_off rfl rfl rfl rfl <| wpl_off rfl rfl rfl rfl <| wpl_off rfl rfl rfl rfl <| wpl_off rfl rfl rfl rfl <| wpl_off rfl rfl rfl rfl <| wpl_off rfl rfl rfl rfl <| wpl_off rfl rfl rfl rfl <| wpl_q (q_pure rfl) rfl <| wpl_nil ?_
      refine ex_mid ⟨false, trivial⟩ ?_ ?_
      ·
       exact zz14
      ·
       exact fun w h => by first | exact h | exact h.sub SubC.h SubC.h | exact h.sub zz8 zz8
    ·
     rintro ⟨c, _⟩; try dsimp only
     refine wpc_cond rfl (fun hc44 => ?_) (fun hc44 => ?_)
     ·
      try simp only [decide_eq_true_eq, decide_eq_false_iff_not, Bool.and_eq_true, Bool.or_eq_true, beq_iff_eq, bne_iff_ne, ne_eq, Bool.not_eq_true', Bool.not_eq_false', Decidable.not_not] at hc44
      refine wpc_seq <| wpc_region <| wpl_q (q_pure rfl) rfl <| wpl_q (q_pure rfl) rfl <| wpl_nil <| ex_then <| wpc_ret ?_
      refine ex_then_ret ?_
      refine ret1 (.inl rfl) rfl rfl ?_
      exact fun w h => ⟨by first | rfl | simp, h.below⟩
     ·
      try simp only [decide_eq_true_eq, decide_eq_false_iff_not, Bool.and_eq_true, Bool.or_eq_true, beq_iff_eq, bne_iff_ne, ne_eq, Bool.not_eq_true', Bool.not_eq_false', Decidable.not_not] at hc44
      refine wpc_skip <| ex_then <| wpc_seq <| wpc_region <| wpl_q (q_ldN Tryd.underlying35 rfl Tryd.ti35 rfl (St.c_length hln)) rfl <| wpl_q (q_pure rfl) rfl ?_
      refine wpl_tp (t_callP3 Tryd.hb13 rfl fun w h => take_no s dv pv kv id w (StS.old h hs) e htk) rfl (fun b49 p49 => ?_)
      haveI : LenC (St.z.c b49.1 b49.2.1 b49.2.2) 37 := ⟨St.c_length (s := St.z) rfl⟩
      haveI : OneC (St.z.c b49.1 b49.2.1 b49.2.2) := ⟨St.c_one (s := St.z) p49.1 p49.2.1 p49.2.2⟩
      refine wpl_q (q_pure rfl) rfl <| wpl_q (q_pure rfl) rfl <| wpl_q (q_pure rfl) rfl <| wpl_q (q_pure rfl) rfl ?_
      refine wpl_t (t_alloc Tryd.ti35 (St.z.c nl nl nl) rfl) rfl (fun b10 => ?_)
      refine wpl_q (q_pure rfl) rfl ?_
      refine wpl_t0 (t_stA Tryd.ti35 rfl rfl zz36 zz57 zz36) (fun _ => ?_)
      refine wpl_q (q_pure rfl) rfl <| wpl_nil <| ex_then <| wpc_seq <| wpc_region <| wpl_q (q_ldN Tryd.underlying35 rfl Tryd.ti35 rfl (St.c_length hln)) rfl <| wpl_q (q_pure rfl) rfl <| wpl_q (q_pure rfl) rfl ?_
      refine wpl_t (t_pur Tryd.hb14 rfl fun w h => sign0 s dv pv kv id mv ms w (StS.old h hs) (h.seen_old hmv) hml e htk he) rfl (fun b57 => ?_)
      refine wpl_q (q_pure rfl) rfl <| wpl_q (q_pure rfl) rfl <| wpl_q (q_pure rfl) rfl <| wpl_q (q_pure rfl) rfl ?_
      refine wpl_t (t_alloc Tryd.ti46 [.int .i64 0, .slice none 0 0, .slice none 0 0] rfl) rfl (fun b12 => ?_)
      refine wpl_t (t_alloc Tryd.ti35 (St.z.c nl nl nl) rfl) rfl (fun b13 => ?_)
      refine wpl_t0 (t_stA Tryd.ti46 rfl rfl zz36 zz57 zz36) (fun _ => ?_)
      refine wpl_t0 (t_stA Tryd.ti35 rfl rfl zz36 zz57 zz36) (fun _ => ?_)
      refine wpl_q (q_pure rfl) rfl <| wpl_nil <| ex_then <| wpc_seq <| wpc_seq <| wpc_region <| wpl_q (q_pure rfl) rfl <| wpl_q (q_pure rfl) rfl ?_
      refine wpl_q (q_bt (c := false) (q_neI rfl rfl) zz50) rfl ?_
      refine wpl_nil <| ex_then ?_
      refine wpc_cond_f rfl ?_
      refine wpc_skip <| ex_then <| wpc_seq <| wpc_seq <| wpc_region <| wpl_q (q_pure rfl) rfl ?_
      refine wpl_q (q_bt (c := true) (q_neI rfl rfl) (by rw [decide_eq_false he]; rfl)) rfl ?_
      refine wpl_nil <| ex_then ?_
      refine wpc_cond_t rfl ?_
      refine wpc_seq <| wpc_region <| wpl_q (q_pure rfl) rfl <| wpl_q (q_pure rfl) rfl <| wpl_on rfl rfl <| wpl_q (q_field Tryd.underlying46 rfl Tryd.ti3 rfl rfl _ rfl) rfl <| wpl_on rfl rfl <| wpl_q (q_ld Tryd.underlying3 rfl rfl rfl) rfl <| wpl_on rfl rfl <| wpl_q (q_tru (q_eqI rfl rfl) rfl) rfl <| wpl_q (q_pure rfl) rfl <| wpl_q (q_pure rfl) rfl ?_
      refine wpl_on rfl rfl <| wpl_q (q_field Tryd.underlying46 rfl Tryd.ti44 rfl rfl _ rfl) rfl <| wpl_on rfl rfl <| wpl_q (q_ld Tryd.underlying44 rfl rfl rfl) rfl <| wpl_on rfl rfl ?_
      refine wpl_q (q_lenW Tryd.underlying44 rfl zz3) rfl ?_
      refine wpl_on rfl rfl <| wpl_q (q_tru (q_eqI rfl rfl) rfl) rfl <| wpl_q (q_pure rfl) rfl <| wpl_q (q_pure rfl) rfl <| wpl_on rfl rfl <| wpl_q (q_ldN Tryd.underlying35 rfl Tryd.ti35 rfl (St.c_length rfl)) rfl <| wpl_on rfl rfl ?_
      refine wpl_q (q_build (cs := St.z.c nl nl nl) rfl built_st0) rfl ?_
      refine wpl_on rfl rfl ?_
      refine wpl_t (t_pur (v := .bool true) Tryd.hb15 rfl fun w h => refSame_ St.z nl nl nl nl nl nl w rfl (seen_nil _ _) (seen_nil _ _) (seen_nil _ _) (seen_nil _ _) (seen_nil _ _) (seen_nil _ _)) rfl (fun b81 => ?_)
      refine wpl_q (q_pure rfl) rfl <| wpl_q (q_pure rfl) rfl <| wpl_nil <| ex_then <| wpc_ret ?_
      refine ex_then_ret ?_
      refine ret1 (.inl rfl) rfl rfl ?_
      exact fun w h => ⟨by first | rfl | simp, h.below⟩
theorem lawSigns18 (s : St) (dv pv kv : Value) (id : UInt32) (mv : Value) (ms : List UInt8) (w : World) (hln : s.ms.length = 32) (hd : Seen w.cell? dv s.dk.length 1 (v8s s.dk)) (hp : Seen w.cell? pv s.pd.length 1 (v8s s.pd)) (hk : Seen w.cell? kv s.ks.length 6 (kcs s.ks)) (hmv : Seen w.cell? mv ms.length 1 (v8s ms)) (hG : Glb w) :
    Calls Tryd.prog 4 [.agg (s.c dv pv kv).toArray, .int .u32 id.toNat, mv].toArray w (Pur w (.bool true)) := by
  by_cases h : (takeF s id).2.2 = 0
  · obtain ⟨j, h1, hup, hjl, hej, hn, htk⟩ := tk_inv h
    have ho := ok_sig hup hjl hn
    obtain ⟨_, j', _, hej', hth⟩ := there_ok h1
    have e : j' = j := by rw [hej] at hej'; omega
    subst e
    have hv := sig_ver (seedF s.ms id) ms ho
    rw [show sigI (s.ks.getD j' KE.z).ht (s.ks.getD j' KE.z).nx = (s.ks.getD j' KE.z).nx from if_pos ho] at hv
    exact lawA s dv pv kv id mv ms w hln hd hp hk hmv j' hjl hej hup hth htk ho hv hG
  · exact lawB s dv pv kv id mv ms w hln hd hp hk hmv _ (tk_bad h) h hG
end Go.Proofs.YtoaeklbenmlooaaDoor
