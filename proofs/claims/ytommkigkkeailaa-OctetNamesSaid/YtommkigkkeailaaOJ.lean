/- Numbers and strings as values. -/
import Derived.Test.YtommkigkkeailaaOI
namespace Go.Proofs.Ytommkigkkeailaa
set_option linter.unusedSimpArgs false
set_option linter.unusedVariables false
open Go Go.PL Go.RowKit

section
variable {P : Program} {n : Cx} {R : World → Prop} {L : Slots}
theorem q64_quo {t t' : TypeId} {x y : Operand} {a b : UInt64} (hx : ev L x = some (.int .u64 a.toNat)) (hy : ev L y = some (.int .u64 b.toNat)) (h0 : b.toNat ≠ 0) : QOp P n R L (.binOp .quo t x y t') (.int .u64 (a / b).toNat) := by
  have := q_quo (P := P) (n := n) (R := R) (t := t) (t' := t') hx hy (by omega)
  have e : wk .u64 ((a.toNat : Int).tdiv b.toNat) = ((a / b).toNat : Nat) := by
    have h1 := (a / b).toNat_lt
    rw [UInt64.toNat_div] at h1 ⊢
    have h3 : ((a.toNat : Int).tdiv b.toNat) = ((a.toNat / b.toNat : Nat) : Int) := rfl
    rw [h3]; clear h3 this
    generalize a.toNat / b.toNat = q at *
    simp only [wk]; omega
  rwa [e] at this
theorem q64_rem {t t' : TypeId} {x y : Operand} {a b : UInt64} (hx : ev L x = some (.int .u64 a.toNat)) (hy : ev L y = some (.int .u64 b.toNat)) (h0 : b.toNat ≠ 0) : QOp P n R L (.binOp .rem t x y t') (.int .u64 (a % b).toNat) := by
  have := q_rem (P := P) (n := n) (R := R) (t := t) (t' := t') hx hy (by omega)
  rw [UInt64.toNat_mod]
  exact this
end


theorem of8_mod (n : Nat) : of8 (((n % 256 : Nat) : Nat) : Int) = of8 ((n : Nat) : Int) := by
  apply UInt8.toNat_inj.1
  have h1 := of8_toNat ((n % 256 : Nat) : Int)
  have h2 := of8_toNat ((n : Nat) : Int)
  omega


def numK : Nat → Nat → List UInt8
  | 0, _ => []
  | k + 1, n => numK k (n / 256) ++ [of8 ((n % 256 : Nat) : Int)]
theorem numK_len : ∀ (k n : Nat), (numK k n).length = k
  | 0, _ => rfl
  | k + 1, n => by rw [numK, List.length_append, numK_len k]; rfl
def kB (n : Nat) : Nat := (lenF n + 7) / 8
/-- The bytes of a number, the highest first. -/
def numB (n : Nat) : List UInt8 := numK (kB n) n
theorem kB_zero : kB 0 = 0 := rfl
theorem kB_step {n : Nat} (h : n ≠ 0) : kB n = kB (n / 256) + 1 := by
  unfold kB
  by_cases h2 : 256 ≤ n
  · rw [lenF_shift 8 n h2]
    show (8 + lenF (n / 256) + 7) / 8 = _
    omega
  · have h1 := lenF_le (m := 8) (n := n) (by omega)
    have h3 := lenF_step h
    have e : n / 256 = 0 := by omega
    rw [e]
    show _ = 0 + 1
    omega
theorem numB_zero : numB 0 = [] := rfl
theorem numB_step {n : Nat} (h : n ≠ 0) : numB n = numB (n / 256) ++ [of8 ((n % 256 : Nat) : Int)] := by
  unfold numB
  rw [kB_step h]; rfl
theorem kB_le {n : Nat} (h : n < 2 ^ 64) : kB n ≤ 8 := by
  have := lenF_le h
  unfold kB; omega
theorem numB_len {n : Nat} (h : n < 2 ^ 64) : (numB n).length ≤ 8 := by rw [numB, numK_len]; exact kB_le h
theorem div_pow (n i : Nat) : n / 2 ^ (8 * (i + 1)) = n / 2 ^ (8 * i) / 256 := by
  rw [Nat.div_div_eq_div_mul, show 8 * (i + 1) = 8 * i + 8 by omega, Nat.pow_add]
theorem num_step (n k s : Nat) (hs : 1 ≤ s) (hk : s ≤ k) : numK (k - (s - 1)) (n / 2 ^ (8 * (s - 1))) = numK (k - s) (n / 2 ^ (8 * s)) ++ [of8 ((n / 2 ^ (8 * (s - 1)) : Nat) : Int)] := by
  obtain ⟨m, rfl⟩ : ∃ m, s = m + 1 := ⟨s - 1, by omega⟩
  rw [show k - (m + 1 - 1) = (k - (m + 1)) + 1 by omega, numK, Nat.add_sub_cancel, ← div_pow]
  congr 2
  exact of8_mod _
theorem div_small {n k : Nat} (h : lenF n ≤ 8 * k) : n / 2 ^ (8 * k) = 0 := Nat.div_eq_of_lt (lenF_lt h)
theorem numK_all (n : Nat) : numK (kB n - kB n) (n / 2 ^ (8 * kB n)) = [] := by rw [Nat.sub_self]; rfl

set_option maxRecDepth 100000 in
theorem refBytes_step (z : UInt64) (w : World)  (ih : ∀ (y : UInt64) (w : World), y.toNat < z.toNat → Calls Try.prog 43 [.int .u64 (y.toNat : Int)].toArray w (GivesP w (fun v : Value => SV v (numB y.toNat).length) (fun v => v) (fun v => [.row v (numB y.toNat).length 5 1 (v8s (numB y.toNat))]) (fun _ => []))) :
    Calls Try.prog 43 [.int .u64 z.toNat].toArray w (GivesP w (fun v : Value => SV v (numB z.toNat).length) (fun v => v) (fun v => [.row v (numB z.toNat).length 5 1 (v8s (numB z.toNat))]) (fun _ => [])) := by
  refine enter (m := 13) (R := Mem w [] [] []) Try.func43 rfl rfl (Nat.le_of_ble_eq_true rfl) (Mem.start w) ?_
  refine wpc_seq ?_
  refine wpc_region ?_
  refine wpl_q (q_pure rfl) rfl ?_
  refine wpl_nil ?_
  refine ex_then ?_
  refine wpc_seq ?_
  refine wpc_seq ?_
  refine wpc_region ?_
  refine wpl_q (q_pure rfl) rfl ?_
  refine wpl_q (q64_eql (b := (0 : UInt64)) rfl rfl) rfl ?_
  refine wpl_nil ?_
  refine ex_then ?_
  refine wpc_cond rfl (fun hc4 => ?_) (fun hc4 => ?_)
  ·
   have hx : z = 0 := by simpa using hc4
   subst hx
   refine wpc_seq ?_
   refine wpc_region ?_
   refine wpl_q (q_pure rfl) rfl ?_
   refine wpl_nil ?_
   refine ex_then ?_
   refine wpc_ret ?_
   refine ex_then_ret ?_
   refine ret1 (.inl rfl) rfl rfl ?_
   exact fun w h => ⟨nl, SV.nil, rfl, h.below, (h.nilRow 5 1).made (by repeat (first | exact Sub.nil | exact Sub.refl _ | with_reducible refine Sub.keep ?_ | refine Sub.drop ?_)) .nil⟩
  ·
   have hx : z ≠ 0 := by simpa using hc4
   have hxn : z.toNat ≠ 0 := fun e => hx (UInt64.toNat_inj.1 (by rw [e]; rfl))
   have hd : (z / 256).toNat = z.toNat / 256 := UInt64.toNat_div z 256
   have hm : (z % 256).toNat = z.toNat % 256 := UInt64.toNat_mod z 256
   have hlx := numB_len z.toNat_lt
   have hlt := z.toNat_lt
   have hlq := numB_len (z / 256).toNat_lt
   refine wpc_skip ?_
   refine ex_then ?_
   refine wpc_seq ?_
   refine wpc_region ?_
   refine wpl_q (q_pure rfl) rfl ?_
   refine wpl_q (q64_quo (b := (256 : UInt64)) rfl rfl (by decide)) rfl ?_
   refine wpl_tp (t_callP1 Try.hb43 rfl fun w h => ih _ w (by rw [hd]; omega)) rfl (fun b7 p7 => ?_)
   refine wpl_q (q_pure rfl) rfl ?_
   refine wpl_q (q64_rem (b := (256 : UInt64)) rfl rfl (by decide)) rfl ?_
   refine wpl_q (q8_conv Try.underlying26 Try.underlying5 rfl) rfl ?_
   refine wpl_tp (t_bsV (v8s [_]) Try.underlying22 Try.ti5 rfl rfl (by decide) (by decide) rfl (v8s_one _)) rfl (fun b11 p11 => ?_)
   refine wpl_tp (t_apW Try.underlying22 Try.ti5 rfl (by decide) rfl rfl (fun w h => by first | exact h.seenV | exact h.seenA (by first | decide | (simp only [maxLen]; omega)) (by first | with_reducible rfl | (simp only [v8s_length, v32s_length, vis_length, vns_length, v64s_length, List.length_replicate]; first | done | with_reducible assumption | omega) | (rw [v8s_length]; (first | with_reducible assumption | with_reducible exact shortF_length _ | with_reducible exact stepF_length _ _ _ | with_reducible exact sumF_length _ | with_reducible exact climbF_length _ (by first | with_reducible assumption | with_reducible exact shortF_length _ | with_reducible exact beginF_length _ _ | with_reducible exact getD_mem_len (by assumption) (by omega)) _ _ _ | with_reducible exact beginF_length _ _ | with_reducible exact chainF_length _ _ _ | with_reducible exact recF_length _ _ | with_reducible exact publicF_length _ | with_reducible exact getD_mem_len (by assumption) (by omega) | (with_reducible exact List.length_replicate))) | rfl) | exact h.seen_old (by assumption) | exact h.seen_oldL (by assumption) (by assumption) | exact h.seen_fact (by repeat (first | exact List.mem_cons_self .. | apply List.mem_cons_of_mem))) (v8s_one _) (by first | omega | (simp only [maxLen]; omega) | (simp only [List.length_append, List.length_cons, List.length_nil, List.length_take, maxLen]; omega) | (simp only [List.length_append, List.length_cons, List.length_nil, List.length_take]; omega)) (by first | omega | (simp only [maxLen]; omega) | (simp only [List.length_append, List.length_cons, List.length_nil, List.length_take, maxLen]; omega) | (simp only [List.length_append, List.length_cons, List.length_nil, List.length_take]; omega)) (v8s (numB z.toNat)) (by rw [numB_step hxn, hd, hm]; exact (v8s_append _ _).symm)) rfl (fun b12 p12 => ?_)
   refine wpl_q (q_pure rfl) rfl ?_
   refine wpl_nil ?_
   refine ex_then ?_
   refine wpc_ret ?_
   refine ret1 (.inl rfl) rfl rfl ?_
   have hle : (numB z.toNat).length = (numB (z / 256).toNat).length + 1 := by rw [numB_step hxn, ← hd, List.length_append]; rfl
   exact fun w h => ⟨b12, by rw [hle]; exact p12, rfl, h.below, by rw [hle]; exact h.made SubC.h .nil⟩

theorem refBytesG : ∀ (n : Nat) (z : UInt64) (w : World), z.toNat < n → Calls Try.prog 43 [.int .u64 (z.toNat : Int)].toArray w (GivesP w (fun v : Value => SV v (numB z.toNat).length) (fun v => v) (fun v => [.row v (numB z.toNat).length 5 1 (v8s (numB z.toNat))]) (fun _ => []))
  | 0, _, _, h => by omega
  | n + 1, z, w, h => refBytes_step z w (fun y w hy => refBytesG n y w (by omega))
theorem refBytes (z : UInt64) (w : World) : Calls Try.prog 43 [.int .u64 (z.toNat : Int)].toArray w (GivesP w (fun v : Value => SV v (numB z.toNat).length) (fun v => v) (fun v => [.row v (numB z.toNat).length 5 1 (v8s (numB z.toNat))]) (fun _ => [])) := refBytesG _ z w (Nat.lt_succ_self _)


theorem seen_nil (r : Rd) (t : TypeId) (sz : Nat) : Seen r (.slice none 0 0) 0 sz [] := ⟨by simp, none, 0, rfl, Nat.le_refl _, by decide, .inl ⟨rfl, rfl⟩⟩
theorem made_str {w0 w : World} {M : List Ent} {S : List Fact} {tg : UInt8} {b : Value} {bs : List UInt8} (h : Mem w0 [] M (Go.PL.seen b bs.length 1 (v8s bs) :: S) w) : New w0.heap.size [] [Go.Proofs.Ytommkigkkeailaa.hseen (.nd tg b bs nl [])] w :=
  (h.imp (T := [Go.Proofs.Ytommkigkkeailaa.hseen (.nd tg b bs nl [])]) fun r hs f hf => by
    rw [List.mem_singleton] at hf; subst hf
    exact ⟨hs _ (List.mem_cons_self ..), seen_nil _ 25 3, trivial⟩).made .nil (Sub.refl _)

set_option maxRecDepth 100000 in
theorem octNum (tg : UInt8) (z : UInt64) (w : World)   :
    Calls Try.prog 22 [.int .u8 tg.toNat, .int .u64 z.toNat].toArray w (GivesP w (fun y : HT => y.tr = Tr.nd tg (numB z.toNat) [] ∧ y.sv) (fun y => .agg y.c.toArray) (fun y => y.ents) (fun _ => [])) := by
  have hkx := kB_le z.toNat_lt
  have hlx := lenF_le (m := 64) z.toNat_lt
  have hkd : (lenF z.toNat + 7) / 8 = kB z.toNat := rfl
  refine enter (m := 29) (R := Mem w [] [] []) Try.func22 rfl rfl (Nat.le_of_ble_eq_true rfl) (Mem.start w) ?_
  refine wpc_seq ?_
  refine wpc_region ?_
  refine wpl_t (t_alloc Try.ti25 [.int .u8 0, nl, nl] rfl) rfl (fun b4 => ?_)
  refine wpl_nil ?_
  refine ex_then ?_
  refine wpc_seq ?_
  refine wpc_region ?_
  refine wpl_q (q_pure rfl) rfl ?_
  refine wpl_q (q_build (cs := [.int .u8 (tg.toNat : Int), nl, nl]) rfl (built_o0 tg)) rfl ?_
  refine wpl_t (t_alloc Try.ti25 [.int .u8 0, nl, nl] rfl) rfl (fun b5 => ?_)
  refine wpl_t0 (t_stA Try.ti25 rfl rfl LenC.h OneC.h LenC.h) (fun _ => ?_)
  refine wpl_nil ?_
  refine ex_then ?_
  refine wpc_seq ?_
  refine wpc_seq ?_
  refine wpc_region ?_
  refine wpl_q (q_pure rfl) rfl ?_
  refine wpl_t (t_pur (v := .int .i64 ((lenF z.toNat : Nat) : Int)) Try.hb42 rfl fun w h => len64 z w) rfl (fun b10 => ?_)
  refine wpl_q (q_addN (b := 7) rfl rfl (by first | omega | (simp only [maxLen]; omega) | (simp only [List.length_append, List.length_cons, List.length_nil, List.length_take, maxLen]; omega) | (simp only [List.length_append, List.length_cons, List.length_nil, List.length_take]; omega))) rfl ?_
  refine wpl_q (q_quoN (b := 8) rfl rfl (by first | decide | omega) (by first | omega | (simp only [maxLen]; omega) | (simp only [List.length_append, List.length_cons, List.length_nil, List.length_take, maxLen]; omega) | (simp only [List.length_append, List.length_cons, List.length_nil, List.length_take]; omega))) rfl ?_
  refine wpl_q (q_pure rfl) rfl ?_
  refine wpl_nil ?_
  refine ex_then ?_
  refine wpc_block ?_
  refine wpc_loopc (ι := { x : Nat × Value // (x.1 ≤ kB z.toNat) ∧ (SV x.2 (kB z.toNat - x.1)) }) [(1, _), (4, _), (5, _)] (fun x Lc => (6, .int .i64 ((x.1.1 : Nat) : Int)) :: Lc) (fun x => Mem w [] [.blk b4 25 [.int .u8 0, nl, nl], .blk b5 25 [.int .u8 (tg.toNat : Int), x.1.2, nl], .row x.1.2 (kB z.toNat - x.1.1) 5 1 (v8s (numK (kB z.toNat - x.1.1) (z.toNat / 2 ^ (8 * x.1.1))))] []) (fun x => x.1.1) ⟨(kB z.toNat, nl), ⟨Nat.le_refl _, by rw [Nat.sub_self]; exact SV.nil⟩⟩ (by repeat (first | exact trivial | refine ⟨rfl, ?_⟩)) ?_ ?_
  ·
   exact fun w h => by
     dsimp only
     rw [numK_all, Nat.sub_self]
     have h2 : Mem _ _ [.blk b4 25 [.int .u8 0, nl, nl], .blk b5 25 [.int .u8 (tg.toNat : Int), nl, nl], .row nl 0 5 1 []] [] w := (h.nilRow 5 1).sel
     exact h2
  ·
   rintro ⟨⟨s, nb⟩, ⟨hi0, hi1⟩⟩; try dsimp only
   have hi0 : s ≤ kB z.toNat := hi0; have hi1 : SV nb (kB z.toNat - s) := hi1
   refine wpc_seq ?_
   refine wpc_seq ?_
   refine wpc_region ?_
   refine wpl_q (q_pure rfl) rfl ?_
   refine wpl_q (q_pure rfl) rfl ?_
   refine wpl_nil ?_
   refine ex_then ?_
   refine wpc_cond rfl (fun hc14 => ?_) (fun hc14 => ?_)
   ·
    simp only [decide_eq_true_eq] at hc14
    have hs1 : 1 ≤ s := by omega
    refine wpc_skip ?_
    refine ex_then ?_
    refine wpc_seq ?_
    refine wpc_block ?_
    refine wpc_draw 9 (by kernel_rfl) (fun _ h => h.drew) ?_
    refine wpd_p 0 rfl (by kernel_rfl) trivial (q_field Try.underlying25 rfl Try.ti22 rfl rfl _ rfl) rfl sk0 ?_
    refine wpd_q 1 rfl (by kernel_rfl) trivial (q_ld Try.underlying22 rfl rfl rfl) rfl (fun _ h => h) ?_
    refine wpd_p 2 rfl (by kernel_rfl) trivial (q_pure rfl) rfl sk0 ?_
    refine wpd_p 3 rfl (by kernel_rfl) trivial (q_pure rfl) rfl sk0 ?_
    refine wpd_p 4 rfl (by kernel_rfl) trivial (q_subN (b := 1) rfl rfl (by omega) (by first | omega | (simp only [maxLen]; omega) | (simp only [List.length_append, List.length_cons, List.length_nil, List.length_take, maxLen]; omega) | (simp only [List.length_append, List.length_cons, List.length_nil, List.length_take]; omega))) rfl sk0 ?_
    refine wpd_p 5 rfl (by kernel_rfl) trivial (q_mulN (a := 8) rfl rfl (by first | omega | (simp only [maxLen]; omega) | (simp only [List.length_append, List.length_cons, List.length_nil, List.length_take, maxLen]; omega) | (simp only [List.length_append, List.length_cons, List.length_nil, List.length_take]; omega))) rfl sk0 ?_
    refine wpd_p 6 rfl (by kernel_rfl) trivial (q64_shr rfl rfl (by first | decide | omega) _ rfl) rfl sk0 ?_
    refine wpd_p 7 rfl (by kernel_rfl) trivial (q8_conv Try.underlying26 Try.underlying5 rfl) rfl sk0 ?_
    refine wpd_tp 8 rfl (by kernel_rfl) trivial (t_bsV (v8s [_]) Try.underlying22 Try.ti5 rfl rfl (by decide) (by decide) rfl (v8s_one _)) rfl (fun _ => (fun w h => .inr (h.sub SubC.h SubC.h))) (fun b25 p25 => ?_)
    refine wpd_tp 9 rfl (by kernel_rfl) trivial (t_apW Try.underlying22 Try.ti5 rfl (by decide) rfl rfl (fun w h => by first | exact h.seenV | exact h.seenA (by first | decide | (simp only [maxLen]; omega)) (by first | with_reducible rfl | (simp only [v8s_length, v32s_length, vis_length, vns_length, v64s_length, List.length_replicate]; first | done | with_reducible assumption | omega) | (rw [v8s_length]; (first | with_reducible assumption | with_reducible exact shortF_length _ | with_reducible exact stepF_length _ _ _ | with_reducible exact sumF_length _ | with_reducible exact climbF_length _ (by first | with_reducible assumption | with_reducible exact shortF_length _ | with_reducible exact beginF_length _ _ | with_reducible exact getD_mem_len (by assumption) (by omega)) _ _ _ | with_reducible exact beginF_length _ _ | with_reducible exact chainF_length _ _ _ | with_reducible exact recF_length _ _ | with_reducible exact publicF_length _ | with_reducible exact getD_mem_len (by assumption) (by omega) | (with_reducible exact List.length_replicate))) | rfl) | exact h.seen_old (by assumption) | exact h.seen_oldL (by assumption) (by assumption) | exact h.seen_fact (by repeat (first | exact List.mem_cons_self .. | apply List.mem_cons_of_mem))) OneC.h (by first | omega | (simp only [maxLen]; omega) | (simp only [List.length_append, List.length_cons, List.length_nil, List.length_take, maxLen]; omega) | (simp only [List.length_append, List.length_cons, List.length_nil, List.length_take]; omega)) (by first | omega | (simp only [maxLen]; omega) | (simp only [List.length_append, List.length_cons, List.length_nil, List.length_take, maxLen]; omega) | (simp only [List.length_append, List.length_cons, List.length_nil, List.length_take]; omega)) (v8s (numK (kB z.toNat - (s - 1)) (z.toNat / 2 ^ (8 * (s - 1))))) (by rw [← v8s_append, num_step _ _ s hs1 hi0]; congr 3; exact congrArg (fun n : Nat => of8 (n : Int)) (sr64_nat z (8 * (s - 1)) (by omega)))) rfl (fun _ => skk rfl) (fun b26 p26 => ?_)
    refine wpd_p 10 rfl (by kernel_rfl) trivial (q_field Try.underlying25 rfl Try.ti22 rfl rfl _ rfl) rfl (skk rfl) ?_
    refine wpd_t0 11 rfl (by kernel_rfl) trivial (t_st1 Try.ti22 rfl rfl (SV.one (by first | assumption | exact SV.nil | exact SV.slv (by assumption) (by omega) (by omega) | exact arv_sv (by first | decide | (simp only [maxLen]; omega)))) (by first | decide | omega | exact Nat.zero_lt_one | (simp; omega) | (simp; done) | (simp only [v8s_length, v32s_length, vis_length, vns_length, v64s_length]; omega)) [.int .u8 (tg.toNat : Int), b26, nl] rfl) (fun _ => skk rfl) (fun _ => ?_)
    refine wpd_done (by kernel_rfl) ?_
    refine ex_block ?_
    refine ex_then ?_
    refine wpc_region ?_
    refine wpl_q (q_pure rfl) rfl ?_
    refine wpl_q (q_subN (b := 1) rfl rfl (by omega) (by first | omega | (simp only [maxLen]; omega) | (simp only [List.length_append, List.length_cons, List.length_nil, List.length_take, maxLen]; omega) | (simp only [List.length_append, List.length_cons, List.length_nil, List.length_take]; omega))) rfl ?_
    refine wpl_q (q_pure rfl) rfl ?_
    refine wpl_nil ?_
    refine ex_again ⟨(s - 1, b26), ⟨by omega, by show SV b26 (kB z.toNat - (s - 1)); rw [show kB z.toNat - (s - 1) = (kB z.toNat - s) + 1 by omega]; exact p26⟩⟩ ?_ ?_ ?_
    ·
     exact (by repeat (first | exact trivial | refine ⟨rfl, ?_⟩))
    ·
     exact fun w h => by
       dsimp only
       rw [show (kB z.toNat - s) + 1 = kB z.toNat - (s - 1) by omega] at h
       exact h.sel
    ·
     (show (s - 1) < s); omega
   ·
    simp only [decide_eq_false_iff_not] at hc14
    obtain rfl : s = 0 := by omega
    haveI := oneH (t := tg) hi1 SV.nil
    refine wpc_exit ?_
    refine ex_then_exit ?_
    refine ex_then_exit ?_
    refine ex_block_hit ?_
    refine ex_then ?_
    refine wpc_seq ?_
    refine wpc_region ?_
    refine wpl_q (q_ldN Try.underlying25 rfl Try.ti25 rfl LenC.h) rfl ?_
    refine wpl_t0 (t_stA Try.ti25 rfl rfl LenC.h OneC.h LenC.h) (fun _ => ?_)
    refine wpl_nil ?_
    refine ex_then ?_
    refine wpc_ret ?_
    refine retv1 (.inl rfl) rfl (rv_agg Try.underlying25 rfl Try.ti25 rfl (fun w h => h.atB) (by first | with_reducible rfl | (simp only [v8s_length, v32s_length, vis_length, vns_length, v64s_length, List.length_replicate]; first | done | with_reducible assumption | omega) | (rw [v8s_length]; (first | with_reducible assumption | with_reducible exact shortF_length _ | with_reducible exact stepF_length _ _ _ | with_reducible exact sumF_length _ | with_reducible exact climbF_length _ (by first | with_reducible assumption | with_reducible exact shortF_length _ | with_reducible exact beginF_length _ _ | with_reducible exact getD_mem_len (by assumption) (by omega)) _ _ _ | with_reducible exact beginF_length _ _ | with_reducible exact chainF_length _ _ _ | with_reducible exact recF_length _ _ | with_reducible exact publicF_length _ | with_reducible exact getD_mem_len (by assumption) (by omega) | (with_reducible exact List.length_replicate))) | rfl)) ?_
    exact fun w1 h => by
      rw [show z.toNat / 2 ^ (8 * 0) = z.toNat from Nat.div_one _, Nat.sub_zero, show numK (kB z.toNat) z.toNat = numB z.toNat from rfl] at h
      have hl : (numB z.toNat).length = kB z.toNat := numK_len _ _
      have h2 : Mem w [] [.row nb (numB z.toNat).length 5 1 (v8s (numB z.toNat)), .row nl 0 25 3 (hcs [])] [] w1 := by rw [hl]; have h3 : Mem w [] [.row nb (kB z.toNat) 5 1 (v8s (numB z.toNat)), .row nl 0 25 3 []] [] w1 := (h.nilRow 25 3).sel; exact h3
      exact ⟨.nd tg nb (numB z.toNat) nl [], ⟨rfl, by rw [hl]; exact hi1, SV.nil⟩, rfl, h.below, madeT h2⟩

set_option maxRecDepth 100000 in
theorem refNum (tg : UInt8) (z : UInt64) (w : World)   :
    Calls Try.prog 23 [.int .u8 tg.toNat, .int .u64 z.toNat].toArray w (GivesP w (fun y : HT => y.tr = Tr.nd tg (numB z.toNat) [] ∧ y.sv) (fun y => .agg y.c.toArray) (fun y => y.ents) (fun _ => [])) := by
  refine enter (m := 9) (R := Mem w [] [] []) Try.func23 rfl rfl (Nat.le_of_ble_eq_true rfl) (Mem.start w) ?_
  refine wpc_seq ?_
  refine wpc_region ?_
  refine wpl_t (t_alloc Try.ti25 [.int .u8 0, nl, nl] rfl) rfl (fun b4 => ?_)
  refine wpl_nil ?_
  refine ex_then ?_
  refine wpc_seq ?_
  refine wpc_region ?_
  refine wpl_q (q_pure rfl) rfl ?_
  refine wpl_q (q_pure rfl) rfl ?_
  refine wpl_tp (t_callP1 Try.hb43 rfl fun w h => refBytes z w) rfl (fun b7 p7 => ?_)
  haveI := oneH (t := tg) p7 SV.nil
  refine wpl_q (q_build (cs := [.int .u8 (tg.toNat : Int), b7, nl]) rfl (built_o1 tg p7)) rfl ?_
  refine wpl_t0 (t_stA Try.ti25 rfl rfl LenC.h OneC.h LenC.h) (fun _ => ?_)
  refine wpl_nil ?_
  refine ex_then ?_
  refine wpc_ret ?_
  refine retv1 (.inl rfl) rfl (rv_agg Try.underlying25 rfl Try.ti25 rfl (fun w h => h.atB) (by first | with_reducible rfl | (simp only [v8s_length, v32s_length, vis_length, vns_length, v64s_length, List.length_replicate]; first | done | with_reducible assumption | omega) | (rw [v8s_length]; (first | with_reducible assumption | with_reducible exact shortF_length _ | with_reducible exact stepF_length _ _ _ | with_reducible exact sumF_length _ | with_reducible exact climbF_length _ (by first | with_reducible assumption | with_reducible exact shortF_length _ | with_reducible exact beginF_length _ _ | with_reducible exact getD_mem_len (by assumption) (by omega)) _ _ _ | with_reducible exact beginF_length _ _ | with_reducible exact chainF_length _ _ _ | with_reducible exact recF_length _ _ | with_reducible exact publicF_length _ | with_reducible exact getD_mem_len (by assumption) (by omega) | (with_reducible exact List.length_replicate))) | rfl)) ?_
  exact fun w1 h => by
    have h2 : Mem w [] [.row b7 (numB z.toNat).length 5 1 (v8s (numB z.toNat)), .row nl 0 25 3 []] [] w1 := (h.nilRow 25 3).sel
    exact ⟨.nd tg b7 (numB z.toNat) nl [], ⟨rfl, p7, SV.nil⟩, rfl, h.below, madeT h2⟩

set_option maxRecDepth 100000 in
theorem octStr (tg : UInt8) (bs : List UInt8) (w : World)  (hl : bs.length ≤ maxLen) :
    Calls Try.prog 24 [.int .u8 tg.toNat, str bs].toArray w (GivesP w (fun y : HT => y.tr = Tr.nd tg bs [] ∧ y.sv) (fun y => .agg y.c.toArray) (fun _ => []) (fun y => [Go.Proofs.Ytommkigkkeailaa.hseen y])) := by
  refine enter (m := 9) (R := Mem w [] [] []) Try.func24 rfl rfl (Nat.le_of_ble_eq_true rfl) (Mem.start w) ?_
  refine wpc_seq ?_
  refine wpc_region ?_
  refine wpl_t (t_alloc Try.ti25 [.int .u8 0, nl, nl] rfl) rfl (fun b4 => ?_)
  refine wpl_nil ?_
  refine ex_then ?_
  refine wpc_seq ?_
  refine wpc_region ?_
  refine wpl_q (q_pure rfl) rfl ?_
  refine wpl_q (q_pure rfl) rfl ?_
  refine wpl_tp (t_cvSB Try.underlying9 Try.underlying22 Try.underlying5 rfl hl) rfl (fun b7 p7 => ?_)
  haveI := oneH (t := tg) p7 SV.nil
  refine wpl_q (q_build (cs := [.int .u8 (tg.toNat : Int), b7, nl]) rfl (built_o1 tg p7)) rfl ?_
  refine wpl_t0 (t_stA Try.ti25 rfl rfl LenC.h OneC.h LenC.h) (fun _ => ?_)
  refine wpl_nil ?_
  refine ex_then ?_
  refine wpc_ret ?_
  refine retv1 (.inl rfl) rfl (rv_agg Try.underlying25 rfl Try.ti25 rfl (fun w h => h.atB) (by first | with_reducible rfl | (simp only [v8s_length, v32s_length, vis_length, vns_length, v64s_length, List.length_replicate]; first | done | with_reducible assumption | omega) | (rw [v8s_length]; (first | with_reducible assumption | with_reducible exact shortF_length _ | with_reducible exact stepF_length _ _ _ | with_reducible exact sumF_length _ | with_reducible exact climbF_length _ (by first | with_reducible assumption | with_reducible exact shortF_length _ | with_reducible exact beginF_length _ _ | with_reducible exact getD_mem_len (by assumption) (by omega)) _ _ _ | with_reducible exact beginF_length _ _ | with_reducible exact chainF_length _ _ _ | with_reducible exact recF_length _ _ | with_reducible exact publicF_length _ | with_reducible exact getD_mem_len (by assumption) (by omega) | (with_reducible exact List.length_replicate))) | rfl)) ?_
  exact fun w1 h => ⟨.nd tg b7 bs nl [], ⟨rfl, p7, SV.nil⟩, rfl, h.below, made_str h⟩

set_option maxRecDepth 100000 in
theorem refStr (tg : UInt8) (bs : List UInt8) (w : World)  (hl : bs.length ≤ maxLen) :
    Calls Try.prog 25 [.int .u8 tg.toNat, str bs].toArray w (GivesP w (fun y : HT => y.tr = Tr.nd tg bs [] ∧ y.sv) (fun y => .agg y.c.toArray) (fun _ => []) (fun y => [Go.Proofs.Ytommkigkkeailaa.hseen y])) := by
  refine enter (m := 9) (R := Mem w [] [] []) Try.func25 rfl rfl (Nat.le_of_ble_eq_true rfl) (Mem.start w) ?_
  refine wpc_seq ?_
  refine wpc_region ?_
  refine wpl_t (t_alloc Try.ti25 [.int .u8 0, nl, nl] rfl) rfl (fun b4 => ?_)
  refine wpl_nil ?_
  refine ex_then ?_
  refine wpc_seq ?_
  refine wpc_region ?_
  refine wpl_q (q_pure rfl) rfl ?_
  refine wpl_q (q_pure rfl) rfl ?_
  refine wpl_tp (t_cvSB Try.underlying9 Try.underlying22 Try.underlying5 rfl hl) rfl (fun b7 p7 => ?_)
  haveI := oneH (t := tg) p7 SV.nil
  refine wpl_q (q_build (cs := [.int .u8 (tg.toNat : Int), b7, nl]) rfl (built_o1 tg p7)) rfl ?_
  refine wpl_t0 (t_stA Try.ti25 rfl rfl LenC.h OneC.h LenC.h) (fun _ => ?_)
  refine wpl_nil ?_
  refine ex_then ?_
  refine wpc_ret ?_
  refine retv1 (.inl rfl) rfl (rv_agg Try.underlying25 rfl Try.ti25 rfl (fun w h => h.atB) (by first | with_reducible rfl | (simp only [v8s_length, v32s_length, vis_length, vns_length, v64s_length, List.length_replicate]; first | done | with_reducible assumption | omega) | (rw [v8s_length]; (first | with_reducible assumption | with_reducible exact shortF_length _ | with_reducible exact stepF_length _ _ _ | with_reducible exact sumF_length _ | with_reducible exact climbF_length _ (by first | with_reducible assumption | with_reducible exact shortF_length _ | with_reducible exact beginF_length _ _ | with_reducible exact getD_mem_len (by assumption) (by omega)) _ _ _ | with_reducible exact beginF_length _ _ | with_reducible exact chainF_length _ _ _ | with_reducible exact recF_length _ _ | with_reducible exact publicF_length _ | with_reducible exact getD_mem_len (by assumption) (by omega) | (with_reducible exact List.length_replicate))) | rfl)) ?_
  exact fun w1 h => ⟨.nd tg b7 bs nl [], ⟨rfl, p7, SV.nil⟩, rfl, h.below, made_str h⟩

end Go.Proofs.Ytommkigkkeailaa
