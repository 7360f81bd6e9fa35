/- The law of reading. -/
import Derived.Test.YtommkigkkeailaaOL
namespace Go.Proofs.Ytommkigkkeailaa
set_option linter.unusedSimpArgs false
set_option linter.unusedVariables false
open Go Go.PL Go.RowKit

theorem frz {P : Program} {k : FuncId} {vs : Array Value} {w : World} {p : HT → Prop} {V : HT → Value} (h : Calls P k vs w (GivesP w p V (fun y => y.ents) (fun _ => []))) : Calls P k vs w (GivesP w p V (fun _ => []) (fun y => [Go.Proofs.Ytommkigkkeailaa.hseen y])) := by
  refine h.mono ?_
  rintro e w' ⟨y, hp, rfl, hb, hn⟩
  have hm := (Mem.start w).call hb hn
  rw [List.append_nil, List.append_nil] at hm
  exact ⟨y, hp, rfl, hb, new_freeze hm⟩
theorem Mem.hseenLs {w0 w : World} {Ln : List Nat} {M : List Ent} {S : List Fact} {l : List HT} (h : Mem w0 Ln M S w) (hs : ∀ e ∈ entsL l, e ∈ M) : HSeenL w.cell? l := HSeenL_iff.2 fun x hx => Mem.hseenM h fun e he => hs e (mem_entsL hx he)
theorem sm_two {tg : UInt8} {t u : HT} (h1 : ¬ GreatT t.tr) (h2 : ¬ GreatT u.tr) : Sm (Tr.nd tg [] (trs [t, u])) := by
  have a := great_no h1
  have b := great_no h2
  show 0 + (t.tr.byt + (u.tr.byt + 0)) + 5 * (1 + (t.tr.cnt + (u.tr.cnt + 0))) ≤ 1000000
  omega

set_option maxRecDepth 100000 in
theorem octetReads (t : HT) (u : HT) (g : UInt8) (mx : UInt64) (bs : List UInt8) (lo : Int) (hi : Int) (w : World) (ht : HSeen w.cell? t) (hu : HSeen w.cell? u) (hlt : Lens t) (hlu : Lens u) :
    Calls Try.prog 3 [.agg t.c.toArray, .agg u.c.toArray, .int .u8 g.toNat, .int .u64 mx.toNat, str bs, .int .i64 lo, .int .i64 hi].toArray w (Pur w (.bool true)) := by
  haveI := ht.sv.one
  haveI := hu.sv.one
  refine enter (m := 169) (R := Mem w [] [] []) Try.func3 rfl rfl (Nat.le_of_ble_eq_true rfl) (Mem.start w) ?_
  refine wpc_seq ?_
  refine wpc_region ?_
  refine wpl_t (t_box rfl t.c rfl) rfl (fun b7 => ?_)
  refine wpl_t (t_box rfl u.c rfl) rfl (fun b8 => ?_)
  refine wpl_q (q_pure rfl) rfl ?_
  refine wpl_nil ?_
  refine ex_then ?_
  refine wpc_seq ?_
  refine wpc_seq ?_
  refine wpc_region ?_
  refine wpl_q (q_ldN Try.underlying25 rfl Try.ti25 rfl LenC.h) rfl ?_
  refine wpl_t (t_pur Try.hb12 rfl fun w h => great t w (ht.old h) hlt) rfl (fun b33 => ?_)
  refine wpl_q (q_pure rfl) rfl ?_
  refine wpl_bool2 34 33 rfl rfl (fun hb34 => ?_) (fun hb34 => ?_)
  ·
   refine wpl_off rfl rfl rfl rfl ?_
   refine wpl_off rfl rfl rfl rfl ?_
   refine wpl_q (q_pure rfl) rfl ?_
   refine wpl_q (q_pure rfl) rfl ?_
   refine wpl_off rfl rfl rfl rfl ?_
   refine wpl_off rfl rfl rfl rfl ?_
   refine wpl_off rfl rfl rfl rfl ?_
   refine wpl_q (q_pure rfl) rfl ?_
   refine wpl_nil ?_
   refine ex_then ?_
   refine wpc_cond_t rfl ?_
   refine wpc_seq ?_
   refine wpc_region ?_
   refine wpl_q (q_pure rfl) rfl ?_
   refine wpl_nil ?_
   refine ex_then ?_
   refine wpc_ret ?_
   refine ex_then_ret ?_
   refine ret1 (.inl rfl) rfl rfl ?_
   exact fun w h => ⟨rfl, h.below⟩
  ·
   have g1 : ¬ GreatT t.tr := by simpa using hb34
   have s1 := great_sm g1
   refine wpl_on rfl rfl ?_
   refine wpl_q (q_ldN Try.underlying25 rfl Try.ti25 rfl LenC.h) rfl ?_
   refine wpl_on rfl rfl ?_
   refine wpl_t (t_pur Try.hb12 rfl fun w h => great u w (hu.old h) hlu) rfl (fun b36 => ?_)
   refine wpl_q (q_pure rfl) rfl ?_
   refine wpl_q (q_pure rfl) rfl ?_
   refine wpl_bool2 38 36 rfl rfl (fun hb38 => ?_) (fun hb38 => ?_)
   ·
    refine wpl_off rfl rfl rfl rfl ?_
    refine wpl_off rfl rfl rfl rfl ?_
    refine wpl_off rfl rfl rfl rfl ?_
    refine wpl_q (q_pure rfl) rfl ?_
    refine wpl_nil ?_
    refine ex_then ?_
    refine wpc_cond_t rfl ?_
    refine wpc_seq ?_
    refine wpc_region ?_
    refine wpl_q (q_pure rfl) rfl ?_
    refine wpl_nil ?_
    refine ex_then ?_
    refine wpc_ret ?_
    refine ex_then_ret ?_
    refine ret1 (.inl rfl) rfl rfl ?_
    exact fun w h => ⟨rfl, h.below⟩
   ·
    have g2 : ¬ GreatT u.tr := by simpa using hb38
    have s2 := great_sm g2
    refine wpl_on rfl rfl ?_
    refine wpl_q (q_pure rfl) rfl ?_
    refine wpl_on rfl rfl ?_
    refine wpl_q (q_lenS Try.underlying9 rfl) rfl ?_
    refine wpl_on rfl rfl ?_
    refine wpl_q (q_pure rfl) rfl ?_
    refine wpl_q (q_pure rfl) rfl ?_
    refine wpl_nil ?_
    refine ex_then ?_
    refine wpc_cond rfl (fun hc42 => ?_) (fun hc42 => ?_)
    ·
     refine wpc_seq ?_
     refine wpc_region ?_
     refine wpl_q (q_pure rfl) rfl ?_
     refine wpl_nil ?_
     refine ex_then ?_
     refine wpc_ret ?_
     refine ex_then_ret ?_
     refine ret1 (.inl rfl) rfl rfl ?_
     exact fun w h => ⟨rfl, h.below⟩
    ·
     simp only [decide_eq_false_iff_not] at hc42
     have hbl : bs.length ≤ maxLen := by simp only [maxLen]; omega
     refine wpc_skip ?_
     refine ex_then ?_
     refine wpc_seq ?_
     refine wpc_region ?_
     refine wpl_q (q_ldN Try.underlying25 rfl Try.ti25 rfl LenC.h) rfl ?_
     refine wpl_tp (t_callE (fun y : HT => .blk b8 25 u.c :: .blk b7 25 t.c :: y.ents) (fun y => List.perm_append_comm) Try.hb13 rfl fun w h => refTwin t w (ht.old h) s1) rfl (fun b44 p44 => ?_)
     haveI := p44.2.one
     refine wpl_t (t_alloc Try.ti25 HT.z.c rfl) rfl (fun b15 => ?_)
     refine wpl_t0 (t_stA Try.ti25 rfl rfl LenC.h OneC.h LenC.h) (fun _ => ?_)
     refine wpl_nil ?_
     refine ex_then ?_
     refine wpc_seq ?_
     refine wpc_region ?_
     refine wpl_q (q_ldN Try.underlying25 rfl Try.ti25 rfl LenC.h) rfl ?_
     refine wpl_q (q_pure rfl) rfl ?_
     refine wpl_q (q_pure rfl) rfl ?_
     refine wpl_t (t_pur Try.hb14 rfl fun w h => octReadNum t g mx w (ht.old h)) rfl (fun b49 => ?_)
     refine wpl_q (q_pure rfl) rfl ?_
     refine wpl_q (q_pure rfl) rfl ?_
     refine wpl_q (q_pure rfl) rfl ?_
     refine wpl_q (q_pure rfl) rfl ?_
     refine wpl_q (q_pure rfl) rfl ?_
     refine wpl_nil ?_
     refine ex_then ?_
     refine wpc_seq ?_
     refine wpc_region ?_
     refine wpl_q (q_ldN Try.underlying25 rfl Try.ti25 rfl LenC.h) rfl ?_
     refine wpl_q (q_pure rfl) rfl ?_
     refine wpl_q (q_pure rfl) rfl ?_
     refine wpl_t (t_pur Try.hb15 rfl fun w h => refReadNum t g mx w (ht.old h)) rfl (fun b56 => ?_)
     refine wpl_q (q_pure rfl) rfl ?_
     refine wpl_q (q_pure rfl) rfl ?_
     refine wpl_q (q_pure rfl) rfl ?_
     refine wpl_q (q_pure rfl) rfl ?_
     refine wpl_q (q_pure rfl) rfl ?_
     refine wpl_nil ?_
     refine ex_then ?_
     refine wpc_seq ?_
     refine wpc_region ?_
     refine wpl_q (q_ldN Try.underlying25 rfl Try.ti25 rfl LenC.h) rfl ?_
     refine wpl_q (q_pure rfl) rfl ?_
     refine wpl_q (q_pure rfl) rfl ?_
     refine wpl_t (t_pur Try.hb16 rfl fun w h => octReadStr t g hi w (ht.old h)) rfl (fun b63 => ?_)
     refine wpl_q (q_pure rfl) rfl ?_
     refine wpl_q (q_pure rfl) rfl ?_
     refine wpl_q (q_pure rfl) rfl ?_
     refine wpl_q (q_pure rfl) rfl ?_
     refine wpl_q (q_pure rfl) rfl ?_
     refine wpl_nil ?_
     refine ex_then ?_
     refine wpc_seq ?_
     refine wpc_region ?_
     refine wpl_q (q_ldN Try.underlying25 rfl Try.ti25 rfl LenC.h) rfl ?_
     refine wpl_q (q_pure rfl) rfl ?_
     refine wpl_q (q_pure rfl) rfl ?_
     refine wpl_t (t_pur Try.hb17 rfl fun w h => refReadStr t g hi w (ht.old h)) rfl (fun b70 => ?_)
     refine wpl_q (q_pure rfl) rfl ?_
     refine wpl_q (q_pure rfl) rfl ?_
     refine wpl_q (q_pure rfl) rfl ?_
     refine wpl_q (q_pure rfl) rfl ?_
     refine wpl_q (q_pure rfl) rfl ?_
     refine wpl_nil ?_
     refine ex_then ?_
     refine wpc_seq ?_
     refine wpc_region ?_
     refine wpl_q (q_ldN Try.underlying25 rfl Try.ti25 rfl LenC.h) rfl ?_
     refine wpl_q (q_pure rfl) rfl ?_
     refine wpl_q (q_pure rfl) rfl ?_
     refine wpl_q (q_pure rfl) rfl ?_
     refine wpl_tp (t_callE (fun y : Value × List HT => .blk b15 25 b44.c :: .blk b8 25 u.c :: .blk b7 25 t.c :: .row y.1 y.2.length 25 3 (hcs y.2) :: (entsL y.2 ++ b44.ents)) (fun y => List.perm_append_comm_assoc (.row y.1 y.2.length 25 3 (hcs y.2) :: entsL y.2) [.blk b15 25 b44.c, .blk b8 25 u.c, .blk b7 25 t.c] b44.ents) Try.hb18 rfl fun w h => octReadSeq t g lo hi w (ht.old h) s1) rfl (fun b78 p78 => ?_)
     refine wpl_q (q_pure rfl) rfl ?_
     refine wpl_q (q_pure rfl) rfl ?_
     refine wpl_q (q_pure rfl) rfl ?_
     refine wpl_q (q_pure rfl) rfl ?_
     refine wpl_q (q_pure rfl) rfl ?_
     refine wpl_nil ?_
     refine ex_then ?_
     refine wpc_seq ?_
     refine wpc_region ?_
     refine wpl_q (q_ldN Try.underlying25 rfl Try.ti25 rfl LenC.h) rfl ?_
     refine wpl_q (q_pure rfl) rfl ?_
     refine wpl_q (q_pure rfl) rfl ?_
     refine wpl_q (q_pure rfl) rfl ?_
     refine wpl_tp (t_callE (fun y : Value × List HT => .blk b15 25 b44.c :: .blk b8 25 u.c :: .blk b7 25 t.c :: .row y.1 y.2.length 25 3 (hcs y.2) :: (entsL y.2 ++ (.row b78.1 b78.2.length 25 3 (hcs b78.2) :: (entsL b78.2 ++ b44.ents)))) (fun y => List.perm_append_comm_assoc (.row y.1 y.2.length 25 3 (hcs y.2) :: entsL y.2) [.blk b15 25 b44.c, .blk b8 25 u.c, .blk b7 25 t.c] (.row b78.1 b78.2.length 25 3 (hcs b78.2) :: (entsL b78.2 ++ b44.ents))) Try.hb19 rfl fun w h => refReadSeq t g lo hi w (ht.old h) s1) rfl (fun b86 p86 => ?_)
     have hyz : trs b78.2 = trs b86.2 := p78.1.trans p86.1.symm
     have sy := p78.2.1
     have sz := p86.2.1
     refine wpl_q (q_pure rfl) rfl ?_
     refine wpl_q (q_pure rfl) rfl ?_
     refine wpl_q (q_pure rfl) rfl ?_
     refine wpl_q (q_pure rfl) rfl ?_
     refine wpl_q (q_pure rfl) rfl ?_
     refine wpl_nil ?_
     refine ex_then ?_
     refine wpc_seq ?_
     refine wpc_region ?_
     refine wpl_q (q_pure rfl) rfl ?_
     refine wpl_q (q_ldN Try.underlying25 rfl Try.ti25 rfl LenC.h) rfl ?_
     refine wpl_q (q_ldN Try.underlying25 rfl Try.ti25 rfl LenC.h) rfl ?_
     refine wpl_tp (t_bsG [.agg t.c.toArray, .agg u.c.toArray] (hcs [t, u]) Try.underlying23 Try.ti25 rfl (by decide) rfl (by decide) (by decide) rfl (by intro v hv; simp only [List.mem_cons, List.not_mem_nil, or_false] at hv; rcases hv with rfl | rfl <;> exact HT.c_length _) rfl) rfl (fun b92 p92 => ?_)
     refine wpl_tp (t_callE (fun y : HT => .row b92 2 25 3 (hcs [t, u]) :: .blk b15 25 b44.c :: .blk b8 25 u.c :: .blk b7 25 t.c :: (y.ents ++ (.row b86.1 b86.2.length 25 3 (hcs b86.2) :: (entsL b86.2 ++ (.row b78.1 b78.2.length 25 3 (hcs b78.2) :: (entsL b78.2 ++ b44.ents)))))) (fun y => List.perm_append_comm_assoc y.ents [.row b92 2 25 3 (hcs [t, u]), .blk b15 25 b44.c, .blk b8 25 u.c, .blk b7 25 t.c] (.row b86.1 b86.2.length 25 3 (hcs b86.2) :: (entsL b86.2 ++ (.row b78.1 b78.2.length 25 3 (hcs b78.2) :: (entsL b78.2 ++ b44.ents))))) Try.hb20 rfl fun w h => octSeq g b92 [t, u] w (h.seenV) ⟨ht.old h, hu.old h, trivial⟩ (sm_two g1 g2)) rfl (fun b93 p93 => ?_)
     haveI := p93.2.one
     refine wpl_t (t_alloc Try.ti25 HT.z.c rfl) rfl (fun b28 => ?_)
     refine wpl_t0 (t_stA Try.ti25 rfl rfl LenC.h OneC.h LenC.h) (fun _ => ?_)
     refine wpl_nil ?_
     refine ex_then ?_
     refine wpc_seq ?_
     refine wpc_draw 26 (by kernel_rfl) (fun _ h => h.drew) ?_
     refine wpd_p 0 rfl (by kernel_rfl) trivial (q_pure rfl) rfl sk0 ?_
     refine wpd_p 1 rfl (by kernel_rfl) trivial (q_pure rfl) rfl sk0 ?_
     refine wpd_p 3 rfl (by kernel_rfl) trivial (q_pure rfl) rfl sk0 ?_
     refine wpd_p 4 rfl (by kernel_rfl) trivial (q_pure rfl) rfl sk0 ?_
     refine wpd_tp 2 rfl (by kernel_rfl) trivial (t_callPT Try.hb22 rfl fun w h => frz (octNum g mx w)) rfl (fun _ => (fun w h => .inr (h.sub SubC.h SubC.h))) (fun b96 p96 => ?_)
     refine wpd_tp 5 rfl (by kernel_rfl) trivial (t_callPT Try.hb23 rfl fun w h => frz (refNum g mx w)) rfl (fun _ => (fun w h => .inr (h.sub SubC.h SubC.h))) (fun b99 p99 => ?_)
     refine wpd_t 6 rfl (by kernel_rfl) trivial (t_pur (v := .bool true) Try.hb21 rfl fun w h => by have q := refSame b96 b99 w (Mem.hseenF h (by simp)) (Mem.hseenF h (by simp)); rwa [decide_eq_true (show b96.tr = b99.tr from p96.1.trans p99.1.symm)] at q) rfl (fun _ => (fun w h => .inr (h.sub SubC.h SubC.h))) (fun b100 => ?_)
     refine wpd_p 7 rfl (by kernel_rfl) trivial (q_pure rfl) rfl (fun w h => .inr (h.sub SubC.h SubC.h)) ?_
     refine wpd_p 8 rfl (by kernel_rfl) ⟨_, rfl, rfl⟩ (q_pure rfl) rfl (fun w h => .inr (h.sub SubC.h SubC.h)) ?_
     refine wpd_p 9 rfl (by kernel_rfl) ⟨_, rfl, rfl⟩ (q_pure rfl) rfl (fun w h => .inr (h.sub SubC.h SubC.h)) ?_
     refine wpd_p 11 rfl (by kernel_rfl) ⟨_, rfl, rfl⟩ (q_pure rfl) rfl (fun w h => .inr (h.sub SubC.h SubC.h)) ?_
     refine wpd_p 12 rfl (by kernel_rfl) ⟨_, rfl, rfl⟩ (q_pure rfl) rfl (fun w h => .inr (h.sub SubC.h SubC.h)) ?_
     refine wpd_tp 10 rfl (by kernel_rfl) ⟨_, rfl, rfl⟩ (t_callPT Try.hb24 rfl fun w h => octStr g bs w hbl) rfl (fun _ => (fun w h => .inr (h.sub SubC.h SubC.h))) (fun b104 p104 => ?_)
     refine wpd_tp 13 rfl (by kernel_rfl) ⟨_, rfl, rfl⟩ (t_callPT Try.hb25 rfl fun w h => refStr g bs w hbl) rfl (fun _ => (fun w h => .inr (h.sub SubC.h SubC.h))) (fun b107 p107 => ?_)
     refine wpd_t 14 rfl (by kernel_rfl) ⟨_, rfl, rfl⟩ (t_pur (v := .bool true) Try.hb21 rfl fun w h => by have q := refSame b104 b107 w (Mem.hseenF h (by simp)) (Mem.hseenF h (by simp)); rwa [decide_eq_true (show b104.tr = b107.tr from p104.1.trans p107.1.symm)] at q) rfl (fun _ => (fun w h => .inr (h.sub SubC.h SubC.h))) (fun b108 => ?_)
     refine wpd_p 15 rfl (by kernel_rfl) trivial (q_pure rfl) rfl (fun w h => .inr (h.sub SubC.h SubC.h)) ?_
     refine wpd_p 16 rfl (by kernel_rfl) trivial (q_pure rfl) rfl (fun w h => .inr (h.sub SubC.h SubC.h)) ?_
     refine wpd_q 17 rfl (by kernel_rfl) ⟨_, rfl, rfl⟩ (q_ldN Try.underlying25 rfl Try.ti25 rfl LenC.h) rfl (fun w h => h.sub SubC.h SubC.h) ?_
     refine wpd_p 18 rfl (by kernel_rfl) ⟨_, rfl, rfl⟩ (q_pure rfl) rfl (fun w h => .inr (h.sub SubC.h SubC.h)) ?_
     refine wpd_q 19 rfl (by kernel_rfl) ⟨_, rfl, rfl⟩ (q_ldN Try.underlying25 rfl Try.ti25 rfl LenC.h) rfl (fun w h => h.sub SubC.h SubC.h) ?_
     refine wpd_q 20 rfl (by kernel_rfl) ⟨_, rfl, rfl⟩ (q_ldN Try.underlying25 rfl Try.ti25 rfl LenC.h) rfl (fun w h => h.sub SubC.h SubC.h) ?_
     refine wpd_tp 21 rfl (by kernel_rfl) ⟨_, rfl, rfl⟩ (t_bsG [.agg t.c.toArray, .agg u.c.toArray] (hcs [t, u]) Try.underlying23 Try.ti25 rfl (by decide) rfl (by decide) (by decide) rfl (by intro v hv; simp only [List.mem_cons, List.not_mem_nil, or_false] at hv; rcases hv with rfl | rfl <;> exact HT.c_length _) rfl) rfl (fun _ => (fun w h => .inr (h.sub SubC.h SubC.h))) (fun b115 p115 => ?_)
     refine wpd_tp 22 rfl (by kernel_rfl) ⟨_, rfl, rfl⟩ (t_callPT Try.hb26 rfl fun w h => frz (refSeq g b115 [t, u] w (h.seenV) ⟨ht.old h, hu.old h, trivial⟩ (sm_two g1 g2))) rfl (fun _ => (fun w h => .inr (h.sub SubC.h SubC.h))) (fun b116 p116 => ?_)
     refine wpd_t 23 rfl (by kernel_rfl) ⟨_, rfl, rfl⟩ (t_pur (v := .bool true) Try.hb21 rfl fun w h => by have q := refSame b93 b116 w (Mem.hseen h) (Mem.hseenF h (by simp)); rwa [decide_eq_true (show b93.tr = b116.tr from p93.1.trans p116.1.symm)] at q) rfl (fun _ => (fun w h => .inr (h.sub SubC.h SubC.h))) (fun b117 => ?_)
     refine wpd_p 24 rfl (by kernel_rfl) trivial (q_pure rfl) rfl (fun w h => .inr (h.sub SubC.h SubC.h)) ?_
     refine wpd_p 25 rfl (by kernel_rfl) trivial (q_pure rfl) rfl (fun w h => .inr (h.sub SubC.h SubC.h)) ?_
     refine wpd_done (by kernel_rfl) ?_
     refine ex_then ?_
     refine wpc_cutc ({ x : Nat // True }) [(7, .pointer (some ⟨b7, 0, none⟩)), (15, .pointer (some ⟨b15, 0, none⟩)), (24, b78.1), (28, .pointer (some ⟨b28, 0, none⟩))] (fun x Lc => (30, .bool true) :: Lc) (fun x => Mem w [] (.blk b28 25 b93.c :: .blk b15 25 b44.c :: .blk b7 25 t.c :: .row b78.1 b78.2.length 25 3 (hcs b78.2) :: (entsL b78.2 ++ (b93.ents ++ b44.ents))) []) ?_ ?_
     ·
      refine wpc_region ?_
      refine wpl_q (q_pure rfl) rfl ?_
      refine wpl_q (q_pure rfl) rfl ?_
      refine wpl_on rfl rfl ?_
      refine wpl_q (q_pure rfl) rfl ?_
      refine wpl_on rfl rfl ?_
      refine wpl_q (q_pure rfl) rfl ?_
      refine wpl_on rfl rfl ?_
      refine wpl_q (q_tru (q64_eql rfl rfl) (by simp)) rfl ?_
      refine wpl_q (q_pure rfl) rfl ?_
      refine wpl_q (q_pure rfl) rfl ?_
      refine wpl_on rfl rfl ?_
      refine wpl_q (q_pure rfl) rfl ?_
      refine wpl_on rfl rfl ?_
      refine wpl_q (q_pure rfl) rfl ?_
      refine wpl_on rfl rfl ?_
      refine wpl_q (q_tru (q_eqI rfl rfl) (by simp)) rfl ?_
      refine wpl_q (q_pure rfl) rfl ?_
      refine wpl_q (q_pure rfl) rfl ?_
      refine wpl_on rfl rfl ?_
      refine wpl_q (q_pure rfl) rfl ?_
      refine wpl_on rfl rfl ?_
      refine wpl_q (q_pure rfl) rfl ?_
      refine wpl_on rfl rfl ?_
      refine wpl_q (q_tru (q_strEq Try.underlying9 rfl rfl (by kernel_rfl)) (by simp)) rfl ?_
      refine wpl_q (q_pure rfl) rfl ?_
      refine wpl_q (q_pure rfl) rfl ?_
      refine wpl_on rfl rfl ?_
      refine wpl_q (q_pure rfl) rfl ?_
      refine wpl_on rfl rfl ?_
      refine wpl_q (q_pure rfl) rfl ?_
      refine wpl_on rfl rfl ?_
      refine wpl_q (q_tru (q_eqI rfl rfl) (by simp)) rfl ?_
      refine wpl_q (q_pure rfl) rfl ?_
      refine wpl_q (q_pure rfl) rfl ?_
      refine wpl_on rfl rfl ?_
      refine wpl_q (q_pure rfl) rfl ?_
      refine wpl_on rfl rfl ?_
      refine wpl_q (q_pure rfl) rfl ?_
      refine wpl_on rfl rfl ?_
      refine wpl_t (t_pur (v := .bool true) Try.hb27 rfl fun w h => by have q := refSameL b78.1 b78.2 b86.1 b86.2 w (show Seen w.cell? b78.1 b78.2.length 3 (hcs b78.2) from h.seen_row (e := 25) (by simp)) (Mem.hseenLs h fun e he => by simp [he]) (show Seen w.cell? b86.1 b86.2.length 3 (hcs b86.2) from h.seen_row (e := 25) (by simp)) (Mem.hseenLs h fun e he => by simp [he]); rwa [decide_eq_true hyz] at q) rfl (fun b143 => ?_)
      refine wpl_q (q_pure rfl) rfl ?_
      refine wpl_q (q_pure rfl) rfl ?_
      refine wpl_on rfl rfl ?_
      refine wpl_q (q_pure rfl) rfl ?_
      refine wpl_on rfl rfl ?_
      refine wpl_q (q_pure rfl) rfl ?_
      refine wpl_on rfl rfl ?_
      refine wpl_q (q_tru (q_eqI rfl rfl) (by simp)) rfl ?_
      refine wpl_q (q_pure rfl) rfl ?_
      refine wpl_q (q_pure rfl) rfl ?_
      refine wpl_nil ?_
      refine ex_mid ⟨0, trivial⟩ ?_ ?_
      ·
       exact (by repeat (first | exact trivial | refine ⟨rfl, ?_⟩))
      ·
       exact fun w h => by
         have h2 := h.sub (M' := .blk b28 25 b93.c :: .blk b15 25 b44.c :: .blk b7 25 t.c :: (b93.ents ++ (.row b78.1 b78.2.length 25 3 (hcs b78.2) :: (entsL b78.2 ++ b44.ents)))) (S' := []) SubC.h .nil
         exact h2.perm (((List.perm_append_comm_assoc b93.ents (.row b78.1 b78.2.length 25 3 (hcs b78.2) :: entsL b78.2) b44.ents).cons _).cons _ |>.cons _)
     ·
      rintro ⟨q, _⟩; try dsimp only
      refine wpc_seq ?_
      refine wpc_seq ?_
      refine wpc_region ?_
      refine wpl_q (q_pure rfl) rfl ?_
      refine wpl_nil ?_
      refine ex_then ?_
      refine wpc_block ?_
      refine wpc_loopc (ι := { x : Nat // (x ≤ b78.2.length) }) [(7, _), (15, _), (24, _), (28, _), (30, _)] (fun x Lc => (31, .int .i64 ((x.1 : Nat) : Int)) :: Lc) (fun x => Mem w [] (.blk b28 25 b93.c :: .blk b15 25 b44.c :: .blk b7 25 t.c :: .row b78.1 b78.2.length 25 3 (hcs b78.2) :: (entsL (b78.2.drop x.1) ++ (b93.ents ++ b44.ents))) []) (fun x => b78.2.length - x.1) ⟨0, (Nat.zero_le _)⟩ (by repeat (first | exact trivial | refine ⟨rfl, ?_⟩)) ?_ ?_
      ·
       exact fun w h => h
      ·
       rintro ⟨j, hi0⟩; try dsimp only
       have hi0 : j ≤ b78.2.length := hi0
       refine wpc_seq ?_
       refine wpc_seq ?_
       refine wpc_region ?_
       refine wpl_q (q_pure rfl) rfl ?_
       refine wpl_q (q_pure rfl) rfl ?_
       refine wpl_q (q_lenW Try.underlying23 rfl (by first | assumption | exact SV.nil | exact SV.slv (by assumption) (by omega) (by omega) | exact arv_sv (by first | decide | (simp only [maxLen]; omega)))) rfl ?_
       refine wpl_q (q_pure rfl) rfl ?_
       refine wpl_nil ?_
       refine ex_then ?_
       refine wpc_cond rfl (fun hc153 => ?_) (fun hc153 => ?_)
       ·
        simp only [decide_eq_true_eq] at hc153
        have hjl : j < b78.2.length := by omega
        have lyy := sy.le
        simp only [maxLen] at lyy
        haveI := (p78.2.2 _ (getD_memH hjl)).one
        refine wpc_skip ?_
        refine ex_then ?_
        refine wpc_seq ?_
        refine wpc_block ?_
        refine wpc_region ?_
        refine wpl_q (q_pure rfl) rfl ?_
        refine wpl_q (q_pure rfl) rfl ?_
        refine wpl_q (q_idxW Try.underlying23 Try.ti25 rfl rfl (by first | assumption | exact SV.nil | exact SV.slv (by assumption) (by omega) (by omega) | exact arv_sv (by first | decide | (simp only [maxLen]; omega))) (by first | omega | (simp only [maxLen]; omega) | (simp only [List.length_append, List.length_cons, List.length_nil, List.length_take, maxLen]; omega) | (simp only [List.length_append, List.length_cons, List.length_nil, List.length_take]; omega))) rfl ?_
        refine wpl_q (q_ldWN Try.underlying25 rfl Try.ti25 rfl (fun w h => h.seenV) (b78.2.getD j HT.z).c (cat_part HT.c_length HT.z hjl) (HT.c_length _)) rfl ?_
        refine wpl_tp (t_callQ (b78.2.getD j HT.z).ents (.blk b28 25 b93.c :: .blk b15 25 b44.c :: .blk b7 25 t.c :: .row b78.1 b78.2.length 25 3 (hcs b78.2) :: (entsL (b78.2.drop (j + 1)) ++ (b93.ents ++ b44.ents))) (fun _ => .blk b28 25 b93.c :: .blk b15 25 b44.c :: .blk b7 25 t.c :: .row b78.1 b78.2.length 25 3 (hcs b78.2) :: (entsL (b78.2.drop (j + 1)) ++ (b93.ents ++ b44.ents))) (by rw [drop_consD HT.z hjl]; show (.blk b28 25 b93.c :: .blk b15 25 b44.c :: .blk b7 25 t.c :: .row b78.1 b78.2.length 25 3 (hcs b78.2) :: (((b78.2.getD j HT.z).ents ++ entsL (b78.2.drop (j + 1))) ++ (b93.ents ++ b44.ents))).Perm _; rw [List.append_assoc]; exact List.perm_append_comm_assoc [.blk b28 25 b93.c, .blk b15 25 b44.c, .blk b7 25 t.c, .row b78.1 b78.2.length 25 3 (hcs b78.2)] (b78.2.getD j HT.z).ents (entsL (b78.2.drop (j + 1)) ++ (b93.ents ++ b44.ents))) (fun _ => List.Perm.refl _) Try.hb28 rfl fun w h h2 => spoil (b78.2.getD j HT.z) w h2) rfl (fun b160 p160 => ?_)
        refine wpl_nil ?_
        refine ex_block ?_
        refine ex_then ?_
        refine wpc_region ?_
        refine wpl_q (q_pure rfl) rfl ?_
        refine wpl_q (q_addN (b := 1) rfl rfl (by first | omega | (simp only [maxLen]; omega) | (simp only [List.length_append, List.length_cons, List.length_nil, List.length_take, maxLen]; omega) | (simp only [List.length_append, List.length_cons, List.length_nil, List.length_take]; omega))) rfl ?_
        refine wpl_q (q_pure rfl) rfl ?_
        refine wpl_nil ?_
        refine ex_again ⟨j + 1, (by omega)⟩ ?_ ?_ ?_
        ·
         exact (by repeat (first | exact trivial | refine ⟨rfl, ?_⟩))
        ·
         exact fun w h => h
        ·
         (show b78.2.length - (j + 1) < b78.2.length - j); omega
       ·
        refine wpc_exit ?_
        refine ex_then_exit ?_
        refine ex_then_exit ?_
        refine ex_block_hit ?_
        refine ex_then ?_
        refine wpc_seq ?_
        refine wpc_region ?_
        refine wpl_q (q_ldN Try.underlying25 rfl Try.ti25 rfl LenC.h) rfl ?_
        refine wpl_tp (t_callQ b93.ents (.blk b28 25 b93.c :: .blk b15 25 b44.c :: .blk b7 25 t.c :: .row b78.1 b78.2.length 25 3 (hcs b78.2) :: (entsL (b78.2.drop j) ++ b44.ents)) (fun _ => .blk b28 25 b93.c :: .blk b15 25 b44.c :: .blk b7 25 t.c :: .row b78.1 b78.2.length 25 3 (hcs b78.2) :: (entsL (b78.2.drop j) ++ b44.ents)) (by have q := List.perm_append_comm_assoc ((.blk b28 25 b93.c :: .blk b15 25 b44.c :: .blk b7 25 t.c :: .row b78.1 b78.2.length 25 3 (hcs b78.2) :: entsL (b78.2.drop j)) : List Ent) b93.ents b44.ents; exact q) (fun _ => List.Perm.refl _) Try.hb28 rfl fun w h h2 => spoil b93 w h2) rfl (fun b162 p162 => ?_)
        refine wpl_nil ?_
        refine ex_then ?_
        refine wpc_seq ?_
        refine wpc_region ?_
        refine wpl_q (q_pure rfl) rfl ?_
        refine wpl_q (q_pure rfl) rfl ?_
        refine wpl_on rfl rfl ?_
        refine wpl_q (q_ldN Try.underlying25 rfl Try.ti25 rfl LenC.h) rfl ?_
        refine wpl_on rfl rfl ?_
        refine wpl_q (q_ldN Try.underlying25 rfl Try.ti25 rfl LenC.h) rfl ?_
        refine wpl_on rfl rfl ?_
        refine wpl_t (t_pur (v := .bool true) Try.hb21 rfl fun w h => by have q := refSame t b44 w (ht.old h) (Mem.hseen h); rwa [decide_eq_true (show t.tr = b44.tr from rfl.trans p44.1.symm)] at q) rfl (fun b167 => ?_)
        refine wpl_q (q_pure rfl) rfl ?_
        refine wpl_q (q_pure rfl) rfl ?_
        refine wpl_nil ?_
        refine ex_then ?_
        refine wpc_ret ?_
        refine ret1 (.inl rfl) rfl rfl ?_
        exact fun w h => ⟨rfl, h.below⟩

end Go.Proofs.Ytommkigkkeailaa
