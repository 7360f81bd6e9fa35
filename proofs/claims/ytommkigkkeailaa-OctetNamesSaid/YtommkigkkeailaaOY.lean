/- The encoder. -/
import Derived.Test.YtommkigkkeailaaOX
namespace Go.Proofs.Ytommkigkkeailaa
set_option linter.unusedSimpArgs false
set_option linter.unusedVariables false
open Go Go.PL Go.RowKit
theorem put : ∀ (t : HT) (v : Value) (xs : List UInt8) (w : World), (Ent.row v xs.length 5 1 (v8s xs)).at w → SV v xs.length → HSeen (rdO (nums [.row v xs.length 5 1 (v8s xs)]) w) t → Sm t.tr → xs.length + t.tr.siz ≤ 3000000 → Calls Try.prog 54 [v, .agg t.c.toArray].toArray w (GivesR w (.row v xs.length 5 1 (v8s xs)) (xs.length + t.tr.siz) 5 1 (v8s (xs ++ enc t.tr))) := by
  intro t
  induction t using HT.ind with
  | _ tg bv bs lv l ih => intro v xs w h1 h2 h3 h4 h5; exact put_step v xs _ w h1 h2 h3 h4 h5 (fun x hx v xs w a b c d e => ih x hx v xs w a b c d e)


theorem putNil (t : HT) (w : World) (hr : (Ent.row (.slice none 0 0) 0 5 1 []).at w) (ht : HSeen w.cell? t) (hsm : Sm t.tr) : Calls Try.prog 54 [.slice none 0 0, .agg t.c.toArray].toArray w (GivesR w (.row (.slice none 0 0) 0 5 1 []) (enc t.tr).length 5 1 (v8s (enc t.tr))) := by
  have h1 := siz_le t.tr hsm
  have h2 : t.tr.byt + 5 * t.tr.cnt ≤ 1000000 := hsm
  have q := put t nl [] w hr SV.nil (ht.mono fun a v hv => by
    show (if a.block ∈ ([] : List Nat) then none else w.cell? a) = some v
    rw [if_neg (by simp)]; exact hv) hsm (by show 0 + _ ≤ _; omega)
  rw [List.nil_append, show ([] : List UInt8).length + t.tr.siz = (enc t.tr).length by rw [enc_len t.tr hsm]; exact Nat.zero_add _] at q
  exact q

set_option maxRecDepth 100000 in
theorem octEncode (t : HT) (w : World) (ht : HSeen w.cell? t) (hsm : Sm t.tr) (hdp : t.tr.dep ≤ 900000) :
    Calls Try.prog 33 [.agg t.c.toArray].toArray w (GivesP w (fun v : Value => SV v (encF t.tr).1.length) (fun v => .tuple #[v, .int .i64 (encF t.tr).2]) (fun v => [.row v (encF t.tr).1.length 5 1 (v8s (encF t.tr).1)]) (fun _ => [])) := by
  haveI := ht.sv.one
  refine enter (m := 12) (R := Mem w [] [] []) Try.func33 rfl rfl (Nat.le_of_ble_eq_true rfl) (Mem.start w) ?_
  refine wpc_seq ?_
  refine wpc_region ?_
  refine wpl_t (t_box rfl t.c rfl) rfl (fun b1 => ?_)
  refine wpl_q (q_pure rfl) rfl ?_
  refine wpl_q (q_pure rfl) rfl ?_
  refine wpl_nil ?_
  refine ex_then ?_
  refine wpc_seq ?_
  refine wpc_seq ?_
  refine wpc_region ?_
  refine wpl_q (q_ldN Try.underlying25 rfl Try.ti25 rfl LenC.h) rfl ?_
  refine wpl_t (t_pur Try.hb30 rfl fun w h => check t w (ht.old h) hsm (by omega)) rfl (fun b6 => ?_)
  refine wpl_q (q_pure rfl) rfl ?_
  refine wpl_nil ?_
  refine ex_then ?_
  refine wpc_seq ?_
  refine wpc_region ?_
  refine wpl_q (q_pure rfl) rfl ?_
  refine wpl_q (q_pure rfl) rfl ?_
  refine wpl_nil ?_
  refine ex_then ?_
  refine wpc_cond rfl (fun hc8 => ?_) (fun hc8 => ?_)
  ·
   have hN : ¬ checkF t.tr = 0 := by simpa using hc8
   refine wpc_seq ?_
   refine wpc_region ?_
   refine wpl_q (q_pure rfl) rfl ?_
   refine wpl_q (q_pure rfl) rfl ?_
   refine wpl_q (q_pure rfl) rfl ?_
   refine wpl_nil ?_
   refine ex_then ?_
   refine wpc_ret ?_
   refine ex_then_ret ?_
   refine ret2 (.inl rfl) rfl rfl rfl ?_
   exact fun w1 h => ⟨nl, by rw [encF, if_neg hN]; exact SV.nil, by rw [encF, if_neg hN], h.below, by rw [encF, if_neg hN]; exact (show Mem w [] [.row nl 0 5 1 []] [] w1 from (h.nilRow 5 1).sel).made (Sub.refl _) .nil⟩
  ·
   have hZ : checkF t.tr = 0 := by simpa using hc8
   refine wpc_skip ?_
   refine ex_then ?_
   refine wpc_seq ?_
   refine wpc_region ?_
   refine wpl_q (q_ldN Try.underlying25 rfl Try.ti25 rfl LenC.h) rfl ?_
   refine wpl_tp (t_callR0 (m' := (enc t.tr).length) (ys := v8s (enc t.tr)) 5 1 Try.hb54 rfl fun w h hr => putNil t w hr (ht.old h) hsm) rfl (fun b11 p11 => ?_)
   refine wpl_q (q_pure rfl) rfl ?_
   refine wpl_q (q_pure rfl) rfl ?_
   refine wpl_nil ?_
   refine ex_then ?_
   refine wpc_ret ?_
   refine ret2 (.inl rfl) rfl rfl rfl ?_
   exact fun w1 h => ⟨b11, by rw [encF, if_pos hZ]; exact p11, by rw [encF, if_pos hZ], h.below, by rw [encF, if_pos hZ]; exact h.made SubC.h .nil⟩

end Go.Proofs.Ytommkigkkeailaa
