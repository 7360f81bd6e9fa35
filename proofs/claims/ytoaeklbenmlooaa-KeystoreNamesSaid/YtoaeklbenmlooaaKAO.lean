/- The law KeystoreNames returns true. -/
import Derived.Test.YtoaeklbenmlooaaKAN
namespace Go.Proofs.Ytoaeklbenmlooaa
set_option linter.unusedSimpArgs false
set_option linter.unusedVariables false
open Go Go.PL Go.RowKit

def nA : St := (newF zH 16).1
def n1 : St := (createF nA 1 0).1
def n2 : St := (reserveF n1 1).1
def n3 : St := (syncF n2).1
def n4 : St := (takeF n3 1).2.1
def nt : St := (crashF n1 9).1
def n0 : St := (openF nt).1
def ng : St := (dropF n4 1).1
def nF : Nat → St
  | 0 => nA
  | k + 1 => (createF (nF k) (UInt32.ofNat (k + 2)) 1).1
theorem hA : Bs nA := newF_bs rfl
theorem h1 : Bs n1 := createF_bs hA
theorem h2 : Bs n2 := reserveF_bs h1
theorem h3 : Bs n3 := syncF_bs h2
theorem h4 : Bs n4 := takeF_bs h3
theorem ht : Bs nt := crashF_bs h1
theorem h0 : Bs n0 := openF_bs ht
theorem hg : Bs ng := dropF_bs h4
theorem hF : ∀ k, Bs (nF k)
  | 0 => hA
  | k + 1 => createF_bs (hF k)
instance l32_nA : L32 nA := ⟨hA.m⟩
instance l32_n1 : L32 n1 := ⟨h1.m⟩
instance l32_n2 : L32 n2 := ⟨h2.m⟩
instance l32_n3 : L32 n3 := ⟨h3.m⟩
instance l32_n4 : L32 n4 := ⟨h4.m⟩
instance l32_nt : L32 nt := ⟨ht.m⟩
instance l32_n0 : L32 n0 := ⟨h0.m⟩
instance l32_ng : L32 ng := ⟨hg.m⟩
instance l32_nF {k : Nat} : L32 (nF k) := ⟨(hF k).m⟩
theorem gx {F : St × Int} {t : St} {e : Int} (hF : F = (t, e)) {k : FuncId} {args : Array Value} {w : World} (h : Calls Try.prog k args w (GivesP w (fun x : V3 => F.1.sv x) (fun x => .tuple #[stV F.1 x, .int .i64 F.2]) (fun x => [dRow x.1 F.1.dk, dRow x.2.1 F.1.pd, kRow x.2.2 F.1.ks]) (fun _ => []))) :
    Calls Try.prog k args w (GivesP w (fun x : V3 => t.sv x) (fun x => .tuple #[stV t x, .int .i64 e]) (fun x => [dRow x.1 t.dk, dRow x.2.1 t.pd, kRow x.2.2 t.ks]) (fun _ => [])) := by subst hF; exact h
theorem gx3 {F : Int × St × Int} {q : Int} {t : St} {e : Int} (hF : F = (q, t, e)) {k : FuncId} {args : Array Value} {w : World} (h : Calls Try.prog k args w (GivesP w (fun x : V3 => F.2.1.sv x) (fun x => .tuple #[.int .i64 F.1, stV F.2.1 x, .int .i64 F.2.2]) (fun x => [dRow x.1 F.2.1.dk, dRow x.2.1 F.2.1.pd, kRow x.2.2 F.2.1.ks]) (fun _ => []))) :
    Calls Try.prog k args w (GivesP w (fun x : V3 => t.sv x) (fun x => .tuple #[.int .i64 q, stV t x, .int .i64 e]) (fun x => [dRow x.1 t.dk, dRow x.2.1 t.pd, kRow x.2.2 t.ks]) (fun _ => [])) := by subst hF; exact h
theorem gxo {F : St × Int} {t : St} {e : Int} {pv : Value} (hF : F = (t, e)) {k : FuncId} {args : Array Value} {w : World} (hp : SV pv t.pd.length) (h : Calls Try.prog k args w (GivesP w (fun x : Value × Value => SV x.1 F.1.dk.length ∧ SV x.2 F.1.ks.length) (fun x => .tuple #[.agg (F.1.c x.1 pv x.2).toArray, .int .i64 F.2]) (fun x => [dRow x.1 F.1.dk, kRow x.2 F.1.ks]) (fun _ => []))) :
    Calls Try.prog k args w (GivesP w (fun x : V3 => t.sv x) (fun x => .tuple #[stV t x, .int .i64 e]) (fun x => [dRow x.1 t.dk, kRow x.2.2 t.ks]) (fun _ => [])) := by
  subst hF
  refine h.mono ?_
  rintro en w' ⟨x, hx, rfl, hb, hn⟩
  exact ⟨(x.1, pv, x.2), ⟨hx.1, hp, hx.2⟩, rfl, hb, hn⟩
theorem pl_301 : playF zH 1 (List.replicate 301 Stp.z) = ([], St.z, 4) := pl2 rfl (by rw [List.length_replicate]; decide)
def l4 : List Stp := [⟨0, 0, 0⟩, ⟨8, 0, 0⟩, ⟨6, 0, 0⟩, ⟨7, 0, 0⟩]
def r4 : List (Int × Int) := [(0, 2), (0, 2), (0, 32), (0, 6)]
def z1 : St := ⟨zH, 1, true, [], [], []⟩
instance l32_z1 : L32 z1 := ⟨rfl⟩
theorem pl_4 : playF zH 1 l4 = (r4, z1, 0) := by kernel_rfl
theorem seen_301 {r : Rd} {v : Value} (h : Seen r v 301 3 (scs (List.replicate 301 Stp.z))) : Seen r v (List.replicate 301 Stp.z).length 3 (scs (List.replicate 301 Stp.z)) := by rw [List.length_replicate]; exact h
theorem mk_301 : (List.replicate 301 (Value.agg Stp.z.c.toArray).cells.toList).flatten = scs (List.replicate 301 Stp.z) := by rw [scs, List.map_replicate]; rfl

set_option maxRecDepth 100000 in
theorem lawNames  (w : World)   :
    Calls Try.prog 5 [].toArray w (Pur w (.bool true)) := by
  refine enter (m := 362) (R := Mem w [] [] []) Try.func5 rfl rfl (Nat.le_of_ble_eq_true rfl) (Mem.start w) ?_
  refine wpc_seq ?_
  refine wpc_region ?_
  refine wpl_q (q_pure rfl) rfl ?_
  refine wpl_nil ?_
  refine ex_then ?_
  refine wpc_seq ?_
  refine wpc_region ?_
  refine wpl_q (q_build (cs := v8s zH) rfl (built_array Try.underlying23 Try.ti23 Try.ti5 rfl)) rfl ?_
  refine wpl_t (t_pur Try.hb27 rfl fun w h => new_ zH 0 w rfl) rfl (fun b66 => ?_)
  refine wpl_q (q_pure rfl) rfl ?_
  refine wpl_q (q_pure rfl) rfl ?_
  refine wpl_q (q_pure rfl) rfl ?_
  refine wpl_t (t_alloc Try.ti27 (St.z.c nl nl nl) rfl) rfl (fun b1 => ?_)
  refine wpl_t0 (t_stA Try.ti27 rfl rfl LenC.h OneC.h LenC.h) (fun _ => ?_)
  refine wpl_q (q_pure rfl) rfl ?_
  refine wpl_mono (R' := Mem w [] [] []) (fun w h => h.sel) ?_
  refine wpl_nil ?_
  refine ex_then ?_
  refine wpc_seq ?_
  refine wpc_region ?_
  refine wpl_q (q_build (cs := v8s zH) rfl (built_array Try.underlying23 Try.ti23 Try.ti5 rfl)) rfl ?_
  refine wpl_t (t_pur Try.hb27 rfl fun w h => new_ zH 17 w rfl) rfl (fun b71 => ?_)
  refine wpl_q (q_pure rfl) rfl ?_
  refine wpl_q (q_pure rfl) rfl ?_
  refine wpl_q (q_pure rfl) rfl ?_
  refine wpl_t (t_alloc Try.ti27 (St.z.c nl nl nl) rfl) rfl (fun b3 => ?_)
  refine wpl_t0 (t_stA Try.ti27 rfl rfl LenC.h OneC.h LenC.h) (fun _ => ?_)
  refine wpl_q (q_pure rfl) rfl ?_
  refine wpl_mono (R' := Mem w [] [] []) (fun w h => h.sel) ?_
  refine wpl_nil ?_
  refine ex_then ?_
  refine wpc_seq ?_
  refine wpc_region ?_
  refine wpl_q (q_build (cs := v8s zH) rfl (built_array Try.underlying23 Try.ti23 Try.ti5 rfl)) rfl ?_
  refine wpl_t (t_pur (v := .tuple #[.agg (nA.c nl nl nl).toArray, .int .i64 0]) Try.hb27 rfl fun w h => new_ zH 16 w rfl) rfl (fun b76 => ?_)
  refine wpl_q (q_pure rfl) rfl ?_
  refine wpl_q (q_pure rfl) rfl ?_
  refine wpl_q (q_pure rfl) rfl ?_
  refine wpl_t (t_alloc Try.ti27 (St.z.c nl nl nl) rfl) rfl (fun b5 => ?_)
  refine wpl_t0 (t_stA Try.ti27 rfl rfl LenC.h OneC.h LenC.h) (fun _ => ?_)
  refine wpl_q (q_pure rfl) rfl ?_
  refine wpl_mono (R' := Mem w [] [.blk b5 27 (nA.c nl nl nl)] []) (fun w h => h.sel) ?_
  refine wpl_nil ?_
  refine ex_then ?_
  refine wpc_seq ?_
  refine wpc_region ?_
  refine wpl_q (q_build (cs := St.z.c nl nl nl) rfl built_st0) rfl ?_
  refine wpl_tp (t_callP3 Try.hb21 rfl fun w h => gx (show createF St.z 1 9 = (St.z, 8) by kernel_rfl) (create St.z nl nl nl 1 9 w ⟨rfl, seenN rfl, seenN rfl, seenNk rfl, by decide, by decide, by decide⟩)) rfl (fun b81 p81 => ?_)
  haveI := OneC.sv p81
  refine wpl_q (q_pure rfl) rfl ?_
  refine wpl_q (q_pure rfl) rfl ?_
  refine wpl_q (q_pure rfl) rfl ?_
  refine wpl_t (t_alloc Try.ti27 (St.z.c nl nl nl) rfl) rfl (fun b7 => ?_)
  refine wpl_t0 (t_stA Try.ti27 rfl rfl LenC.h OneC.h LenC.h) (fun _ => ?_)
  refine wpl_q (q_pure rfl) rfl ?_
  refine wpl_mono (R' := Mem w [] [.blk b5 27 (nA.c nl nl nl)] []) (fun w h => h.sel) ?_
  refine wpl_nil ?_
  refine ex_then ?_
  refine wpc_seq ?_
  refine wpc_region ?_
  refine wpl_q (q_ldN Try.underlying27 rfl Try.ti27 rfl LenC.h) rfl ?_
  refine wpl_tp (t_callP3 Try.hb21 rfl fun w h => gx (show createF nA 1 5 = (St.z, 2) by kernel_rfl) (create nA nl nl nl 1 5 w ⟨(hA).m, seenN rfl, seenN rfl, seenNk rfl, by have := (hA).d; omega, by have := (hA).p; omega, by have := (hA).k; omega⟩)) rfl (fun b86 p86 => ?_)
  haveI := OneC.sv p86
  refine wpl_q (q_pure rfl) rfl ?_
  refine wpl_q (q_pure rfl) rfl ?_
  refine wpl_q (q_pure rfl) rfl ?_
  refine wpl_t (t_alloc Try.ti27 (St.z.c nl nl nl) rfl) rfl (fun b9 => ?_)
  refine wpl_t0 (t_stA Try.ti27 rfl rfl LenC.h OneC.h LenC.h) (fun _ => ?_)
  refine wpl_q (q_pure rfl) rfl ?_
  refine wpl_mono (R' := Mem w [] [.blk b5 27 (nA.c nl nl nl)] []) (fun w h => h.sel) ?_
  refine wpl_nil ?_
  refine ex_then ?_
  refine wpc_seq ?_
  refine wpc_region ?_
  refine wpl_q (q_ldN Try.underlying27 rfl Try.ti27 rfl LenC.h) rfl ?_
  refine wpl_tp (t_callP3 Try.hb21 rfl fun w h => gx (show createF nA 1 (-1) = (St.z, 2) by kernel_rfl) (create nA nl nl nl 1 (-1) w ⟨(hA).m, seenN rfl, seenN rfl, seenNk rfl, by have := (hA).d; omega, by have := (hA).p; omega, by have := (hA).k; omega⟩)) rfl (fun b91 p91 => ?_)
  haveI := OneC.sv p91
  refine wpl_q (q_pure rfl) rfl ?_
  refine wpl_q (q_pure rfl) rfl ?_
  refine wpl_q (q_pure rfl) rfl ?_
  refine wpl_t (t_alloc Try.ti27 (St.z.c nl nl nl) rfl) rfl (fun b11 => ?_)
  refine wpl_t0 (t_stA Try.ti27 rfl rfl LenC.h OneC.h LenC.h) (fun _ => ?_)
  refine wpl_q (q_pure rfl) rfl ?_
  refine wpl_mono (R' := Mem w [] [.blk b5 27 (nA.c nl nl nl)] []) (fun w h => h.sel) ?_
  refine wpl_nil ?_
  refine ex_then ?_
  refine wpc_seq ?_
  refine wpc_region ?_
  refine wpl_q (q_ldN Try.underlying27 rfl Try.ti27 rfl LenC.h) rfl ?_
  refine wpl_tp (t_callP3 Try.hb21 rfl fun w h => gx (show createF nA 1 0 = (n1, 0) by kernel_rfl) (create nA nl nl nl 1 0 w ⟨(hA).m, seenN rfl, seenN rfl, seenNk rfl, by have := (hA).d; omega, by have := (hA).p; omega, by have := (hA).k; omega⟩)) rfl (fun b96 p96 => ?_)
  haveI := OneC.sv p96
  refine wpl_q (q_pure rfl) rfl ?_
  refine wpl_q (q_pure rfl) rfl ?_
  refine wpl_q (q_pure rfl) rfl ?_
  refine wpl_t (t_alloc Try.ti27 (St.z.c nl nl nl) rfl) rfl (fun b13 => ?_)
  refine wpl_t0 (t_stA Try.ti27 rfl rfl LenC.h OneC.h LenC.h) (fun _ => ?_)
  refine wpl_q (q_pure rfl) rfl ?_
  refine wpl_mono (R' := Mem w [] [.blk b13 27 (n1.c b96.1 b96.2.1 b96.2.2), dRow b96.1 n1.dk, dRow b96.2.1 n1.pd, kRow b96.2.2 n1.ks, .blk b5 27 (nA.c nl nl nl)] []) (fun w h => h.sel) ?_
  refine wpl_nil ?_
  refine ex_then ?_
  refine wpc_seq ?_
  refine wpc_region ?_
  refine wpl_q (q_ldN Try.underlying27 rfl Try.ti27 rfl LenC.h) rfl ?_
  refine wpl_tp (t_callP3 Try.hb21 rfl fun w h => gx (show createF n1 1 0 = (St.z, 14) by kernel_rfl) (create n1 b96.1 b96.2.1 b96.2.2 1 0 w ⟨(h1).m, h.seenV, h.seenV, h.seenV, by have := (h1).d; omega, by have := (h1).p; omega, by have := (h1).k; omega⟩)) rfl (fun b101 p101 => ?_)
  haveI := OneC.sv p101
  refine wpl_q (q_pure rfl) rfl ?_
  refine wpl_q (q_pure rfl) rfl ?_
  refine wpl_q (q_pure rfl) rfl ?_
  refine wpl_t (t_alloc Try.ti27 (St.z.c nl nl nl) rfl) rfl (fun b15 => ?_)
  refine wpl_t0 (t_stA Try.ti27 rfl rfl LenC.h OneC.h LenC.h) (fun _ => ?_)
  refine wpl_q (q_pure rfl) rfl ?_
  refine wpl_mono (R' := Mem w [] [.blk b13 27 (n1.c b96.1 b96.2.1 b96.2.2), dRow b96.1 n1.dk, dRow b96.2.1 n1.pd, kRow b96.2.2 n1.ks, .blk b5 27 (nA.c nl nl nl)] []) (fun w h => h.sel) ?_
  refine wpl_nil ?_
  refine ex_then ?_
  refine wpc_seq ?_
  refine wpc_region ?_
  refine wpl_q (q_ldN Try.underlying27 rfl Try.ti27 rfl LenC.h) rfl ?_
  refine wpl_tp (t_callP3 Try.hb23 rfl fun w h => gx (show reserveF nA 1 = (St.z, 6) by kernel_rfl) (reserve nA nl nl nl 1 w ⟨(hA).m, seenN rfl, seenN rfl, seenNk rfl, by have := (hA).d; omega, by have := (hA).p; omega, by have := (hA).k; omega⟩)) rfl (fun b106 p106 => ?_)
  haveI := OneC.sv p106
  refine wpl_q (q_pure rfl) rfl ?_
  refine wpl_q (q_pure rfl) rfl ?_
  refine wpl_q (q_pure rfl) rfl ?_
  refine wpl_t (t_alloc Try.ti27 (St.z.c nl nl nl) rfl) rfl (fun b17 => ?_)
  refine wpl_t0 (t_stA Try.ti27 rfl rfl LenC.h OneC.h LenC.h) (fun _ => ?_)
  refine wpl_q (q_pure rfl) rfl ?_
  refine wpl_mono (R' := Mem w [] [.blk b13 27 (n1.c b96.1 b96.2.1 b96.2.2), dRow b96.1 n1.dk, dRow b96.2.1 n1.pd, kRow b96.2.2 n1.ks, .blk b5 27 (nA.c nl nl nl)] []) (fun w h => h.sel) ?_
  refine wpl_nil ?_
  refine ex_then ?_
  refine wpc_seq ?_
  refine wpc_region ?_
  refine wpl_q (q_ldN Try.underlying27 rfl Try.ti27 rfl LenC.h) rfl ?_
  refine wpl_tp (t_callP3 Try.hb17 rfl fun w h => gx3 (show takeF n1 1 = (0, St.z, 32) by kernel_rfl) (take_ n1 b96.1 b96.2.1 b96.2.2 1 w ⟨(h1).m, h.seenV, h.seenV, h.seenV, by have := (h1).d; omega, by have := (h1).p; omega, by have := (h1).k; omega⟩)) rfl (fun b111 p111 => ?_)
  haveI := OneC.sv p111
  refine wpl_q (q_pure rfl) rfl ?_
  refine wpl_q (q_pure rfl) rfl ?_
  refine wpl_q (q_pure rfl) rfl ?_
  refine wpl_q (q_pure rfl) rfl ?_
  refine wpl_t (t_alloc Try.ti27 (St.z.c nl nl nl) rfl) rfl (fun b20 => ?_)
  refine wpl_q (q_pure rfl) rfl ?_
  refine wpl_t0 (t_stA Try.ti27 rfl rfl LenC.h OneC.h LenC.h) (fun _ => ?_)
  refine wpl_q (q_pure rfl) rfl ?_
  refine wpl_mono (R' := Mem w [] [.blk b13 27 (n1.c b96.1 b96.2.1 b96.2.2), dRow b96.1 n1.dk, dRow b96.2.1 n1.pd, kRow b96.2.2 n1.ks, .blk b5 27 (nA.c nl nl nl)] []) (fun w h => h.sel) ?_
  refine wpl_nil ?_
  refine ex_then ?_
  refine wpc_seq ?_
  refine wpc_region ?_
  refine wpl_q (q_ldN Try.underlying27 rfl Try.ti27 rfl LenC.h) rfl ?_
  refine wpl_tp (t_callP3 Try.hb23 rfl fun w h => gx (show reserveF n1 1 = (n2, 0) by kernel_rfl) (reserve n1 b96.1 b96.2.1 b96.2.2 1 w ⟨(h1).m, h.seenV, h.seenV, h.seenV, by have := (h1).d; omega, by have := (h1).p; omega, by have := (h1).k; omega⟩)) rfl (fun b117 p117 => ?_)
  haveI := OneC.sv p117
  refine wpl_q (q_pure rfl) rfl ?_
  refine wpl_q (q_pure rfl) rfl ?_
  refine wpl_q (q_pure rfl) rfl ?_
  refine wpl_t (t_alloc Try.ti27 (St.z.c nl nl nl) rfl) rfl (fun b22 => ?_)
  refine wpl_t0 (t_stA Try.ti27 rfl rfl LenC.h OneC.h LenC.h) (fun _ => ?_)
  refine wpl_q (q_pure rfl) rfl ?_
  refine wpl_mono (R' := Mem w [] [.blk b22 27 (n2.c b117.1 b117.2.1 b117.2.2), dRow b117.1 n2.dk, dRow b117.2.1 n2.pd, kRow b117.2.2 n2.ks, .blk b13 27 (n1.c b96.1 b96.2.1 b96.2.2), dRow b96.1 n1.dk, dRow b96.2.1 n1.pd, kRow b96.2.2 n1.ks, .blk b5 27 (nA.c nl nl nl)] []) (fun w h => h.sel) ?_
  refine wpl_nil ?_
  refine ex_then ?_
  refine wpc_seq ?_
  refine wpc_region ?_
  refine wpl_q (q_ldN Try.underlying27 rfl Try.ti27 rfl LenC.h) rfl ?_
  refine wpl_tp (t_callP3 Try.hb23 rfl fun w h => gx (show reserveF n2 1 = (St.z, 36) by kernel_rfl) (reserve n2 b117.1 b117.2.1 b117.2.2 1 w ⟨(h2).m, h.seenV, h.seenV, h.seenV, by have := (h2).d; omega, by have := (h2).p; omega, by have := (h2).k; omega⟩)) rfl (fun b122 p122 => ?_)
  haveI := OneC.sv p122
  refine wpl_q (q_pure rfl) rfl ?_
  refine wpl_q (q_pure rfl) rfl ?_
  refine wpl_q (q_pure rfl) rfl ?_
  refine wpl_t (t_alloc Try.ti27 (St.z.c nl nl nl) rfl) rfl (fun b24 => ?_)
  refine wpl_t0 (t_stA Try.ti27 rfl rfl LenC.h OneC.h LenC.h) (fun _ => ?_)
  refine wpl_q (q_pure rfl) rfl ?_
  refine wpl_mono (R' := Mem w [] [.blk b22 27 (n2.c b117.1 b117.2.1 b117.2.2), dRow b117.1 n2.dk, dRow b117.2.1 n2.pd, kRow b117.2.2 n2.ks, .blk b13 27 (n1.c b96.1 b96.2.1 b96.2.2), dRow b96.1 n1.dk, dRow b96.2.1 n1.pd, kRow b96.2.2 n1.ks, .blk b5 27 (nA.c nl nl nl)] []) (fun w h => h.sel) ?_
  refine wpl_nil ?_
  refine ex_then ?_
  refine wpc_seq ?_
  refine wpc_region ?_
  refine wpl_q (q_ldN Try.underlying27 rfl Try.ti27 rfl LenC.h) rfl ?_
  refine wpl_tp (t_callP3 Try.hb17 rfl fun w h => gx3 (show takeF n2 1 = (0, St.z, 32) by kernel_rfl) (take_ n2 b117.1 b117.2.1 b117.2.2 1 w ⟨(h2).m, h.seenV, h.seenV, h.seenV, by have := (h2).d; omega, by have := (h2).p; omega, by have := (h2).k; omega⟩)) rfl (fun b127 p127 => ?_)
  haveI := OneC.sv p127
  refine wpl_q (q_pure rfl) rfl ?_
  refine wpl_q (q_pure rfl) rfl ?_
  refine wpl_q (q_pure rfl) rfl ?_
  refine wpl_q (q_pure rfl) rfl ?_
  refine wpl_t (t_alloc Try.ti27 (St.z.c nl nl nl) rfl) rfl (fun b27 => ?_)
  refine wpl_q (q_pure rfl) rfl ?_
  refine wpl_t0 (t_stA Try.ti27 rfl rfl LenC.h OneC.h LenC.h) (fun _ => ?_)
  refine wpl_q (q_pure rfl) rfl ?_
  refine wpl_mono (R' := Mem w [] [.blk b22 27 (n2.c b117.1 b117.2.1 b117.2.2), dRow b117.1 n2.dk, dRow b117.2.1 n2.pd, kRow b117.2.2 n2.ks, .blk b13 27 (n1.c b96.1 b96.2.1 b96.2.2), dRow b96.1 n1.dk, dRow b96.2.1 n1.pd, kRow b96.2.2 n1.ks, .blk b5 27 (nA.c nl nl nl)] []) (fun w h => h.sel) ?_
  refine wpl_nil ?_
  refine ex_then ?_
  refine wpc_seq ?_
  refine wpc_region ?_
  refine wpl_q (q_ldN Try.underlying27 rfl Try.ti27 rfl LenC.h) rfl ?_
  refine wpl_tp (t_callP3 Try.hb11 rfl fun w h => gx (show syncF n2  = (n3, 0) by kernel_rfl) (sync n2 b117.1 b117.2.1 b117.2.2  w ⟨(h2).m, h.seenV, h.seenV, h.seenV, by have := (h2).d; omega, by have := (h2).p; omega, by have := (h2).k; omega⟩)) rfl (fun b133 p133 => ?_)
  haveI := OneC.sv p133
  refine wpl_q (q_pure rfl) rfl ?_
  refine wpl_q (q_pure rfl) rfl ?_
  refine wpl_q (q_pure rfl) rfl ?_
  refine wpl_t (t_alloc Try.ti27 (St.z.c nl nl nl) rfl) rfl (fun b29 => ?_)
  refine wpl_t0 (t_stA Try.ti27 rfl rfl LenC.h OneC.h LenC.h) (fun _ => ?_)
  refine wpl_q (q_pure rfl) rfl ?_
  refine wpl_mono (R' := Mem w [] [.blk b29 27 (n3.c b133.1 b133.2.1 b133.2.2), dRow b133.1 n3.dk, dRow b133.2.1 n3.pd, kRow b133.2.2 n3.ks, .blk b13 27 (n1.c b96.1 b96.2.1 b96.2.2), dRow b96.1 n1.dk, dRow b96.2.1 n1.pd, kRow b96.2.2 n1.ks, .blk b5 27 (nA.c nl nl nl)] []) (fun w h => h.sel) ?_
  refine wpl_nil ?_
  refine ex_then ?_
  refine wpc_seq ?_
  refine wpc_region ?_
  refine wpl_q (q_ldN Try.underlying27 rfl Try.ti27 rfl LenC.h) rfl ?_
  refine wpl_tp (t_callP3 Try.hb17 rfl fun w h => gx3 (show takeF n3 1 = (0, n4, 0) by kernel_rfl) (take_ n3 b133.1 b133.2.1 b133.2.2 1 w ⟨(h3).m, h.seenV, h.seenV, h.seenV, by have := (h3).d; omega, by have := (h3).p; omega, by have := (h3).k; omega⟩)) rfl (fun b138 p138 => ?_)
  haveI := OneC.sv p138
  refine wpl_q (q_pure rfl) rfl ?_
  refine wpl_q (q_pure rfl) rfl ?_
  refine wpl_q (q_pure rfl) rfl ?_
  refine wpl_q (q_pure rfl) rfl ?_
  refine wpl_t (t_alloc Try.ti27 (St.z.c nl nl nl) rfl) rfl (fun b32 => ?_)
  refine wpl_q (q_pure rfl) rfl ?_
  refine wpl_t0 (t_stA Try.ti27 rfl rfl LenC.h OneC.h LenC.h) (fun _ => ?_)
  refine wpl_q (q_pure rfl) rfl ?_
  refine wpl_mono (R' := Mem w [] [.blk b32 27 (n4.c b138.1 b138.2.1 b138.2.2), dRow b138.1 n4.dk, dRow b138.2.1 n4.pd, kRow b138.2.2 n4.ks, .blk b13 27 (n1.c b96.1 b96.2.1 b96.2.2), dRow b96.1 n1.dk, dRow b96.2.1 n1.pd, kRow b96.2.2 n1.ks, .blk b5 27 (nA.c nl nl nl)] []) (fun w h => h.sel) ?_
  refine wpl_nil ?_
  refine ex_then ?_
  refine wpc_seq ?_
  refine wpc_region ?_
  refine wpl_q (q_ldN Try.underlying27 rfl Try.ti27 rfl LenC.h) rfl ?_
  refine wpl_tp (t_callP3 Try.hb17 rfl fun w h => gx3 (show takeF n4 1 = (0, St.z, 36) by kernel_rfl) (take_ n4 b138.1 b138.2.1 b138.2.2 1 w ⟨(h4).m, h.seenV, h.seenV, h.seenV, by have := (h4).d; omega, by have := (h4).p; omega, by have := (h4).k; omega⟩)) rfl (fun b144 p144 => ?_)
  haveI := OneC.sv p144
  refine wpl_q (q_pure rfl) rfl ?_
  refine wpl_q (q_pure rfl) rfl ?_
  refine wpl_q (q_pure rfl) rfl ?_
  refine wpl_q (q_pure rfl) rfl ?_
  refine wpl_t (t_alloc Try.ti27 (St.z.c nl nl nl) rfl) rfl (fun b35 => ?_)
  refine wpl_q (q_pure rfl) rfl ?_
  refine wpl_t0 (t_stA Try.ti27 rfl rfl LenC.h OneC.h LenC.h) (fun _ => ?_)
  refine wpl_q (q_pure rfl) rfl ?_
  refine wpl_mono (R' := Mem w [] [.blk b32 27 (n4.c b138.1 b138.2.1 b138.2.2), dRow b138.1 n4.dk, dRow b138.2.1 n4.pd, kRow b138.2.2 n4.ks, .blk b13 27 (n1.c b96.1 b96.2.1 b96.2.2), dRow b96.1 n1.dk, dRow b96.2.1 n1.pd, kRow b96.2.2 n1.ks, .blk b5 27 (nA.c nl nl nl)] []) (fun w h => h.sel) ?_
  refine wpl_nil ?_
  refine ex_then ?_
  refine wpc_seq ?_
  refine wpc_region ?_
  refine wpl_q (q_ldN Try.underlying27 rfl Try.ti27 rfl LenC.h) rfl ?_
  refine wpl_tp (t_callP3 Try.hb13 rfl fun w h => gx (show crashF n1 11 = (St.z, 2) by kernel_rfl) (crash n1 b96.1 b96.2.1 b96.2.2 11 w ⟨(h1).m, h.seenV, h.seenV, h.seenV, by have := (h1).d; omega, by have := (h1).p; omega, by have := (h1).k; omega⟩)) rfl (fun b150 p150 => ?_)
  haveI := OneC.sv p150
  refine wpl_q (q_pure rfl) rfl ?_
  refine wpl_q (q_pure rfl) rfl ?_
  refine wpl_q (q_pure rfl) rfl ?_
  refine wpl_t (t_alloc Try.ti27 (St.z.c nl nl nl) rfl) rfl (fun b37 => ?_)
  refine wpl_t0 (t_stA Try.ti27 rfl rfl LenC.h OneC.h LenC.h) (fun _ => ?_)
  refine wpl_q (q_pure rfl) rfl ?_
  refine wpl_mono (R' := Mem w [] [.blk b32 27 (n4.c b138.1 b138.2.1 b138.2.2), dRow b138.1 n4.dk, dRow b138.2.1 n4.pd, kRow b138.2.2 n4.ks, .blk b13 27 (n1.c b96.1 b96.2.1 b96.2.2), dRow b96.1 n1.dk, dRow b96.2.1 n1.pd, kRow b96.2.2 n1.ks, .blk b5 27 (nA.c nl nl nl)] []) (fun w h => h.sel) ?_
  refine wpl_nil ?_
  refine ex_then ?_
  refine wpc_seq ?_
  refine wpc_region ?_
  refine wpl_q (q_ldN Try.underlying27 rfl Try.ti27 rfl LenC.h) rfl ?_
  refine wpl_tp (t_callP3 Try.hb13 rfl fun w h => gx (show crashF n1 9 = (nt, 0) by kernel_rfl) (crash n1 b96.1 b96.2.1 b96.2.2 9 w ⟨(h1).m, h.seenV, h.seenV, h.seenV, by have := (h1).d; omega, by have := (h1).p; omega, by have := (h1).k; omega⟩)) rfl (fun b155 p155 => ?_)
  haveI := OneC.sv p155
  refine wpl_q (q_pure rfl) rfl ?_
  refine wpl_q (q_pure rfl) rfl ?_
  refine wpl_q (q_pure rfl) rfl ?_
  refine wpl_t (t_alloc Try.ti27 (St.z.c nl nl nl) rfl) rfl (fun b39 => ?_)
  refine wpl_t0 (t_stA Try.ti27 rfl rfl LenC.h OneC.h LenC.h) (fun _ => ?_)
  refine wpl_q (q_pure rfl) rfl ?_
  refine wpl_mono (R' := Mem w [] [.blk b39 27 (nt.c b155.1 b155.2.1 b155.2.2), dRow b155.1 nt.dk, dRow b155.2.1 nt.pd, kRow b155.2.2 nt.ks, .blk b32 27 (n4.c b138.1 b138.2.1 b138.2.2), dRow b138.1 n4.dk, dRow b138.2.1 n4.pd, kRow b138.2.2 n4.ks, .blk b13 27 (n1.c b96.1 b96.2.1 b96.2.2), dRow b96.1 n1.dk, dRow b96.2.1 n1.pd, kRow b96.2.2 n1.ks, .blk b5 27 (nA.c nl nl nl)] []) (fun w h => h.sel) ?_
  refine wpl_nil ?_
  refine ex_then ?_
  refine wpc_seq ?_
  refine wpc_region ?_
  refine wpl_q (q_ldN Try.underlying27 rfl Try.ti27 rfl LenC.h) rfl ?_
  refine wpl_tp (t_callP3 Try.hb13 rfl fun w h => gx (show crashF nt 0 = (St.z, 32) by kernel_rfl) (crash nt b155.1 b155.2.1 b155.2.2 0 w ⟨(ht).m, h.seenV, h.seenV, h.seenV, by have := (ht).d; omega, by have := (ht).p; omega, by have := (ht).k; omega⟩)) rfl (fun b160 p160 => ?_)
  haveI := OneC.sv p160
  refine wpl_q (q_pure rfl) rfl ?_
  refine wpl_q (q_pure rfl) rfl ?_
  refine wpl_q (q_pure rfl) rfl ?_
  refine wpl_t (t_alloc Try.ti27 (St.z.c nl nl nl) rfl) rfl (fun b41 => ?_)
  refine wpl_t0 (t_stA Try.ti27 rfl rfl LenC.h OneC.h LenC.h) (fun _ => ?_)
  refine wpl_q (q_pure rfl) rfl ?_
  refine wpl_mono (R' := Mem w [] [.blk b39 27 (nt.c b155.1 b155.2.1 b155.2.2), dRow b155.1 nt.dk, dRow b155.2.1 nt.pd, kRow b155.2.2 nt.ks, .blk b32 27 (n4.c b138.1 b138.2.1 b138.2.2), dRow b138.1 n4.dk, dRow b138.2.1 n4.pd, kRow b138.2.2 n4.ks, .blk b13 27 (n1.c b96.1 b96.2.1 b96.2.2), dRow b96.1 n1.dk, dRow b96.2.1 n1.pd, kRow b96.2.2 n1.ks, .blk b5 27 (nA.c nl nl nl)] []) (fun w h => h.sel) ?_
  refine wpl_nil ?_
  refine ex_then ?_
  refine wpc_seq ?_
  refine wpc_region ?_
  refine wpl_q (q_ldN Try.underlying27 rfl Try.ti27 rfl LenC.h) rfl ?_
  refine wpl_tp (t_callP2 Try.hb15 rfl fun w h => gxo (show openF n1 = (St.z, 32) by kernel_rfl) (openP_sv p96.2.1) (open_ n1 b96.1 b96.2.1 b96.2.2 w ⟨(h1).m, h.seenV, h.seenV, h.seenV, by have := (h1).d; omega, by have := (h1).p; omega, by have := (h1).k; omega⟩)) rfl (fun b165 p165 => ?_)
  haveI := OneC.sv p165
  refine wpl_q (q_pure rfl) rfl ?_
  refine wpl_q (q_pure rfl) rfl ?_
  refine wpl_q (q_pure rfl) rfl ?_
  refine wpl_t (t_alloc Try.ti27 (St.z.c nl nl nl) rfl) rfl (fun b43 => ?_)
  refine wpl_t0 (t_stA Try.ti27 rfl rfl LenC.h OneC.h LenC.h) (fun _ => ?_)
  refine wpl_q (q_pure rfl) rfl ?_
  refine wpl_mono (R' := Mem w [] [.blk b39 27 (nt.c b155.1 b155.2.1 b155.2.2), dRow b155.1 nt.dk, dRow b155.2.1 nt.pd, kRow b155.2.2 nt.ks, .blk b32 27 (n4.c b138.1 b138.2.1 b138.2.2), dRow b138.1 n4.dk, dRow b138.2.1 n4.pd, kRow b138.2.2 n4.ks, .blk b5 27 (nA.c nl nl nl)] []) (fun w h => h.sel) ?_
  refine wpl_nil ?_
  refine ex_then ?_
  refine wpc_seq ?_
  refine wpc_region ?_
  refine wpl_q (q_ldN Try.underlying27 rfl Try.ti27 rfl LenC.h) rfl ?_
  refine wpl_tp (t_callP2 Try.hb15 rfl fun w h => gxo (show openF nt = (n0, 0) by kernel_rfl) (openP_sv p155.2.1) (open_ nt b155.1 b155.2.1 b155.2.2 w ⟨(ht).m, h.seenV, h.seenV, h.seenV, by have := (ht).d; omega, by have := (ht).p; omega, by have := (ht).k; omega⟩)) rfl (fun b170 p170 => ?_)
  haveI := OneC.sv p170
  have sd0 := p170.1
  have sk0 := p170.2.2
  refine wpl_q (q_pure rfl) rfl ?_
  refine wpl_q (q_pure rfl) rfl ?_
  refine wpl_q (q_pure rfl) rfl ?_
  refine wpl_t (t_alloc Try.ti27 (St.z.c nl nl nl) rfl) rfl (fun b45 => ?_)
  refine wpl_t0 (t_stA Try.ti27 rfl rfl LenC.h OneC.h LenC.h) (fun _ => ?_)
  refine wpl_q (q_pure rfl) rfl ?_
  refine wpl_mono (R' := Mem w [] [.blk b45 27 (n0.c b170.1 b170.2.1 b170.2.2), dRow b170.1 n0.dk, kRow b170.2.2 n0.ks, .blk b32 27 (n4.c b138.1 b138.2.1 b138.2.2), dRow b138.1 n4.dk, dRow b138.2.1 n4.pd, kRow b138.2.2 n4.ks, .blk b5 27 (nA.c nl nl nl)] []) (fun w h => h.sel) ?_
  refine wpl_nil ?_
  refine ex_then ?_
  refine wpc_seq ?_
  refine wpc_region ?_
  refine wpl_q (q_ldN Try.underlying27 rfl Try.ti27 rfl LenC.h) rfl ?_
  refine wpl_tp (t_callP3 Try.hb25 rfl fun w h => gx (show dropF n4 1 = (ng, 0) by kernel_rfl) (drop_ n4 b138.1 b138.2.1 b138.2.2 1 w ⟨(h4).m, h.seenV, h.seenV, h.seenV, by have := (h4).d; omega, by have := (h4).p; omega, by have := (h4).k; omega⟩)) rfl (fun b175 p175 => ?_)
  haveI := OneC.sv p175
  refine wpl_q (q_pure rfl) rfl ?_
  refine wpl_q (q_pure rfl) rfl ?_
  refine wpl_q (q_pure rfl) rfl ?_
  refine wpl_t (t_alloc Try.ti27 (St.z.c nl nl nl) rfl) rfl (fun b47 => ?_)
  refine wpl_t0 (t_stA Try.ti27 rfl rfl LenC.h OneC.h LenC.h) (fun _ => ?_)
  refine wpl_q (q_pure rfl) rfl ?_
  refine wpl_mono (R' := Mem w [] [.blk b47 27 (ng.c b175.1 b175.2.1 b175.2.2), dRow b175.1 ng.dk, dRow b175.2.1 ng.pd, kRow b175.2.2 ng.ks, .blk b45 27 (n0.c b170.1 b170.2.1 b170.2.2), dRow b170.1 n0.dk, kRow b170.2.2 n0.ks, .blk b5 27 (nA.c nl nl nl)] []) (fun w h => h.sel) ?_
  refine wpl_nil ?_
  refine ex_then ?_
  refine wpc_seq ?_
  refine wpc_region ?_
  refine wpl_q (q_ldN Try.underlying27 rfl Try.ti27 rfl LenC.h) rfl ?_
  refine wpl_tp (t_callP3 Try.hb25 rfl fun w h => gx (show dropF ng 1 = (St.z, 6) by kernel_rfl) (drop_ ng b175.1 b175.2.1 b175.2.2 1 w ⟨(hg).m, h.seenV, h.seenV, h.seenV, by have := (hg).d; omega, by have := (hg).p; omega, by have := (hg).k; omega⟩)) rfl (fun b180 p180 => ?_)
  haveI := OneC.sv p180
  refine wpl_q (q_pure rfl) rfl ?_
  refine wpl_q (q_pure rfl) rfl ?_
  refine wpl_q (q_pure rfl) rfl ?_
  refine wpl_t (t_alloc Try.ti27 (St.z.c nl nl nl) rfl) rfl (fun b49 => ?_)
  refine wpl_t0 (t_stA Try.ti27 rfl rfl LenC.h OneC.h LenC.h) (fun _ => ?_)
  refine wpl_q (q_pure rfl) rfl ?_
  refine wpl_mono (R' := Mem w [] [.blk b47 27 (ng.c b175.1 b175.2.1 b175.2.2), dRow b175.1 ng.dk, dRow b175.2.1 ng.pd, kRow b175.2.2 ng.ks, .blk b45 27 (n0.c b170.1 b170.2.1 b170.2.2), dRow b170.1 n0.dk, kRow b170.2.2 n0.ks, .blk b5 27 (nA.c nl nl nl)] []) (fun w h => h.sel) ?_
  refine wpl_nil ?_
  refine ex_then ?_
  refine wpc_seq ?_
  refine wpc_region ?_
  refine wpl_q (q_ldN Try.underlying27 rfl Try.ti27 rfl LenC.h) rfl ?_
  refine wpl_tp (t_callP3 Try.hb21 rfl fun w h => gx (show createF ng 1 0 = (St.z, 14) by kernel_rfl) (create ng b175.1 b175.2.1 b175.2.2 1 0 w ⟨(hg).m, h.seenV, h.seenV, h.seenV, by have := (hg).d; omega, by have := (hg).p; omega, by have := (hg).k; omega⟩)) rfl (fun b185 p185 => ?_)
  haveI := OneC.sv p185
  refine wpl_q (q_pure rfl) rfl ?_
  refine wpl_q (q_pure rfl) rfl ?_
  refine wpl_q (q_pure rfl) rfl ?_
  refine wpl_t (t_alloc Try.ti27 (St.z.c nl nl nl) rfl) rfl (fun b51 => ?_)
  refine wpl_t0 (t_stA Try.ti27 rfl rfl LenC.h OneC.h LenC.h) (fun _ => ?_)
  refine wpl_q (q_pure rfl) rfl ?_
  refine wpl_mono (R' := Mem w [] [.blk b45 27 (n0.c b170.1 b170.2.1 b170.2.2), dRow b170.1 n0.dk, kRow b170.2.2 n0.ks, .blk b5 27 (nA.c nl nl nl)] []) (fun w h => h.sel) ?_
  refine wpl_nil ?_
  refine ex_then ?_
  refine wpc_seq ?_
  refine wpc_region ?_
  refine wpl_q (q_build (cs := v8s zH) rfl (built_array Try.underlying23 Try.ti23 Try.ti5 rfl)) rfl ?_
  refine wpl_tp (t_mkW (l := 301) (c := 301) Try.underlying56 Try.ti58 rfl rfl (by first | omega | (simp only [maxLen]; omega) | (simp only [List.length_append, List.length_cons, List.length_nil, List.length_take, maxLen]; omega) | (simp only [List.length_append, List.length_cons, List.length_nil, List.length_take]; omega)) (by first | omega | (simp only [maxLen]; omega) | (simp only [List.length_append, List.length_cons, List.length_nil, List.length_take, maxLen]; omega) | (simp only [List.length_append, List.length_cons, List.length_nil, List.length_take]; omega)) (by first | omega | (simp only [maxLen]; omega) | (simp only [List.length_append, List.length_cons, List.length_nil, List.length_take, maxLen]; omega) | (simp only [List.length_append, List.length_cons, List.length_nil, List.length_take]; omega)) (scs (List.replicate 301 Stp.z)) rfl mk_301) rfl (fun b190 p190 => ?_)
  refine wpl_tp (t_callP4 Try.hb31 rfl fun w h => play_eq pl_301 b190 w rfl (seen_301 h.seenV)) rfl (fun b191 p191 => ?_)
  haveI := OneC.sv p191.2
  refine wpl_q (q_pure rfl) rfl ?_
  refine wpl_q (q_pure rfl) rfl ?_
  refine wpl_q (q_pure rfl) rfl ?_
  refine wpl_q (q_pure rfl) rfl ?_
  refine wpl_t (t_alloc Try.ti27 (St.z.c nl nl nl) rfl) rfl (fun b54 => ?_)
  refine wpl_q (q_pure rfl) rfl ?_
  refine wpl_t0 (t_stA Try.ti27 rfl rfl LenC.h OneC.h LenC.h) (fun _ => ?_)
  refine wpl_q (q_pure rfl) rfl ?_
  refine wpl_mono (R' := Mem w [] [.blk b45 27 (n0.c b170.1 b170.2.1 b170.2.2), dRow b170.1 n0.dk, kRow b170.2.2 n0.ks, .blk b5 27 (nA.c nl nl nl)] []) (fun w h => h.sel) ?_
  refine wpl_nil ?_
  refine ex_then ?_
  refine wpc_seq ?_
  refine wpc_region ?_
  refine wpl_q (q_ldN Try.underlying27 rfl Try.ti27 rfl LenC.h) rfl ?_
  refine wpl_t (t_alloc Try.ti27 (St.z.c nl nl nl) rfl) rfl (fun b56 => ?_)
  refine wpl_t0 (t_stA Try.ti27 rfl rfl LenC.h OneC.h LenC.h) (fun _ => ?_)
  refine wpl_nil ?_
  refine ex_then ?_
  refine wpc_seq ?_
  refine wpc_seq ?_
  refine wpc_region ?_
  refine wpl_q (q_pure rfl) rfl ?_
  first | refine wpl_re 57 rfl (congrArg (fun u : UInt32 => Value.int .u32 ((u.toNat : Nat) : Int)) (ofNat_succ32 (k + 2))) ?_ | skip
  refine wpl_nil ?_
  refine ex_then ?_
  refine wpc_block ?_
  refine wpc_loopc (ι := { x : Nat × V3 // (x.1 ≤ 8) ∧ ((nF x.1).sv x.2) }) [(2, _), (4, _), (6, _), (8, _), (10, _), (12, _), (14, _), (16, _), (18, _), (21, _), (23, _), (25, _), (28, _), (30, _), (31, _), (33, _), (36, _), (38, _), (40, _), (42, _), (44, _), (45, _), (46, _), (48, _), (50, _), (52, _), (55, _), (56, _)] (fun x Lc => (57, .int .u32 (((UInt32.ofNat (x.1.1 + 2)).toNat : Nat) : Int)) :: Lc) (fun x => Mem w [] [.blk b56 27 ((nF x.1.1).c x.1.2.1 x.1.2.2.1 x.1.2.2.2), dRow x.1.2.1 (nF x.1.1).dk, dRow x.1.2.2.1 (nF x.1.1).pd, kRow x.1.2.2.2 (nF x.1.1).ks, .blk b45 27 (n0.c b170.1 b170.2.1 b170.2.2), dRow b170.1 n0.dk, kRow b170.2.2 n0.ks] []) (fun x => 8 - x.1.1) ⟨(0, (nl, nl, nl)), ⟨Nat.zero_le _, ⟨SV.nil, SV.nil, SV.nil⟩⟩⟩ (by repeat (first | exact trivial | refine ⟨rfl, ?_⟩)) ?_ ?_
  ·
   exact fun w h => by
     have h3 : Mem _ _ [dRow nl nA.dk, dRow nl nA.pd, kRow nl nA.ks, .blk b56 27 (nA.c nl nl nl), .blk b45 27 (n0.c b170.1 b170.2.1 b170.2.2), dRow b170.1 n0.dk, kRow b170.2.2 n0.ks, .blk b5 27 (nA.c nl nl nl)] [] w := (((h.nilRow 66 6).nilRow 5 1).nilRow 5 1)
     have h4 : Mem _ _ [.blk b56 27 (nA.c nl nl nl), dRow nl nA.dk, dRow nl nA.pd, kRow nl nA.ks, .blk b45 27 (n0.c b170.1 b170.2.1 b170.2.2), dRow b170.1 n0.dk, kRow b170.2.2 n0.ks] [] w := h3.sel
     exact h4
  ·
   rintro ⟨⟨k, y⟩, ⟨hi0, hi1⟩⟩; try dsimp only
   have hi0 : k ≤ 8 := hi0; have hi1 : (nF k).sv y := hi1
   haveI := OneC.sv hi1
   have e3 := ofNat_lt (k := k + 2) (by omega)
   refine wpc_seq ?_
   refine wpc_seq ?_
   refine wpc_region ?_
   refine wpl_q (q_pure rfl) rfl ?_
   refine wpl_q (q_pure rfl) rfl ?_
   refine wpl_nil ?_
   refine ex_then ?_
   refine wpc_cond rfl (fun hc197 => ?_) (fun hc197 => ?_)
   ·
    have hk : k < 8 := by rw [e3] at hc197; simp only [decide_eq_true_eq] at hc197; omega
    refine wpc_skip ?_
    refine ex_then ?_
    refine wpc_seq ?_
    refine wpc_block ?_
    refine wpc_region ?_
    refine wpl_q (q_ldN Try.underlying27 rfl Try.ti27 rfl LenC.h) rfl ?_
    refine wpl_q (q_pure rfl) rfl ?_
    refine wpl_tp (t_callP3 Try.hb21 rfl fun w h => create (nF k) y.1 y.2.1 y.2.2 (UInt32.ofNat (k + 2)) 1 w ⟨(hF k).m, h.seenV, h.seenV, h.seenV, by have := (hF k).d; omega, by have := (hF k).p; omega, by have := (hF k).k; omega⟩) rfl (fun b203 p203 => ?_)
    haveI := OneC.sv p203
    refine wpl_q (q_pure rfl) rfl ?_
    refine wpl_q (q_pure rfl) rfl ?_
    refine wpl_q (q_pure rfl) rfl ?_
    refine wpl_t0 (t_stA Try.ti27 rfl rfl LenC.h OneC.h LenC.h) (fun _ => ?_)
    refine wpl_nil ?_
    refine ex_block ?_
    refine ex_then ?_
    refine wpc_region ?_
    refine wpl_q (q_pure rfl) rfl ?_
    refine wpl_q (q32_add (b := (1 : UInt32)) rfl rfl) rfl ?_
    refine wpl_q (q_pure rfl) rfl ?_
    first | refine wpl_re 57 rfl (congrArg (fun u : UInt32 => Value.int .u32 ((u.toNat : Nat) : Int)) (ofNat_succ32 (k + 2))) ?_ | skip
    refine wpl_nil ?_
    refine ex_again ⟨(k + 1, b203), ⟨by omega, p203⟩⟩ ?_ ?_ ?_
    ·
     exact (by repeat (first | exact trivial | refine ⟨rfl, ?_⟩))
    ·
     exact fun w h => by
       have h4 : Mem _ [] [.blk b56 27 ((createF (nF k) (UInt32.ofNat (k + 2)) 1).1.c b203.1 b203.2.1 b203.2.2), dRow b203.1 (createF (nF k) (UInt32.ofNat (k + 2)) 1).1.dk, dRow b203.2.1 (createF (nF k) (UInt32.ofNat (k + 2)) 1).1.pd, kRow b203.2.2 (createF (nF k) (UInt32.ofNat (k + 2)) 1).1.ks, .blk b45 27 (n0.c b170.1 b170.2.1 b170.2.2), dRow b170.1 n0.dk, kRow b170.2.2 n0.ks] [] w := h.sel
       exact h4
    ·
     (show 8 - (k + 1) < 8 - k); omega
   ·
    obtain rfl : k = 8 := by rw [e3] at hc197; simp only [decide_eq_false_iff_not] at hc197; omega
    refine wpc_exit ?_
    refine ex_then_exit ?_
    refine ex_then_exit ?_
    refine ex_block_hit ?_
    refine ex_then ?_
    refine wpc_seq ?_
    refine wpc_region ?_
    refine wpl_q (q_ldN Try.underlying27 rfl Try.ti27 rfl LenC.h) rfl ?_
    refine wpl_tp (t_callP3 Try.hb21 rfl fun w h => gx (show createF (nF 8) 1 1 = (St.z, 4) by kernel_rfl) (create (nF 8) y.1 y.2.1 y.2.2 1 1 w ⟨(hF 8).m, h.seenV, h.seenV, h.seenV, by have := (hF 8).d; omega, by have := (hF 8).p; omega, by have := (hF 8).k; omega⟩)) rfl (fun b208 p208 => ?_)
    haveI := OneC.sv p208
    refine wpl_q (q_pure rfl) rfl ?_
    refine wpl_q (q_pure rfl) rfl ?_
    refine wpl_q (q_pure rfl) rfl ?_
    refine wpl_t (t_alloc Try.ti27 (St.z.c nl nl nl) rfl) rfl (fun b58 => ?_)
    refine wpl_t0 (t_stA Try.ti27 rfl rfl LenC.h OneC.h LenC.h) (fun _ => ?_)
    refine wpl_q (q_pure rfl) rfl ?_
    refine wpl_mono (R' := Mem w [] [.blk b45 27 (n0.c b170.1 b170.2.1 b170.2.2), dRow b170.1 n0.dk, kRow b170.2.2 n0.ks] []) (fun w h => h.sel) ?_
    refine wpl_nil ?_
    refine ex_then ?_
    refine wpc_seq ?_
    refine wpc_region ?_
    refine wpl_q (q_build (cs := v8s zH) rfl (built_array Try.underlying23 Try.ti23 Try.ti5 rfl)) rfl ?_
    refine wpl_q (q_build (cs := (Stp.mk 0 0 0).c) rfl (by kernel_rfl)) rfl ?_
    refine wpl_q (q_build (cs := (Stp.mk 8 0 0).c) rfl (by kernel_rfl)) rfl ?_
    refine wpl_q (q_build (cs := (Stp.mk 6 0 0).c) rfl (by kernel_rfl)) rfl ?_
    refine wpl_q (q_build (cs := (Stp.mk 7 0 0).c) rfl (by kernel_rfl)) rfl ?_
    refine wpl_tp (t_bsG [.agg (Stp.mk 0 0 0).c.toArray, .agg (Stp.mk 8 0 0).c.toArray, .agg (Stp.mk 6 0 0).c.toArray, .agg (Stp.mk 7 0 0).c.toArray] (scs l4) Try.underlying56 Try.ti58 rfl (by decide) rfl (by decide) (by decide) rfl (by intro v hv; simp only [List.mem_cons, List.not_mem_nil, or_false] at hv; rcases hv with rfl | rfl | rfl | rfl <;> rfl) (by rfl)) rfl (fun b217 p217 => ?_)
    refine wpl_tp (t_callP4 Try.hb31 rfl fun w h => play_eq pl_4 b217 w rfl h.seenV) rfl (fun b218 p218 => ?_)
    haveI := OneC.sv p218.2
    refine wpl_q (q_pure rfl) rfl ?_
    refine wpl_q (q_pure rfl) rfl ?_
    refine wpl_q (q_pure rfl) rfl ?_
    refine wpl_q (q_pure rfl) rfl ?_
    refine wpl_t (t_alloc Try.ti27 (St.z.c nl nl nl) rfl) rfl (fun b61 => ?_)
    refine wpl_q (q_pure rfl) rfl ?_
    refine wpl_t0 (t_stA Try.ti27 rfl rfl LenC.h OneC.h LenC.h) (fun _ => ?_)
    refine wpl_q (q_pure rfl) rfl ?_
    refine wpl_nil ?_
    refine ex_then ?_
    refine wpc_seq ?_
    refine wpc_region ?_
    refine wpl_q (q_pure rfl) rfl ?_
    refine wpl_q (q_tru (q_eqI rfl rfl) rfl) rfl ?_
    refine wpl_q (q_pure rfl) rfl ?_
    refine wpl_on rfl rfl ?_
    refine wpl_q (q_pure rfl) rfl ?_
    refine wpl_on rfl rfl ?_
    refine wpl_q (q_tru (q_eqI rfl rfl) rfl) rfl ?_
    refine wpl_q (q_pure rfl) rfl ?_
    refine wpl_q (q_pure rfl) rfl ?_
    refine wpl_on rfl rfl ?_
    refine wpl_q (q_pure rfl) rfl ?_
    refine wpl_on rfl rfl ?_
    refine wpl_q (q_tru (q_eqI rfl rfl) rfl) rfl ?_
    refine wpl_q (q_pure rfl) rfl ?_
    refine wpl_q (q_pure rfl) rfl ?_
    refine wpl_on rfl rfl ?_
    refine wpl_q (q_pure rfl) rfl ?_
    refine wpl_on rfl rfl ?_
    refine wpl_q (q_tru (q_eqI rfl rfl) rfl) rfl ?_
    refine wpl_q (q_pure rfl) rfl ?_
    refine wpl_q (q_pure rfl) rfl ?_
    refine wpl_on rfl rfl ?_
    refine wpl_q (q_pure rfl) rfl ?_
    refine wpl_on rfl rfl ?_
    refine wpl_q (q_tru (q_eqI rfl rfl) rfl) rfl ?_
    refine wpl_q (q_pure rfl) rfl ?_
    refine wpl_q (q_pure rfl) rfl ?_
    refine wpl_on rfl rfl ?_
    refine wpl_q (q_pure rfl) rfl ?_
    refine wpl_on rfl rfl ?_
    refine wpl_q (q_tru (q_eqI rfl rfl) rfl) rfl ?_
    refine wpl_q (q_pure rfl) rfl ?_
    refine wpl_q (q_pure rfl) rfl ?_
    refine wpl_on rfl rfl ?_
    refine wpl_q (q_pure rfl) rfl ?_
    refine wpl_on rfl rfl ?_
    refine wpl_q (q_tru (q_eqI rfl rfl) rfl) rfl ?_
    refine wpl_q (q_pure rfl) rfl ?_
    refine wpl_q (q_pure rfl) rfl ?_
    refine wpl_on rfl rfl ?_
    refine wpl_q (q_pure rfl) rfl ?_
    refine wpl_on rfl rfl ?_
    refine wpl_q (q_tru (q_eqI rfl rfl) rfl) rfl ?_
    refine wpl_q (q_pure rfl) rfl ?_
    refine wpl_q (q_pure rfl) rfl ?_
    refine wpl_on rfl rfl ?_
    refine wpl_q (q_pure rfl) rfl ?_
    refine wpl_on rfl rfl ?_
    refine wpl_q (q_tru (q_eqI rfl rfl) rfl) rfl ?_
    refine wpl_q (q_pure rfl) rfl ?_
    refine wpl_q (q_pure rfl) rfl ?_
    refine wpl_on rfl rfl ?_
    refine wpl_q (q_pure rfl) rfl ?_
    refine wpl_on rfl rfl ?_
    refine wpl_q (q_tru (q_eqI rfl rfl) rfl) rfl ?_
    refine wpl_q (q_pure rfl) rfl ?_
    refine wpl_q (q_pure rfl) rfl ?_
    refine wpl_on rfl rfl ?_
    refine wpl_q (q_pure rfl) rfl ?_
    refine wpl_on rfl rfl ?_
    refine wpl_q (q_tru (q_eqI rfl rfl) rfl) rfl ?_
    refine wpl_q (q_pure rfl) rfl ?_
    refine wpl_q (q_pure rfl) rfl ?_
    refine wpl_on rfl rfl ?_
    refine wpl_q (q_pure rfl) rfl ?_
    refine wpl_on rfl rfl ?_
    refine wpl_q (q_tru (q_eqI rfl rfl) rfl) rfl ?_
    refine wpl_q (q_pure rfl) rfl ?_
    refine wpl_q (q_pure rfl) rfl ?_
    refine wpl_on rfl rfl ?_
    refine wpl_q (q_pure rfl) rfl ?_
    refine wpl_on rfl rfl ?_
    refine wpl_q (q_tru (q_eqI rfl rfl) rfl) rfl ?_
    refine wpl_q (q_pure rfl) rfl ?_
    refine wpl_q (q_pure rfl) rfl ?_
    refine wpl_on rfl rfl ?_
    refine wpl_q (q_pure rfl) rfl ?_
    refine wpl_on rfl rfl ?_
    refine wpl_q (q_tru (q_eqI rfl rfl) rfl) rfl ?_
    refine wpl_q (q_pure rfl) rfl ?_
    refine wpl_q (q_pure rfl) rfl ?_
    refine wpl_on rfl rfl ?_
    refine wpl_q (q_pure rfl) rfl ?_
    refine wpl_on rfl rfl ?_
    refine wpl_q (q_tru (q_eqI rfl rfl) rfl) rfl ?_
    refine wpl_q (q_pure rfl) rfl ?_
    refine wpl_q (q_pure rfl) rfl ?_
    refine wpl_on rfl rfl ?_
    refine wpl_q (q_pure rfl) rfl ?_
    refine wpl_on rfl rfl ?_
    refine wpl_q (q_tru (q_eqI rfl rfl) rfl) rfl ?_
    refine wpl_q (q_pure rfl) rfl ?_
    refine wpl_q (q_pure rfl) rfl ?_
    refine wpl_on rfl rfl ?_
    refine wpl_q (q_pure rfl) rfl ?_
    refine wpl_on rfl rfl ?_
    refine wpl_q (q_tru (q_eqI rfl rfl) rfl) rfl ?_
    refine wpl_q (q_pure rfl) rfl ?_
    refine wpl_q (q_pure rfl) rfl ?_
    refine wpl_on rfl rfl ?_
    refine wpl_q (q_pure rfl) rfl ?_
    refine wpl_on rfl rfl ?_
    refine wpl_q (q_tru (q_eqI rfl rfl) rfl) rfl ?_
    refine wpl_q (q_pure rfl) rfl ?_
    refine wpl_q (q_pure rfl) rfl ?_
    refine wpl_on rfl rfl ?_
    refine wpl_q (q_pure rfl) rfl ?_
    refine wpl_on rfl rfl ?_
    refine wpl_q (q_tru (q_eqI rfl rfl) rfl) rfl ?_
    refine wpl_q (q_pure rfl) rfl ?_
    refine wpl_q (q_pure rfl) rfl ?_
    refine wpl_on rfl rfl ?_
    refine wpl_q (q_pure rfl) rfl ?_
    refine wpl_on rfl rfl ?_
    refine wpl_q (q_tru (q_eqI rfl rfl) rfl) rfl ?_
    refine wpl_q (q_pure rfl) rfl ?_
    refine wpl_q (q_pure rfl) rfl ?_
    refine wpl_on rfl rfl ?_
    refine wpl_q (q_pure rfl) rfl ?_
    refine wpl_on rfl rfl ?_
    refine wpl_q (q_tru (q_eqI rfl rfl) rfl) rfl ?_
    refine wpl_q (q_pure rfl) rfl ?_
    refine wpl_q (q_pure rfl) rfl ?_
    refine wpl_on rfl rfl ?_
    refine wpl_q (q_pure rfl) rfl ?_
    refine wpl_on rfl rfl ?_
    refine wpl_q (q_tru (q_eqI rfl rfl) rfl) rfl ?_
    refine wpl_q (q_pure rfl) rfl ?_
    refine wpl_q (q_pure rfl) rfl ?_
    refine wpl_on rfl rfl ?_
    refine wpl_q (q_field Try.underlying27 rfl Try.ti25 rfl rfl _ rfl) rfl ?_
    refine wpl_on rfl rfl ?_
    refine wpl_q (q_ld Try.underlying25 rfl rfl (by first | exact St.c_d L32.h | exact St.c_p L32.h | exact St.c_k L32.h | exact St.c_b L32.h | exact St.c_u L32.h)) rfl ?_
    refine wpl_on rfl rfl ?_
    refine wpl_q (q_lenW Try.underlying25 rfl (by first | assumption | exact SV.nil | exact SV.slv (by assumption) (by omega) (by omega) | exact arv_sv (by first | decide | (simp only [maxLen]; omega)))) rfl ?_
    refine wpl_on rfl rfl ?_
    refine wpl_q (q_tru (q_eqI rfl rfl) (by rw [show n0.ks = [] by kernel_rfl]; rfl)) rfl ?_
    refine wpl_q (q_pure rfl) rfl ?_
    refine wpl_q (q_pure rfl) rfl ?_
    refine wpl_on rfl rfl ?_
    refine wpl_q (q_field Try.underlying27 rfl Try.ti24 rfl rfl _ rfl) rfl ?_
    refine wpl_on rfl rfl ?_
    refine wpl_q (q_ld Try.underlying24 rfl rfl (by first | exact St.c_d L32.h | exact St.c_p L32.h | exact St.c_k L32.h | exact St.c_b L32.h | exact St.c_u L32.h)) rfl ?_
    refine wpl_on rfl rfl ?_
    refine wpl_q (q_lenW Try.underlying24 rfl (by first | assumption | exact SV.nil | exact SV.slv (by assumption) (by omega) (by omega) | exact arv_sv (by first | decide | (simp only [maxLen]; omega)))) rfl ?_
    refine wpl_on rfl rfl ?_
    refine wpl_q (q_tru (q_eqI rfl rfl) (by rw [show n0.dk = [] by kernel_rfl]; rfl)) rfl ?_
    refine wpl_q (q_pure rfl) rfl ?_
    refine wpl_q (q_pure rfl) rfl ?_
    refine wpl_on rfl rfl ?_
    refine wpl_q (q_pure rfl) rfl ?_
    refine wpl_on rfl rfl ?_
    refine wpl_q (q_tru (q_eqI rfl rfl) rfl) rfl ?_
    refine wpl_q (q_pure rfl) rfl ?_
    refine wpl_q (q_pure rfl) rfl ?_
    refine wpl_on rfl rfl ?_
    refine wpl_q (q_pure rfl) rfl ?_
    refine wpl_on rfl rfl ?_
    refine wpl_q (q_tru (q_eqI rfl rfl) rfl) rfl ?_
    refine wpl_q (q_pure rfl) rfl ?_
    refine wpl_q (q_pure rfl) rfl ?_
    refine wpl_on rfl rfl ?_
    refine wpl_q (q_pure rfl) rfl ?_
    refine wpl_on rfl rfl ?_
    refine wpl_q (q_tru (q_eqI rfl rfl) rfl) rfl ?_
    refine wpl_q (q_pure rfl) rfl ?_
    refine wpl_q (q_pure rfl) rfl ?_
    refine wpl_on rfl rfl ?_
    refine wpl_q (q_pure rfl) rfl ?_
    refine wpl_on rfl rfl ?_
    refine wpl_q (q_tru (q_eqI rfl rfl) rfl) rfl ?_
    refine wpl_q (q_pure rfl) rfl ?_
    refine wpl_q (q_pure rfl) rfl ?_
    refine wpl_on rfl rfl ?_
    refine wpl_q (q_pure rfl) rfl ?_
    refine wpl_on rfl rfl ?_
    refine wpl_q (q_tru (q_eqI rfl rfl) rfl) rfl ?_
    refine wpl_q (q_pure rfl) rfl ?_
    refine wpl_q (q_pure rfl) rfl ?_
    refine wpl_nil ?_
    refine ex_then ?_
    refine wpc_seq ?_
    refine wpc_region ?_
    refine wpl_q (q_pure rfl) rfl ?_
    refine wpl_on rfl rfl ?_
    refine wpl_q (q_pure rfl) rfl ?_
    refine wpl_q (q_pure rfl) rfl ?_
    refine wpl_q (q_pure rfl) rfl ?_
    refine wpl_on rfl rfl ?_
    refine wpl_q (q_pure rfl) rfl ?_
    refine wpl_on rfl rfl ?_
    refine wpl_q (q_tru (q_eqI rfl rfl) rfl) rfl ?_
    refine wpl_q (q_pure rfl) rfl ?_
    refine wpl_q (q_pure rfl) rfl ?_
    refine wpl_on rfl rfl ?_
    refine wpl_q (q_pure rfl) rfl ?_
    refine wpl_on rfl rfl ?_
    refine wpl_q (q_build (cs := resC (0, 2)) rfl (by kernel_rfl)) rfl ?_
    refine wpl_on rfl rfl ?_
    refine wpl_q (q_build (cs := resC (0, 2)) rfl (by kernel_rfl)) rfl ?_
    refine wpl_on rfl rfl ?_
    refine wpl_q (q_build (cs := resC (0, 32)) rfl (by kernel_rfl)) rfl ?_
    refine wpl_on rfl rfl ?_
    refine wpl_q (q_build (cs := resC (0, 6)) rfl (by kernel_rfl)) rfl ?_
    refine wpl_on rfl rfl ?_
    refine wpl_tp (t_bsG [.agg (resC (0, 2)).toArray, .agg (resC (0, 2)).toArray, .agg (resC (0, 32)).toArray, .agg (resC (0, 6)).toArray] (rcs r4) Try.underlying53 Try.ti61 rfl (by decide) rfl (by decide) (by decide) rfl (by intro v hv; simp only [List.mem_cons, List.not_mem_nil, or_false] at hv; rcases hv with rfl | rfl | rfl | rfl <;> rfl) (by rfl)) rfl (fun b353 p353 => ?_)
    refine wpl_on rfl rfl ?_
    refine wpl_t (t_pur (v := .bool true) Try.hb32 rfl fun w h => by have q := sameResults b218.1 r4 b353 r4 w h.seenV h.seenV; simpa using q) rfl (fun b354 => ?_)
    refine wpl_q (q_pure rfl) rfl ?_
    refine wpl_q (q_pure rfl) rfl ?_
    refine wpl_on rfl rfl ?_
    refine wpl_t (t_pur Try.hb33 rfl fun w h => alive w) rfl (fun b357 => ?_)
    refine wpl_q (q_pure rfl) rfl ?_
    refine wpl_q (q_pure rfl) rfl ?_
    refine wpl_on rfl rfl ?_
    refine wpl_t (t_pur Try.hb34 rfl fun w h => filled w) rfl (fun b360 => ?_)
    refine wpl_q (q_pure rfl) rfl ?_
    refine wpl_q (q_pure rfl) rfl ?_
    refine wpl_nil ?_
    refine ex_then ?_
    refine wpc_ret ?_
    refine ret1 (.inl rfl) rfl rfl ?_
    exact fun w h => ⟨rfl, h.below⟩

end Go.Proofs.Ytoaeklbenmlooaa
