/- Walks: what a step of begin does. -/
import Derived.Test.YtifhfodphoeeoaaGreatChecked
import Derived.Test.YtifhfodphoeeoaaGreatWkOf
import Derived.Test.YtifhfodphoeeoaaGreatFactsC
namespace Go.Proofs.YtifhfodphoeeoaaGreat.Wk
open Go Go.RowKit Sl
set_option linter.unusedVariables false
set_option linter.unusedSimpArgs false
set_option maxRecDepth 20000

def beginS (s : Sl.State) (t : Sl.Thread) (p : Int) : Sl.State × Sl.Thread :=
  if t.pc = 1 then (s, { t with seen := at0 s.cells 0, pc := if s.config.clockMax ≤ at0 s.cells 0 then 5 else 2 })
  else if t.pc = 2 then (putS s (announceCell s.config p) t.seen, { t with pc := 3 })
  else if t.pc = 3 then if at0 s.cells 0 = t.seen then (s, { t with pc := 4 }) else ({ s with retries := IntKind.i64.wrap (s.retries + 1) }, { t with pc := 1 })
  else if t.pc = 4 then (swapS s 0 t.seen (IntKind.i64.wrap (t.seen + 1)), endT { t with snapshot := t.seen } 0 0)
  else if t.pc = 5 then (putS s (announceCell s.config p) 0, endT t 5 0)
  else (s, t)
def isB (n : Int) : Bool := decide (1 ≤ n ∧ n ≤ 5)

set_option maxHeartbeats 4000000 in
set_option maxRecDepth 20000 in
theorem l11Begin_c {W w : World} {l : List Res} {g gt ot mt ct p : Nat} {z0 z1 : Slv} {s : Sl.State} {t : Sl.Thread} (hp : p < s.threads.length) (hlc : 2 ≤ s.cells.length) (hS : Sep W (Box g ((s).encv (sv z0) (sv z1) (.slice (some ⟨gt, ot, none⟩) mt ct)) :: Own intEK (sv z0) (s).cells :: Own intEK (sv z1) (s).generations :: Own threadEK (.slice (some ⟨gt, ot, none⟩) mt ct) (s.threads.set p t) :: l) w) : Calls Tryz.prog 34 #[.pointer (some ⟨g, 0, none⟩), vi (p : Int)] w (Ret fun v w' => v = .tuple #[] ∧ Sep W (Box g (((beginS s t (p : Int)).1).encv (sv z0) (sv z1) (.slice (some ⟨gt, ot, none⟩) mt ct)) :: Own intEK (sv z0) ((beginS s t (p : Int)).1).cells :: Own intEK (sv z1) ((beginS s t (p : Int)).1).generations :: Own threadEK (.slice (some ⟨gt, ot, none⟩) mt ct) (s.threads.set p (beginS s t (p : Int)).2) :: l) w') := by
  refine calls_fr Tryz.func34 rfl Tryz.ntmps34 rfl ?_
  intro a hF
  have hl0 := hS.own_len (q := 1) rfl
  have hl1 := hS.own_len (q := 2) rfl
  have hmt : mt = s.threads.length := by have := hS.own_len (q := 3) (s := (some ⟨gt, ot, none⟩, mt, ct)) rfl; simpa using this
  refine ws fun K1 hK1 => ?_
  refine wl_mvs (A := [_]) hF rfl ?_; clear hF a; intro a hF
  refine wl hF rfl rfl rfl (r_nilCheck (hF.ev rfl)) ?_; clear hF a; intro a hF
  refine wl hF rfl rfl rfl (r_field fo32_3 (hF.ev rfl)) ?_; clear hF a; intro a hF
  refine wl hF rfl rfl rfl (r_load1 sc30 (hF.ev rfl) (hS.box (i := 0) rfl rfl)) ?_; clear hF a; intro a hF
  refine wl_mvs (A := [_]) hF rfl ?_; clear hF a; intro a hF
  refine wl hF rfl rfl rfl (r_index sl30 (hF.ev rfl) (hF.ev rfl) (by omega) (by first | omega | (dsimp only; omega))) ?_; clear hF a; intro a hF
  refine wl_mvs (A := [_]) hF rfl ?_; clear hF a; intro a hF
  refine wl_nil (hK1 _ _ ?_)
  refine ws fun K2 hK2 => ?_
  refine wl_mvs (A := [_]) hF rfl ?_; clear hF a; intro a hF
  refine wl hF rfl rfl rfl (r_nilCheck (hF.ev rfl)) ?_; clear hF a; intro a hF
  refine wl hF rfl rfl rfl (r_field fo32_0 (hF.ev rfl)) ?_; clear hF a; intro a hF
  refine wl hF rfl rfl rfl (r_loadn ag29 (hF.ev rfl) (hS.boxn (vs := [_, _, _, _, _, _]) (i := 0) (m := 6) rfl rfl) sz29) ?_; clear hF a; intro a hF
  refine wl_mvs (A := [_]) hF rfl ?_; clear hF a; intro a hF
  refine wl_call hF rfl rfl rfl (r_call2 en68 (hF.ev rfl) (hF.ev rfl)) (specAnnounceCell_c _ _) ?_; clear hF a; rintro v w1 a ⟨rfl, hB_⟩ hF; replace hS := hS.ext hB_; clear hB_
  refine wl_mvs (A := [_]) hF rfl ?_; clear hF a; intro a hF
  refine wl_nil (hK2 _ _ ?_)
  refine ws fun K3 hK3 => ?_
  refine wl_mvs (A := [_]) hF rfl ?_; clear hF a; intro a hF
  refine wl hF rfl rfl rfl (r_nilCheck (hF.ev rfl)) ?_; clear hF a; intro a hF
  refine wl hF rfl rfl rfl (r_field fo53_0 (hF.ev rfl)) ?_; clear hF a; intro a hF
  refine wl hF rfl rfl rfl (r_load1 sc3 (hF.ev rfl) (hS.elt1 (q := 3) (j := 0) hp rfl (fun _ => rfl))) ?_; clear hF a; intro a hF
  refine wl_nil (hK3 _ _ ?_)
  refine wp_block ?_
  refine ws fun K4 hK4 => ?_
  refine wl hF rfl rfl rfl (r_eql (hF.ev rfl) ec) ?_; clear hF a; intro a hF
  refine wl_mvs (A := [_]) hF rfl ?_; clear hF a; intro a hF
  refine wl_nil (hK4 _ _ ?_)
  refine wc_fx (t := 22) hF rfl ?_ ?_ <;> clear hF <;> intro c22 hF <;> try simp only [zb1, zb2, zb3, zb4, zb5, zb6, zb7, zb8] at c22
  ·
    refine ws fun K5 hK5 => ?_
    refine wl_mvs (A := [_, _]) hF rfl ?_; clear hF a; intro a hF
    refine wl hF rfl rfl rfl (r_nilCheck (hF.ev rfl)) ?_; clear hF a; intro a hF
    refine wl hF rfl rfl rfl (r_field fo32_1 (hF.ev rfl)) ?_; clear hF a; intro a hF
    refine wl hF rfl rfl rfl (r_load1 sc24 (hF.ev rfl) (hS.box (i := 0) rfl rfl)) ?_; clear hF a; intro a hF
    obtain ⟨g29, o29, m29, q29, hv29, hm29, hl29, hc29⟩ := Rd.atF ((hS.own_rd (i := 1) rfl)) (a := a) (X := .const (.int .i64 0)) ec (by omega) (by omega)
    refine wl hF rfl rfl rfl (r_index sl24 ((hF.ev rfl).trans hv29) ec (by omega) (by first | omega | (simp at hm29; omega))) ?_; clear hF a; intro a hF
    refine wl hF rfl rfl rfl (r_load1 sc3 (hF.ev rfl) (hc29 0 _ rfl)) ?_; clear hF a; intro a hF
    refine wl hF rfl rfl rfl (r_nilCheck (hF.ev rfl)) ?_; clear hF a; intro a hF
    refine wl hF rfl rfl rfl (r_field fo53_8 (hF.ev rfl)) ?_; clear hF a; intro a hF
    refine wl_estore (q := 3) (j := 11) (⟨_, ⟨_, _, _⟩, ⟨_, _⟩, _, _, _, _, _, _, _, _, _, _, _, _, _⟩ : Sl.Thread) hF hS hp rfl sz3 (hF.ev rfl) rfl (hF.ev rfl) rfl (fun _ => rfl) (fun _ => by dsimp only [threadEK, Thread.encv, List.set] <;> rfl) (by intro _; rfl) ?_; intro w2 hS_; replace hS := hS_; clear hS_; dsimp only [List.set] at hS
    refine wl_nil (hK5 _ _ ?_)
    refine ws fun K6 hK6 => ?_
    refine wl_mvs (A := [_]) hF rfl ?_; clear hF a; intro a hF
    refine wl hF rfl rfl rfl (r_nilCheck (hF.ev rfl)) ?_; clear hF a; intro a hF
    refine wl hF rfl rfl rfl (r_field fo53_0 (hF.ev rfl)) ?_; clear hF a; intro a hF
    refine wl_estore (q := 3) (j := 0) (⟨_, ⟨_, _, _⟩, ⟨_, _⟩, _, _, _, _, _, _, _, _, _, _, _, _, _⟩ : Sl.Thread) hF hS hp rfl sz3 (hF.ev rfl) rfl ec rfl (fun _ => rfl) (fun _ => by dsimp only [threadEK, Thread.encv, List.set] <;> rfl) (by intro _; rfl) ?_; intro w3 hS_; replace hS := hS_; clear hS_; dsimp only [List.set] at hS
    refine wl_nil (hK6 _ _ ?_)
    refine wp_seq_k fun K7 hK7 => ?_
    refine wp_region_calm (by kernel_rfl) (by kernel_rfl) ?_
    refine wq_mvs (A := [_]) hF rfl ?_; clear hF a; intro a hF
    refine wq hF rfl rfl rfl (fun w_ hB_ => r_nilCheck (hF.ev rfl)) ?_; clear hF a; intro a hF
    refine wq hF rfl rfl rfl (fun w_ hB_ => r_field fo53_8 (hF.ev rfl)) ?_; clear hF a; intro a hF
    refine wq hF rfl rfl rfl (fun w_ hB_ => r_load1 sc3 (hF.ev rfl) ((hS.ext hB_).elt1 (q := 3) (j := 11) hp rfl (fun _ => rfl))) ?_; clear hF a; intro a hF
    refine wq_mvs (A := [_]) hF rfl ?_; clear hF a; intro a hF
    refine wq hF rfl rfl rfl (fun w_ hB_ => r_nilCheck (hF.ev rfl)) ?_; clear hF a; intro a hF
    refine wq hF rfl rfl rfl (fun w_ hB_ => r_field fo32_0 (hF.ev rfl)) ?_; clear hF a; intro a hF
    refine wq hF rfl rfl rfl (fun w_ hB_ => r_field fo29_5 (hF.ev rfl)) ?_; clear hF a; intro a hF
    refine wq hF rfl rfl rfl (fun w_ hB_ => r_load1 sc3 (hF.ev rfl) ((hS.ext hB_).box (i := 0) rfl rfl)) ?_; clear hF a; intro a hF
    refine wq hF rfl rfl rfl (fun w_ hB_ => r_geq (hF.ev rfl) (hF.ev rfl)) ?_; clear hF a; intro a hF
    refine wpQuiet_nil ?_; intro w4 hB_; replace hS := hS.ext hB_; clear hB_
    refine hK7 _ _ ?_
    refine wc_fx (t := 45) hF rfl ?_ ?_ <;> clear hF <;> intro c45 hF <;> try simp only [zb1, zb2, zb3, zb4, zb5, zb6, zb7, zb8] at c45
    ·
      refine wp_region_lit ?_
      refine wl_mvs (A := [_]) hF rfl ?_; clear hF a; intro a hF
      refine wl hF rfl rfl rfl (r_nilCheck (hF.ev rfl)) ?_; clear hF a; intro a hF
      refine wl hF rfl rfl rfl (r_field fo53_0 (hF.ev rfl)) ?_; clear hF a; intro a hF
      refine wl_estore (q := 3) (j := 0) (⟨_, ⟨_, _, _⟩, ⟨_, _⟩, _, _, _, _, _, _, _, _, _, _, _, _, _⟩ : Sl.Thread) hF hS hp rfl sz3 (hF.ev rfl) rfl ec rfl (fun _ => rfl) (fun _ => by dsimp only [threadEK, Thread.encv, List.set] <;> rfl) (by intro _; rfl) ?_; intro w5 hS_; replace hS := hS_; clear hS_; dsimp only [List.set] at hS
      refine wl_nil ?_
      try simp only [Exit.then, Exit.inBlock, ↓reduceIte]
      refine ret0n rfl hF ⟨rfl, ?_⟩
      unfold beginS
      rw [if_pos c22, if_pos c45]
      exact hS
    refine wp_skip ?_
    try simp only [Exit.then, Exit.inBlock, ↓reduceIte]
    refine ret0n rfl hF ⟨rfl, ?_⟩
    unfold beginS
    rw [if_pos c22, if_neg c45]
    exact hS
  refine ws fun K8 hK8 => ?_
  refine wl hF rfl rfl rfl (r_eql (hF.ev rfl) ec) ?_; clear hF a; intro a hF
  refine wl_mvs (A := [_]) hF rfl ?_; clear hF a; intro a hF
  refine wl_nil (hK8 _ _ ?_)
  refine wc_fx (t := 49) hF rfl ?_ ?_ <;> clear hF <;> intro c49 hF <;> try simp only [zb1, zb2, zb3, zb4, zb5, zb6, zb7, zb8] at c49
  ·
    refine ws fun K9 hK9 => ?_
    refine wl_mvs (A := [_, _, _]) hF rfl ?_; clear hF a; intro a hF
    refine wl hF rfl rfl rfl (r_nilCheck (hF.ev rfl)) ?_; clear hF a; intro a hF
    refine wl hF rfl rfl rfl (r_field fo53_8 (hF.ev rfl)) ?_; clear hF a; intro a hF
    refine wl hF rfl rfl rfl (r_load1 sc3 (hF.ev rfl) (hS.elt1 (q := 3) (j := 11) hp rfl (fun _ => rfl))) ?_; clear hF a; intro a hF
    refine wl_call hF rfl rfl rfl (r_call3 en69 (hF.ev rfl) (hF.ev rfl) (hF.ev rfl)) (l9Put_c (s := s) hS) ?_; clear hF a; rintro v w6 a ⟨rfl, hS_⟩ hF; replace hS := hS_; clear hS_
    refine wl_nil (hK9 _ _ ?_)
    refine wp_region_lit ?_
    refine wl_mvs (A := [_]) hF rfl ?_; clear hF a; intro a hF
    refine wl hF rfl rfl rfl (r_nilCheck (hF.ev rfl)) ?_; clear hF a; intro a hF
    refine wl hF rfl rfl rfl (r_field fo53_0 (hF.ev rfl)) ?_; clear hF a; intro a hF
    refine wl_estore (q := 3) (j := 0) (⟨_, ⟨_, _, _⟩, ⟨_, _⟩, _, _, _, _, _, _, _, _, _, _, _, _, _⟩ : Sl.Thread) hF hS hp rfl sz3 (hF.ev rfl) rfl ec rfl (fun _ => rfl) (fun _ => by dsimp only [threadEK, Thread.encv, List.set] <;> rfl) (by intro _; rfl) ?_; intro w7 hS_; replace hS := hS_; clear hS_; dsimp only [List.set] at hS
    refine wl_nil ?_
    try simp only [Exit.then, Exit.inBlock, ↓reduceIte]
    refine ret0n rfl hF ⟨rfl, ?_⟩
    unfold beginS
    rw [if_neg c22, if_pos c49]
    exact hS
  refine ws fun K10 hK10 => ?_
  refine wl hF rfl rfl rfl (r_eql (hF.ev rfl) ec) ?_; clear hF a; intro a hF
  refine wl_mvs (A := [_]) hF rfl ?_; clear hF a; intro a hF
  refine wl_nil (hK10 _ _ ?_)
  refine wc_fx (t := 61) hF rfl ?_ ?_ <;> clear hF <;> intro c61 hF <;> try simp only [zb1, zb2, zb3, zb4, zb5, zb6, zb7, zb8] at c61
  ·
    refine ws fun K11 hK11 => ?_
    refine wl_mvs (A := [_]) hF rfl ?_; clear hF a; intro a hF
    refine wl hF rfl rfl rfl (r_nilCheck (hF.ev rfl)) ?_; clear hF a; intro a hF
    refine wl hF rfl rfl rfl (r_field fo53_0 (hF.ev rfl)) ?_; clear hF a; intro a hF
    refine wl_estore (q := 3) (j := 0) (⟨_, ⟨_, _, _⟩, ⟨_, _⟩, _, _, _, _, _, _, _, _, _, _, _, _, _⟩ : Sl.Thread) hF hS hp rfl sz3 (hF.ev rfl) rfl ec rfl (fun _ => rfl) (fun _ => by dsimp only [threadEK, Thread.encv, List.set] <;> rfl) (by intro _; rfl) ?_; intro w8 hS_; replace hS := hS_; clear hS_; dsimp only [List.set] at hS
    refine wl_nil (hK11 _ _ ?_)
    refine wp_seq_k fun K12 hK12 => ?_
    refine wp_region_calm (by kernel_rfl) (by kernel_rfl) ?_
    refine wq_mvs (A := [_]) hF rfl ?_; clear hF a; intro a hF
    refine wq hF rfl rfl rfl (fun w_ hB_ => r_nilCheck (hF.ev rfl)) ?_; clear hF a; intro a hF
    refine wq hF rfl rfl rfl (fun w_ hB_ => r_field fo32_1 (hF.ev rfl)) ?_; clear hF a; intro a hF
    refine wq hF rfl rfl rfl (fun w_ hB_ => r_load1 sc24 (hF.ev rfl) ((hS.ext hB_).box (i := 0) rfl rfl)) ?_; clear hF a; intro a hF
    obtain ⟨g70, o70, m70, q70, hv70, hm70, hl70, hc70⟩ := Rd.atF ((hS.own_rd (i := 1) rfl)) (a := a) (X := .const (.int .i64 0)) ec (by omega) (by omega)
    refine wq hF rfl rfl rfl (fun w_ hB_ => r_index sl24 ((hF.ev rfl).trans hv70) ec (by omega) (by first | omega | (simp at hm70; omega))) ?_; clear hF a; intro a hF
    refine wq hF rfl rfl rfl (fun w_ hB_ => r_load1 sc3 (hF.ev rfl) (cellB hB_ (hc70 0 _ rfl))) ?_; clear hF a; intro a hF
    refine wq_mvs (A := [_]) hF rfl ?_; clear hF a; intro a hF
    refine wq hF rfl rfl rfl (fun w_ hB_ => r_nilCheck (hF.ev rfl)) ?_; clear hF a; intro a hF
    refine wq hF rfl rfl rfl (fun w_ hB_ => r_field fo53_8 (hF.ev rfl)) ?_; clear hF a; intro a hF
    refine wq hF rfl rfl rfl (fun w_ hB_ => r_load1 sc3 (hF.ev rfl) ((hS.ext hB_).elt1 (q := 3) (j := 11) hp rfl (fun _ => rfl))) ?_; clear hF a; intro a hF
    refine wq hF rfl rfl rfl (fun w_ hB_ => r_neq (hF.ev rfl) (hF.ev rfl)) ?_; clear hF a; intro a hF
    refine wpQuiet_nil ?_; intro w9 hB_; replace hS := hS.ext hB_; clear hB_
    refine hK12 _ _ ?_
    refine wc_fx (t := 76) hF rfl ?_ ?_ <;> clear hF <;> intro c76 hF <;> try simp only [zb1, zb2, zb3, zb4, zb5, zb6, zb7, zb8] at c76
    ·
      refine ws fun K13 hK13 => ?_
      refine wl_mvs (A := [_, _]) hF rfl ?_; clear hF a; intro a hF
      refine wl hF rfl rfl rfl (r_nilCheck (hF.ev rfl)) ?_; clear hF a; intro a hF
      refine wl hF rfl rfl rfl (r_field fo32_6 (hF.ev rfl)) ?_; clear hF a; intro a hF
      refine wl hF rfl rfl rfl (r_load1 sc3 (hF.ev rfl) (hS.box (i := 0) rfl rfl)) ?_; clear hF a; intro a hF
      refine wl hF rfl rfl rfl (r_add (hF.ev rfl) ec) ?_; clear hF a; intro a hF
      refine wl hF rfl rfl rfl (r_nilCheck (hF.ev rfl)) ?_; clear hF a; intro a hF
      refine wl hF rfl rfl rfl (r_field fo32_6 (hF.ev rfl)) ?_; clear hF a; intro a hF
      refine wl_store hF hS (i := 0) rfl sz3 (hF.ev rfl) (hF.ev rfl) rfl rfl ?_; intro w10 hS_; replace hS := hS_; clear hS_; dsimp only [List.set, Nat.reduceAdd] at hS
      refine wl_nil (hK13 _ _ ?_)
      refine wp_region_lit ?_
      refine wl_mvs (A := [_]) hF rfl ?_; clear hF a; intro a hF
      refine wl hF rfl rfl rfl (r_nilCheck (hF.ev rfl)) ?_; clear hF a; intro a hF
      refine wl hF rfl rfl rfl (r_field fo53_0 (hF.ev rfl)) ?_; clear hF a; intro a hF
      refine wl_estore (q := 3) (j := 0) (⟨_, ⟨_, _, _⟩, ⟨_, _⟩, _, _, _, _, _, _, _, _, _, _, _, _, _⟩ : Sl.Thread) hF hS hp rfl sz3 (hF.ev rfl) rfl ec rfl (fun _ => rfl) (fun _ => by dsimp only [threadEK, Thread.encv, List.set] <;> rfl) (by intro _; rfl) ?_; intro w11 hS_; replace hS := hS_; clear hS_; dsimp only [List.set] at hS
      refine wl_nil ?_
      try simp only [Exit.then, Exit.inBlock, ↓reduceIte]
      refine ret0n rfl hF ⟨rfl, ?_⟩
      unfold beginS
      rw [if_neg c22, if_neg c49, if_pos c61, if_neg c76]
      exact hS
    refine wp_skip ?_
    try simp only [Exit.then, Exit.inBlock, ↓reduceIte]
    refine ret0n rfl hF ⟨rfl, ?_⟩
    unfold beginS
    rw [if_neg c22, if_neg c49, if_pos c61, if_pos c76]
    exact hS
  refine ws fun K14 hK14 => ?_
  refine wl hF rfl rfl rfl (r_eql (hF.ev rfl) ec) ?_; clear hF a; intro a hF
  refine wl_mvs (A := [_]) hF rfl ?_; clear hF a; intro a hF
  refine wl_nil (hK14 _ _ ?_)
  refine wc_fx (t := 88) hF rfl ?_ ?_ <;> clear hF <;> intro c88 hF <;> try simp only [zb1, zb2, zb3, zb4, zb5, zb6, zb7, zb8] at c88
  ·
    refine wp_seq_k fun K15 hK15 => ?_
    refine wp_region_todo (is := [0, 1, 2, 3, 4, 5, 6, 7, 8, 9, 10]) [] [10] (by kernel_rfl) hF hS ⟨trivial, by decide, by decide, by decide⟩ (by kernel_rfl) ?_; clear hF; intro hl_ wd hSd
    refine todo_pure hl_ (by kernel_rfl) rfl (gw0 rfl) rfl rfl rfl (fun a w_ hF => r_move (hF.ev rfl)) ?_
    refine todo_pure hl_ (by kernel_rfl) rfl (gw0 rfl) rfl rfl rfl (fun a w_ hF => r_move (hF.ev rfl)) ?_
    refine todo_pure hl_ (by kernel_rfl) rfl (gw0 rfl) rfl rfl rfl (fun a w_ hF => r_nilCheck (hF.ev rfl)) ?_
    refine todo_pure hl_ (by kernel_rfl) rfl (gw0 rfl) rfl rfl rfl (fun a w_ hF => r_field fo53_8 (hF.ev rfl)) ?_
    refine todo_load [10] hl_ (by kernel_rfl) rfl (gw0 rfl) rfl rfl rfl (fun a w_ hF hB_ => r_load1 sc3 (hF.ev rfl) ((hSd.ext hB_).elt1 (q := 3) (j := 11) hp rfl (fun _ => rfl))) ?_
    refine todo_pure hl_ (by kernel_rfl) rfl (gw0 rfl) rfl rfl rfl (fun a w_ hF => r_move (hF.ev rfl)) ?_
    refine todo_pure hl_ (by kernel_rfl) rfl (gw0 rfl) rfl rfl rfl (fun a w_ hF => r_nilCheck (hF.ev rfl)) ?_
    refine todo_pure hl_ (by kernel_rfl) rfl (gw0 rfl) rfl rfl rfl (fun a w_ hF => r_field fo53_8 (hF.ev rfl)) ?_
    refine todo_load [9, 10] hl_ (by kernel_rfl) rfl (gw0 rfl) rfl rfl rfl (fun a w_ hF hB_ => r_load1 sc3 (hF.ev rfl) ((hSd.ext hB_).elt1 (q := 3) (j := 11) hp rfl (fun _ => rfl))) ?_
    refine todo_pure hl_ (by kernel_rfl) rfl (gw0 rfl) rfl rfl rfl (fun a w_ hF => r_add (hF.ev rfl) ec) ?_
    refine todo_fork [(10, [])] hl_ rfl (by kernel_rfl) (List.forall_mem_cons.2 ⟨?_, fun _ h_ => nomatch h_⟩)
    ·
      refine op_mc (Γ := Unit) (m' := []) rfl (gw0 rfl) rfl rfl rfl (fun a w_ hF => r_call4 en70 (hF.ev rfl) ec (hF.ev rfl) (hF.ev rfl)) (fun w_ hS => calls_unit (l9Swap_c (s := s) hS)) ?_; intro _; try clear hSd; try clear wd; intro wd hSd
      refine todo_fin hl_ rfl (by kernel_rfl) (tl := []) rfl ?_; clear hS a; intro a w12 hF hA_
      have hS := hA_.sep; clear hA_
      clear hl_; try clear hSd
      try dsimp only [List.cons_append, List.nil_append, List.set] at hS
      try clear wd
      refine wl_nil ⟨rfl, ?_⟩
      refine hK15 _ _ ?_
      refine ws fun K16 hK16 => ?_
      refine wl_mvs (A := [_, _]) hF rfl ?_; clear hF a; intro a hF
      refine wl hF rfl rfl rfl (r_nilCheck (hF.ev rfl)) ?_; clear hF a; intro a hF
      refine wl hF rfl rfl rfl (r_field fo53_8 (hF.ev rfl)) ?_; clear hF a; intro a hF
      refine wl hF rfl rfl rfl (r_load1 sc3 (hF.ev rfl) (hS.elt1 (q := 3) (j := 11) hp rfl (fun _ => rfl))) ?_; clear hF a; intro a hF
      refine wl hF rfl rfl rfl (r_nilCheck (hF.ev rfl)) ?_; clear hF a; intro a hF
      refine wl hF rfl rfl rfl (r_field fo53_3 (hF.ev rfl)) ?_; clear hF a; intro a hF
      refine wl_estore (q := 3) (j := 6) (⟨_, ⟨_, _, _⟩, ⟨_, _⟩, _, _, _, _, _, _, _, _, _, _, _, _, _⟩ : Sl.Thread) hF hS hp rfl sz3 (hF.ev rfl) rfl (hF.ev rfl) rfl (fun _ => rfl) (fun _ => by dsimp only [threadEK, Thread.encv, List.set] <;> rfl) (by intro _; rfl) ?_; intro w13 hS_; replace hS := hS_; clear hS_; dsimp only [List.set] at hS
      refine wl_nil (hK16 _ _ ?_)
      refine wp_region_lit ?_
      refine wl_mvs (A := [_, _]) hF rfl ?_; clear hF a; intro a hF
      replace hS := Sep.headp (A := [_, _, _, _]) (B := [_, _, _, _]) hS [0, 3, 1, 2] (by decide) rfl rfl
      refine wl_call hF rfl rfl rfl (r_call4 en71 (hF.ev rfl) (hF.ev rfl) ec ec) (l10Finish_c (s := swapS s 0 t.seen (IntKind.i64.wrap (t.seen + 1))) hp hS) ?_; clear hF a; rintro v w14 a ⟨rfl, hS_⟩ hF; replace hS := hS_; clear hS_
      refine wl_nil ?_
      try simp only [Exit.then, Exit.inBlock, ↓reduceIte]
      refine ret0n rfl hF ⟨rfl, ?_⟩
      unfold beginS
      rw [if_neg c22, if_neg c49, if_neg c61, if_pos c88]
      exact (Sep.headp (A := [_, _, _, _]) (B := [_, _, _, _]) hS [0, 2, 3, 1] (by decide) rfl rfl)
  refine ws fun K17 hK17 => ?_
  refine wl hF rfl rfl rfl (r_eql (hF.ev rfl) ec) ?_; clear hF a; intro a hF
  refine wl_mvs (A := [_]) hF rfl ?_; clear hF a; intro a hF
  refine wl_nil (hK17 _ _ ?_)
  refine wc_fx (t := 111) hF rfl ?_ ?_ <;> clear hF <;> intro c111 hF <;> try simp only [zb1, zb2, zb3, zb4, zb5, zb6, zb7, zb8] at c111
  ·
    refine ws fun K18 hK18 => ?_
    refine wl_mvs (A := [_, _]) hF rfl ?_; clear hF a; intro a hF
    refine wl_call hF rfl rfl rfl (r_call3 en69 (hF.ev rfl) (hF.ev rfl) ec) (l9Put_c (s := s) hS) ?_; clear hF a; rintro v w15 a ⟨rfl, hS_⟩ hF; replace hS := hS_; clear hS_
    refine wl_nil (hK18 _ _ ?_)
    refine wp_region_lit ?_
    refine wl_mvs (A := [_, _]) hF rfl ?_; clear hF a; intro a hF
    replace hS := Sep.headp (A := [_, _, _, _]) (B := [_, _, _, _]) hS [0, 3, 1, 2] (by decide) rfl rfl
    refine wl_call hF rfl rfl rfl (r_call4 en71 (hF.ev rfl) (hF.ev rfl) ec ec) (l10Finish_c (s := putS s (announceCell s.config (p : Int)) 0) hp hS) ?_; clear hF a; rintro v w16 a ⟨rfl, hS_⟩ hF; replace hS := hS_; clear hS_
    refine wl_nil ?_
    try simp only [Exit.then, Exit.inBlock, ↓reduceIte]
    refine ret0n rfl hF ⟨rfl, ?_⟩
    unfold beginS
    rw [if_neg c22, if_neg c49, if_neg c61, if_neg c88, if_pos c111]
    exact (Sep.headp (A := [_, _, _, _]) (B := [_, _, _, _]) hS [0, 2, 3, 1] (by decide) rfl rfl)
  refine wp_skip ?_
  try simp only [Exit.then, Exit.inBlock, ↓reduceIte]
  refine ret0n rfl hF ⟨rfl, ?_⟩
  unfold beginS
  rw [if_neg c22, if_neg c49, if_neg c61, if_neg c88, if_neg c111]
  exact hS

set_option maxHeartbeats 4000000 in
set_option maxRecDepth 20000 in
theorem specIsBegin_c {W : World} {n : Int} : Calls Tryz.prog 33 #[vi n] W (Ret fun v w' => v = .bool (isB n) ∧ Below W.heap.size W w') := by
  refine calls_fr Tryz.func33 rfl Tryz.ntmps33 rfl ?_
  intro a hF
  have hS := Sep.refl W
  refine ws fun K1 hK1 => ?_
  refine wl_mvs (A := [_]) hF rfl ?_; clear hF a; intro a hF
  refine wl_nil (hK1 _ _ ?_)
  refine ws fun K2 hK2 => ?_
  refine wl_mvs (A := [_]) hF rfl ?_; clear hF a; intro a hF
  refine wl_call hF rfl rfl rfl (r_call3 en67 (hF.ev rfl) ec ec) (l1In_c _ _ _) ?_; clear hF a; rintro v w1 a ⟨rfl, hB_⟩ hF; replace hS := hS.ext hB_; clear hB_
  refine wl_mvs (A := [_]) hF rfl ?_; clear hF a; intro a hF
  refine wl_nil (hK2 _ _ ?_)
  refine wp_ret ?_
  try simp only [Exit.then, Exit.inBlock, ↓reduceIte]
  exact ret1 rfl hF rfl ⟨rfl, hS.old⟩

set_option maxHeartbeats 4000000 in
set_option maxRecDepth 20000 in
theorem specStepBegin_c {W : World} {s : Sl.State} {cs : List Value} {p : Int} (hm : stateEK.K W s cs) (hw : s.wf) (hz : (s.size : Int) ≤ 1048576) (hp0 : int64 p) : Calls Tryz.prog 10 #[.agg cs.toArray, vi p] W (Ret (Mk W (fun vs => .tuple #[.agg (stateEK.cells (stepOf isB beginS s p).1 vs).toArray, .bool (stepOf isB beginS s p).2]) (fun vs => [Part stateEK (stepOf isB beginS s p).1 vs]))) := by
  refine calls_fr Tryz.func10 rfl Tryz.ntmps10 rfl ?_
  intro a hF
  have hS := Sep.refl W
  obtain ⟨v0, v1, v2, rfl, r0, r1, r2⟩ := hm
  have hm : stateEK.K W s (s.encv v0 v1 v2) := ⟨_, _, _, rfl, r0, r1, r2⟩
  obtain ⟨A_a, q_a, rfl, hq_a, hn_a⟩ := r0.sl; unfold maxLen at hn_a
  obtain ⟨A_b, q_b, rfl, hq_b, hn_b⟩ := r1.sl; unfold maxLen at hn_b
  obtain ⟨A_c, q_c, rfl, hq_c, hn_c⟩ := r2.sl; unfold maxLen at hn_c
  refine ws fun K1 hK1 => ?_
  refine wl_box (cs := [_, _, _, _, _, _, _, _, _, _, _, _, _]) hF hS rfl (hF.ev rfl) rfl ?_; clear hF a; intro g1 w1 a hS_ hB_ hF; replace hS := hS_; clear hS_ hB_
  refine wl_alloc hF hS rfl zr32 ?_; clear hF a; intro g2 w2 a hS_ hB_ hF; replace hS := hS_; clear hS_ hB_
  refine wl_mvs (A := [_]) hF rfl ?_; clear hF a; intro a hF
  refine wl_nil (hK1 _ _ ?_)
  refine ws fun K2 hK2 => ?_
  refine wl hF rfl rfl rfl (r_loadn ag32 (hF.ev rfl) (hS.box_rd (i := 1) rfl) sz32) ?_; clear hF a; intro a hF
  refine wl_mk hF hS rfl rfl rfl (r_call1 en31 (hF.ev rfl)) (l8Copy_c (hS.k hm) (by omega)) ?_; clear hF a; rintro vs8 w3 a hS_ hF; replace hS := hS_; clear hS_; dsimp only [List.cons_append, List.nil_append] at hS
  refine wl_alloc hF hS rfl zr32 ?_; clear hF a; intro g3 w4 a hS_ hB_ hF; replace hS := hS_; clear hS_ hB_
  refine wl_storew hF hS (i := 0) rfl (hF.ev rfl) (hF.ev rfl) sz32 rfl rfl ?_; intro w5 hS_; replace hS := hS_; clear hS_; dsimp only [List.set, Nat.reduceAdd] at hS
  refine wl_nil (hK2 _ _ ?_)
  refine wp_seq_k fun K3 hK3 => ?_
  refine ws fun K4 hK4 => ?_
  refine wl hF rfl rfl rfl (r_loadn ag32 (hF.ev rfl) (hS.box_rd (i := 3) rfl) sz32) ?_; clear hF a; intro a hF
  refine wl_mvs (A := [_]) hF rfl ?_; clear hF a; intro a hF
  refine wl_call hF rfl rfl rfl (r_call2 en32 (hF.ev rfl) (hF.ev rfl)) (specIsRunning_c (hS.k hm) hw hz hp0) ?_; clear hF a; rintro v w6 a ⟨rfl, hB_⟩ hF; replace hS := hS.ext hB_; clear hB_
  refine wl hF rfl rfl rfl (r_not (hF.ev rfl)) ?_; clear hF a; intro a hF
  refine wl_mvs (A := [_]) hF rfl ?_; clear hF a; intro a hF
  apply wl_or (A := [_, _, _, _, _, _, _, _, _]) (pk := 22) hF hS (tc := 13) rfl
  ·
    intro hg13 a hF; try simp only [zb1, zb2, zb3, zb4, zb5, zb6, zb7, zb8] at hg13
    obtain ⟨hso_, hp1_⟩ := running_of hg13
    refine wl_take hF rfl rfl rfl rfl ?_
    refine wl hF rfl rfl rfl (r_field fo32_3 (hF.ev rfl)) ?_; clear hF a; intro a hF
    refine wl_take hF rfl rfl rfl rfl ?_
    refine wl hF rfl rfl rfl (r_load1 sc30 (hF.ev rfl) (hS.box (i := 3) rfl rfl)) ?_; clear hF a; intro a hF
    refine wl_mvs (A := [_]) hF rfl ?_; clear hF a; intro a hF
    refine wl_take hF rfl rfl rfl rfl ?_
    obtain ⟨g17, o17, m17, q17, cs17, hv17, hm17, hl17, hk17, hz17, hc17⟩ := Rd.at (r2) (a := a) (X := .tmp 16) (hF.ev rfl) (by omega) (by omega)
    have hkk17 := hk17; obtain ⟨v17_0, v17_1, v17_2, v17_3, v17_4, rfl, r17_0, r17_1, r17_2, r17_3, r17_4⟩ := hk17
    refine wl hF rfl rfl rfl (r_index sl30 ((hF.ev rfl).trans hv17) (hF.ev rfl) (by omega) (by first | omega | (simp at hm17; omega))) ?_; clear hF a; intro a hF
    refine wl_take hF rfl rfl rfl rfl ?_
    refine wl hF rfl rfl rfl (r_field fo53_0 (hF.ev rfl)) ?_; clear hF a; intro a hF
    refine wl_take hF rfl rfl rfl rfl ?_
    refine wl hF rfl rfl rfl (r_load1 sc3 (hF.ev rfl) (cellB hS.old (hc17 0 _ rfl))) ?_; clear hF a; intro a hF
    refine wl_take hF rfl rfl rfl rfl ?_
    refine wl_call hF rfl rfl rfl (r_call1 en33 (hF.ev rfl)) (specIsBegin_c) ?_; clear hF a; rintro v w7 a ⟨rfl, hB_⟩ hF; replace hS := hS.ext hB_; clear hB_
    refine wl_take hF rfl rfl rfl rfl ?_
    refine wl hF rfl rfl rfl (r_not (hF.ev rfl)) ?_; clear hF a; intro a hF
    refine wl hF rfl rfl rfl (r_pick_f (hF.ev rfl) (hF.ev rfl)) ?_; clear hF a; intro a hF
    exact wl_nil ⟨rfl, (Fr.pre (A := [_, _, _, _, _, _, _, _, _]) hF rfl).keep hF (t := 22) rfl, hS⟩
  ·
    intro hg13 a hF; try simp only [zb1, zb2, zb3, zb4, zb5, zb6, zb7, zb8] at hg13
    refine wl_mvs (A := [_, _, _, _, _, _, _, _]) hF rfl ?_; clear hF a; intro a hF
    refine wl hF rfl rfl rfl (r_pick_t (hF.ev rfl) ec) ?_; clear hF a; intro a hF
    exact wl_nil ⟨rfl, (Fr.pre (A := [_, _, _, _, _, _, _, _, _]) hF rfl).keep hF (t := 22) rfl, hS⟩
  clear hF a hS; intro a w8 hF hS
  refine wl_nil (hK4 _ _ ?_)
  refine wc_fx (t := 22) hF rfl ?_ ?_ <;> clear hF <;> intro c22 hF <;> try simp only [zb1, zb2, zb3, zb4, zb5, zb6, zb7, zb8] at c22
  ·
    refine ws fun K5 hK5 => ?_
    refine wl hF rfl rfl rfl (r_loadn ag32 (hF.ev rfl) (hS.box_rd (i := 0) rfl) sz32) ?_; clear hF a; intro a hF
    refine wl_storew hF hS (i := 2) rfl (hF.ev rfl) (hF.ev rfl) sz32 rfl rfl ?_; intro w9 hS_; replace hS := hS_; clear hS_; dsimp only [List.set, Nat.reduceAdd] at hS
    refine wl_mvs (A := [_]) hF rfl ?_; clear hF a; intro a hF
    refine wl_nil (hK5 _ _ ?_)
    refine wp_ret ?_
    try simp only [Exit.then, Exit.inBlock, ↓reduceIte]
    have e : stepOf isB beginS s p = (s, false) := if_neg (fun h => by
      rcases c22 with c | c
      · rw [h.1] at c; cases c
      · rw [h.2] at c; cases c)
    refine ret2c rfl ag32 hF hS (i := 2) rfl sz32 rfl rfl ⟨vs8, ?_, ?_⟩
    · rw [e] <;> rfl
    · rw [e]; exact hS.pick [1] (by decide) rfl
  obtain ⟨hso, hp1⟩ := running_of c22.1
  obtain ⟨p, rfl⟩ : ∃ k : Nat, p = (k : Int) := ⟨p.toNat, by omega⟩
  have hp : p < s.threads.length := by omega
  have hxt := at0_nat hp
  replace hS := hS.pull (p := 1) rfl; dsimp only [List.eraseIdx] at hS
  replace hS : Sep W (Own intEK (sv (vs8.getD 0 (none, 0, 0))) s.cells :: Own intEK (sv (vs8.getD 1 (none, 0, 0))) s.generations :: Own threadEK (sv (vs8.getD 2 (none, 0, 0))) s.threads :: _) _ := hS.part_open
  dsimp only [stateEK] at hS
  generalize vs8.getD 0 (none, 0, 0) = z0 at hS
  generalize vs8.getD 1 (none, 0, 0) = z1 at hS
  generalize vs8.getD 2 (none, 0, 0) = z2 at hS
  obtain ⟨gt, ot, mt, ct, rfl⟩ := hS.elt_form (q := 2) rfl hxt
  have hmt : mt = s.threads.length := hS.own_len (q := 2) (s := (some ⟨gt, ot, none⟩, mt, ct)) rfl
  replace hS := hS.set_form (q := 2) rfl hxt; dsimp only [List.set] at hS
  have hlc0 := cells_two hso
  have hlc : 2 ≤ (stepped s).cells.length := hlc0
  refine wp_skip ?_
  refine hK3 _ _ ?_
  refine ws fun K6 hK6 => ?_
  refine wl hF rfl rfl rfl (r_field fo32_4 (hF.ev rfl)) ?_; clear hF a; intro a hF
  refine wl hF rfl rfl rfl (r_load1 sc3 (hF.ev rfl) (hS.box (i := 3) rfl rfl)) ?_; clear hF a; intro a hF
  refine wl hF rfl rfl rfl (r_add (hF.ev rfl) ec) ?_; clear hF a; intro a hF
  refine wl hF rfl rfl rfl (r_field fo32_4 (hF.ev rfl)) ?_; clear hF a; intro a hF
  refine wl_store hF hS (i := 3) rfl sz3 (hF.ev rfl) (hF.ev rfl) rfl rfl ?_; intro w10 hS_; replace hS := hS_; clear hS_; dsimp only [List.set, Nat.reduceAdd] at hS
  refine wl_nil (hK6 _ _ ?_)
  refine ws fun K7 hK7 => ?_
  refine wl_mvs (A := [_]) hF rfl ?_; clear hF a; intro a hF
  replace hS := Sep.headp (A := [_, _, _, _, _, _]) (B := [_, _, _, _, _, _]) hS [3, 0, 1, 2, 4, 5] (by decide) rfl rfl
  refine wl_call hF rfl rfl rfl (r_call2 en34 (hF.ev rfl) (hF.ev rfl)) (l11Begin_c (s := stepped s) hp hlc hS) ?_; clear hF a; rintro v w11 a ⟨rfl, hS_⟩ hF; replace hS := hS_; clear hS_
  refine wl_nil (hK7 _ _ ?_)
  refine ws fun K8 hK8 => ?_
  refine wl hF rfl rfl rfl (r_loadn ag32 (hF.ev rfl) (hS.box_rd (i := 0) rfl) sz32) ?_; clear hF a; intro a hF
  refine wl_storew hF hS (i := 4) rfl (hF.ev rfl) (hF.ev rfl) sz32 rfl rfl ?_; intro w12 hS_; replace hS := hS_; clear hS_; dsimp only [List.set, Nat.reduceAdd] at hS
  refine wl_mvs (A := [_]) hF rfl ?_; clear hF a; intro a hF
  refine wl_nil (hK8 _ _ ?_)
  refine wp_ret ?_
  try simp only [Exit.then, Exit.inBlock, ↓reduceIte]
  have e : stepOf isB beginS s (p : Int) = (stepBy beginS (stepped s) p, true) := if_pos c22
  refine ret2c rfl ag32 hF hS (i := 4) rfl sz32 rfl rfl ⟨[z0, z1, (some ⟨gt, ot, none⟩, mt, ct)], ?_, ?_⟩
  · rw [e] <;> rfl
  · rw [e]; exact hS.part_of [1, 2, 3] (by decide) rfl

end Go.Proofs.YtifhfodphoeeoaaGreat.Wk
