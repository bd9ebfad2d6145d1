/- Walks: stepIf. -/
import Derived.Test.YtifhfodphoeeoaaGreatChecked
import Derived.Test.YtifhfodphoeeoaaGreatWkSt2
import Derived.Test.YtifhfodphoeeoaaGreatWkSe
import Derived.Test.YtifhfodphoeeoaaGreatFactsC
namespace Go.Proofs.YtifhfodphoeeoaaGreat.Wk
open Go Go.RowKit Sl
set_option linter.unusedVariables false
set_option linter.unusedSimpArgs false
set_option maxRecDepth 20000

def stepI (isf : Int → Bool) (stf : Sl.State → Nat → Sl.State) (s : Sl.State) (p : Int) : Sl.State × Bool := if isRunning s p = true ∧ isf (at0 s.threads p).pc = true then (stepped (stf s p.toNat), true) else (s, false)

set_option maxHeartbeats 4000000 in
set_option maxRecDepth 20000 in
theorem stepIf_c {W : World} {s : Sl.State} {cs : List Value} {p : Int} (hm : stateEK.K W s cs) (hw : s.wf) (hz : (s.size : Int) ≤ 1048576) (hp0 : int64 p) {fi fs : FuncId} {ci cf : Array Value} {isf : Int → Bool} {stf : Sl.State → Nat → Sl.State} (hei : enterB Tryz.prog fi = true) (hef : enterB Tryz.prog fs = true) (hi : ∀ (w : World) (n : Int), Below W.heap.size W w → Calls Tryz.prog fi (#[vi n] ++ ci) w (Ret fun v w' => v = .bool (isf n) ∧ Below w.heap.size w w')) (hf : ∀ (p' : Nat) (z0 z1 : Slv) (gt ot mt ct g : Nat) (l : List Res) (w : World), stateOk s = true → p = (p' : Int) → p' < s.threads.length → mt = s.threads.length → isf (at0 s.threads p).pc = true → Sep W (Box g ((s).encv (sv z0) (sv z1) (.slice (some ⟨gt, ot, none⟩) mt ct)) :: Own intEK (sv z0) (s).cells :: Own intEK (sv z1) (s).generations :: Own threadEK (.slice (some ⟨gt, ot, none⟩) mt ct) (s.threads.set p' (at0 s.threads p)) :: l) w → Calls Tryz.prog fs (#[.agg #[.pointer (some ⟨g, 0, none⟩), .pointer (some ⟨gt, ot + p' * 19, none⟩), vi (p' : Int)]] ++ cf) w (Ret fun v w' => v = .tuple #[] ∧ Sep W (Box g ((stf s p').encv (sv z0) (sv z1) (.slice (some ⟨gt, ot, none⟩) mt ct)) :: Own intEK (sv z0) (stf s p').cells :: Own intEK (sv z1) (stf s p').generations :: Own threadEK (.slice (some ⟨gt, ot, none⟩) mt ct) (stf s p').threads :: l) w')) : Calls Tryz.prog 38 #[.agg cs.toArray, vi p, .func (.func fi) #[] ci, .func (.func fs) #[] cf] W (Ret (Mk W (fun vs => .tuple #[.agg (stateEK.cells (stepI isf stf s p).1 vs).toArray, .bool (stepI isf stf s p).2]) (fun vs => [Part stateEK (stepI isf stf s p).1 vs]))) := by
  refine calls_fr Tryz.func38 rfl Tryz.ntmps38 rfl ?_
  intro a hF
  have hS := Sep.refl W
  obtain ⟨v0, v1, v2, rfl, r0, r1, r2⟩ := hm
  have hm : stateEK.K W s (s.encv v0 v1 v2) := ⟨_, _, _, rfl, r0, r1, r2⟩
  obtain ⟨A_a, q_a, rfl, hq_a, hn_a⟩ := r0.sl; unfold maxLen at hn_a
  obtain ⟨A_b, q_b, rfl, hq_b, hn_b⟩ := r1.sl; unfold maxLen at hn_b
  obtain ⟨A_c, q_c, rfl, hq_c, hn_c⟩ := r2.sl; unfold maxLen at hn_c
  refine ws fun K1 hK1 => ?_
  refine wl_box (cs := [_, _, _, _, _, _, _, _, _, _, _, _, _]) hF hS rfl (hF.ev rfl) rfl ?_; clear hF a; intro g1 w1 a hS_ hB_ hF; replace hS := hS_; clear hS_ hB_
  refine wl_alloc hF hS rfl zr32 ?_; clear hF a; intro g2 w2 a hS_ hB_ hF; replace hS := hS_; clear hS_ hB_
  refine wl_mvs (A := [_]) hF rfl ?_; clear hF a; intro a hF
  refine wl_nil (hK1 _ _ ?_)
  refine ws fun K2 hK2 => ?_
  refine wl hF rfl rfl rfl (r_loadn ag32 (hF.ev rfl) (hS.box_rd (i := 1) rfl) sz32) ?_; clear hF a; intro a hF
  refine wl_mk hF hS rfl rfl rfl (r_call1 en73 (hF.ev rfl)) (copyState_c (hS.k hm) (by omega)) ?_; clear hF a; rintro vs12 w3 a hS_ hF; replace hS := hS_; clear hS_; dsimp only [List.cons_append, List.nil_append] at hS
  refine wl_alloc hF hS rfl zr32 ?_; clear hF a; intro g3 w4 a hS_ hB_ hF; replace hS := hS_; clear hS_ hB_
  refine wl_storew hF hS (i := 0) rfl (hF.ev rfl) (hF.ev rfl) sz32 rfl rfl ?_; intro w5 hS_; replace hS := hS_; clear hS_; dsimp only [List.set, Nat.reduceAdd] at hS
  refine wl_nil (hK2 _ _ ?_)
  refine wp_seq_k fun K3 hK3 => ?_
  refine ws fun K4 hK4 => ?_
  refine wl hF rfl rfl rfl (r_loadn ag32 (hF.ev rfl) (hS.box_rd (i := 3) rfl) sz32) ?_; clear hF a; intro a hF
  refine wl_mvs (A := [_]) hF rfl ?_; clear hF a; intro a hF
  refine wl_call hF rfl rfl rfl (r_call2 en74 (hF.ev rfl) (hF.ev rfl)) (implIsRunning_c (hS.k hm) hw hz hp0) ?_; clear hF a; rintro v w6 a ⟨rfl, hB_⟩ hF; replace hS := hS.ext hB_; clear hB_
  refine wl hF rfl rfl rfl (r_not (hF.ev rfl)) ?_; clear hF a; intro a hF
  refine wl_mvs (A := [_]) hF rfl ?_; clear hF a; intro a hF
  apply wl_or (A := [_, _, _, _, _, _, _, _, _, _]) (pk := 27) hF hS (tc := 17) rfl
  ·
    intro hg17 a hF; try simp only [zb1, zb2, zb3, zb4, zb5, zb6, zb7, zb8] at hg17
    obtain ⟨hso_, hp1_⟩ := running_of hg17
    refine wl_mvs (A := [_]) hF rfl ?_; clear hF a; intro a hF
    refine wl_take hF rfl rfl rfl rfl ?_
    refine wl hF rfl rfl rfl (r_field fo32_3 (hF.ev rfl)) ?_; clear hF a; intro a hF
    refine wl_take hF rfl rfl rfl rfl ?_
    refine wl hF rfl rfl rfl (r_load1 sc30 (hF.ev rfl) (hS.box (i := 3) rfl rfl)) ?_; clear hF a; intro a hF
    refine wl_mvs (A := [_]) hF rfl ?_; clear hF a; intro a hF
    refine wl_take hF rfl rfl rfl rfl ?_
    obtain ⟨g22, o22, m22, q22, cs22, hv22, hm22, hl22, hk22, hz22, hc22⟩ := Rd.at (r2) (a := a) (X := .tmp 21) (hF.ev rfl) (by omega) (by omega)
    have hkk22 := hk22; obtain ⟨v22_0, v22_1, v22_2, v22_3, v22_4, rfl, r22_0, r22_1, r22_2, r22_3, r22_4⟩ := hk22
    refine wl hF rfl rfl rfl (r_index sl30 ((hF.ev rfl).trans hv22) (hF.ev rfl) (by omega) (by first | omega | (simp at hm22; omega))) ?_; clear hF a; intro a hF
    refine wl_take hF rfl rfl rfl rfl ?_
    refine wl hF rfl rfl rfl (r_field fo53_0 (hF.ev rfl)) ?_; clear hF a; intro a hF
    refine wl_take hF rfl rfl rfl rfl ?_
    refine wl hF rfl rfl rfl (r_load1 sc3 (hF.ev rfl) (cellB hS.old (hc22 0 _ rfl))) ?_; clear hF a; intro a hF
    refine wl_take hF rfl rfl rfl rfl ?_
    refine wl_call hF rfl rfl rfl (r_callv1 hei (hF.ev rfl) (hF.ev rfl)) (hi _ _ hS.old) ?_; clear hF a; rintro v w7 a ⟨rfl, hB_⟩ hF; replace hS := hS.ext hB_; clear hB_
    refine wl_take hF rfl rfl rfl rfl ?_
    refine wl hF rfl rfl rfl (r_not (hF.ev rfl)) ?_; clear hF a; intro a hF
    refine wl hF rfl rfl rfl (r_pick_f (hF.ev rfl) (hF.ev rfl)) ?_; clear hF a; intro a hF
    exact wl_nil ⟨rfl, (Fr.pre (A := [_, _, _, _, _, _, _, _, _, _]) hF rfl).keep hF (t := 27) rfl, hS⟩
  ·
    intro hg17 a hF; try simp only [zb1, zb2, zb3, zb4, zb5, zb6, zb7, zb8] at hg17
    refine wl_mvs (A := [_, _, _, _, _, _, _, _, _]) hF rfl ?_; clear hF a; intro a hF
    refine wl hF rfl rfl rfl (r_pick_t (hF.ev rfl) ec) ?_; clear hF a; intro a hF
    exact wl_nil ⟨rfl, (Fr.pre (A := [_, _, _, _, _, _, _, _, _, _]) hF rfl).keep hF (t := 27) rfl, hS⟩
  clear hF a hS; intro a w8 hF hS
  refine wl_nil (hK4 _ _ ?_)
  refine wc_fx (t := 27) hF rfl ?_ ?_ <;> clear hF <;> intro c27 hF <;> try simp only [zb1, zb2, zb3, zb4, zb5, zb6, zb7, zb8] at c27
  ·
    refine ws fun K5 hK5 => ?_
    refine wl hF rfl rfl rfl (r_loadn ag32 (hF.ev rfl) (hS.box_rd (i := 0) rfl) sz32) ?_; clear hF a; intro a hF
    refine wl_storew hF hS (i := 2) rfl (hF.ev rfl) (hF.ev rfl) sz32 rfl rfl ?_; intro w9 hS_; replace hS := hS_; clear hS_; dsimp only [List.set, Nat.reduceAdd] at hS
    refine wl_mvs (A := [_]) hF rfl ?_; clear hF a; intro a hF
    refine wl_nil (hK5 _ _ ?_)
    refine wp_ret ?_
    try simp only [Exit.then, Exit.inBlock, ↓reduceIte]
    have e : stepI isf stf s p = (s, false) := if_neg (fun h => by
      rcases c27 with c | c
      · rw [h.1] at c; cases c
      · rw [h.2] at c; cases c)
    refine ret2c rfl ag32 hF hS (i := 2) rfl sz32 rfl rfl ⟨vs12, ?_, ?_⟩
    · rw [e] <;> rfl
    · rw [e]; exact hS.pick [1] (by decide) rfl
  obtain ⟨hso, hp1⟩ := running_of c27.1
  obtain ⟨p, rfl⟩ : ∃ k : Nat, p = (k : Int) := ⟨p.toNat, by omega⟩
  have hp : p < s.threads.length := by omega
  have hxt := at0_nat hp
  replace hS := hS.pull (p := 1) rfl; dsimp only [List.eraseIdx] at hS
  replace hS : Sep W (Own intEK (sv (vs12.getD 0 (none, 0, 0))) s.cells :: Own intEK (sv (vs12.getD 1 (none, 0, 0))) s.generations :: Own threadEK (sv (vs12.getD 2 (none, 0, 0))) s.threads :: _) _ := hS.part_open
  dsimp only [stateEK] at hS
  generalize vs12.getD 0 (none, 0, 0) = z0 at hS
  generalize vs12.getD 1 (none, 0, 0) = z1 at hS
  generalize vs12.getD 2 (none, 0, 0) = z2 at hS
  obtain ⟨gt, ot, mt, ct, rfl⟩ := hS.elt_form (q := 2) rfl hxt
  have hmt : mt = s.threads.length := hS.own_len (q := 2) (s := (some ⟨gt, ot, none⟩, mt, ct)) rfl
  replace hS := hS.set_form (q := 2) rfl hxt; dsimp only [List.set] at hS
  refine wp_skip ?_
  refine hK3 _ _ ?_
  refine ws fun K6 hK6 => ?_
  refine wl_mvs (A := [_]) hF rfl ?_; clear hF a; intro a hF
  refine wl hF rfl rfl rfl (r_field fo32_3 (hF.ev rfl)) ?_; clear hF a; intro a hF
  refine wl hF rfl rfl rfl (r_load1 sc30 (hF.ev rfl) (hS.box (i := 3) rfl rfl)) ?_; clear hF a; intro a hF
  refine wl_mvs (A := [_]) hF rfl ?_; clear hF a; intro a hF
  refine wl hF rfl rfl rfl (r_index sl30 (hF.ev rfl) (hF.ev rfl) (by omega) (by first | omega | (dsimp only; omega))) ?_; clear hF a; intro a hF
  refine wl_mvs (A := [_]) hF rfl ?_; clear hF a; intro a hF
  refine wl hF rfl rfl rfl (r_build (bd63_0_1_2 _ _ _) ⟨rfl, (hF.ev rfl), rfl, (hF.ev rfl), rfl, (hF.ev rfl), trivial⟩) ?_; clear hF a; intro a hF
  replace hS := Sep.headp (A := [_, _, _, _, _, _]) (B := [_, _, _, _, _, _]) hS [3, 0, 1, 2, 4, 5] (by decide) rfl rfl
  refine wl_call hF rfl rfl rfl (r_callv1 hef (hF.ev rfl) (hF.ev rfl)) (hf p z0 z1 gt ot mt ct _ _ _ hso rfl hp hmt c27.2 hS) ?_; clear hF a; rintro v w10 a ⟨rfl, hS_⟩ hF; replace hS := hS_; clear hS_
  refine wl_nil (hK6 _ _ ?_)
  refine ws fun K7 hK7 => ?_
  refine wl hF rfl rfl rfl (r_field fo32_4 (hF.ev rfl)) ?_; clear hF a; intro a hF
  refine wl hF rfl rfl rfl (r_load1 sc3 (hF.ev rfl) (hS.box (i := 0) rfl rfl)) ?_; clear hF a; intro a hF
  refine wl hF rfl rfl rfl (r_add (hF.ev rfl) ec) ?_; clear hF a; intro a hF
  refine wl hF rfl rfl rfl (r_field fo32_4 (hF.ev rfl)) ?_; clear hF a; intro a hF
  refine wl_store hF hS (i := 0) rfl sz3 (hF.ev rfl) (hF.ev rfl) rfl rfl ?_; intro w11 hS_; replace hS := hS_; clear hS_; dsimp only [List.set, Nat.reduceAdd] at hS
  refine wl_nil (hK7 _ _ ?_)
  refine ws fun K8 hK8 => ?_
  refine wl hF rfl rfl rfl (r_loadn ag32 (hF.ev rfl) (hS.box_rd (i := 0) rfl) sz32) ?_; clear hF a; intro a hF
  refine wl_storew hF hS (i := 4) rfl (hF.ev rfl) (hF.ev rfl) sz32 rfl rfl ?_; intro w12 hS_; replace hS := hS_; clear hS_; dsimp only [List.set, Nat.reduceAdd] at hS
  refine wl_mvs (A := [_]) hF rfl ?_; clear hF a; intro a hF
  refine wl_nil (hK8 _ _ ?_)
  refine wp_ret ?_
  try simp only [Exit.then, Exit.inBlock, ↓reduceIte]
  have e : stepI isf stf s (p : Int) = (stepped (stf s p), true) := if_pos c27
  refine ret2c rfl ag32 hF hS (i := 4) rfl sz32 rfl rfl ⟨[z0, z1, (some ⟨gt, ot, none⟩, mt, ct)], ?_, ?_⟩
  · rw [e] <;> rfl
  · rw [e]; exact hS.part_of [1, 2, 3] (by decide) rfl

end Go.Proofs.YtifhfodphoeeoaaGreat.Wk
