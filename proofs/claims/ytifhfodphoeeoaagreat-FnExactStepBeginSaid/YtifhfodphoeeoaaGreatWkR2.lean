/- Walks: what reads a state: IsCurrent, LoadField. -/
import Derived.Test.YtifhfodphoeeoaaGreatChecked
import Derived.Test.YtifhfodphoeeoaaGreatWkR1
namespace Go.Proofs.YtifhfodphoeeoaaGreat.Wk
open Go Go.RowKit Sl
set_option linter.unusedVariables false
set_option linter.unusedSimpArgs false
set_option maxRecDepth 20000

theorem r_nilCheck {P : Program} {ρ : Operand → Value} {w : World} {D : Option Tmp} {ty : TypeId} {ps : String} {af : Array Edge} {gd : Option (Nat × Bool)} {x : Operand} {g o : Nat} (hx : ρ x = .pointer (some ⟨g, o, none⟩)) :
    (execOp ρ ⟨D, .nilCheck x, ty, ps, af, gd⟩).run P w = .ok (.value (.pointer (some ⟨g, o, none⟩))) w := by simp [execOp, hx, go_sem]
section
variable {s : State} {h : Int}
theorem indexOf_pos (hi : isHandle h = true) : 0 ≤ indexOf h := by
  have := isHandle_iff.1 hi
  unfold indexOf; rw [if_pos hi]; omega
theorem state_thread {p : Int} (hs : stateOk s = true) (h0 : 0 ≤ p) (h1 : p < s.threads.length) : threadOk s.config (at0 s.threads p) = true := by
  unfold stateOk at hs; simp only [Bool.and_eq_true] at hs
  exact List.all_eq_true.1 hs.1.1.1.2 _ (at0_mem h0 h1)
theorem thread_snap {c : Config} {t : Thread} (h : threadOk c t = true) : 0 ≤ t.snapshot := by
  unfold threadOk at h; simp only [Bool.and_eq_true, decide_eq_true_eq] at h
  have := h.2.1; omega
def isCurrent (s : State) (h : Int) : Bool := stateOk s && (isHandle h && decide (indexOf h < s.config.capacity)) && decide (at0 s.generations (indexOf h) = genOf h)
def loadField (s : State) (h f : Int) : Int × Bool := if isCurrent s h = true ∧ (0 ≤ f ∧ f ≤ 2) then (at0 s.cells (nodeCell s.config (indexOf h) f), true) else (0, false)
def refusalOf (s : State) (p : Int) (o : Sl.Op) : Int :=
  if stateOk s = true ∧ (0 ≤ p ∧ p ≤ s.threads.length - 1) ∧ o.ok then
    if s.config.keys ≤ o.key then 4 else if o.kind = 1 ∧ ¬ (at0 s.threads p).snapshot = 0 then 6
    else if (o.kind = 2 ∨ o.kind = 4) ∧ (at0 s.threads p).snapshot = 0 then 3 else 0
  else 0
def walkKey (t : Thread) : Int := if t.op.kind = 2 ∨ (t.work.length : Int) = 0 then t.op.key else (at0 t.work 0).key
def walkKeyOf (s : State) (p : Int) : Int := if isRunning s p = true then walkKey (at0 s.threads p) else -1
end

set_option maxHeartbeats 4000000 in
set_option maxRecDepth 20000 in
theorem current_c {W : World} {s : Sl.State} {cs : List Value} (hm : stateEK.K W s cs) {g : Nat} (hc : ∀ j u, cs[j]? = some u → W.cell? ⟨g, 0 + j, none⟩ = some u) (hs : stateOk s = true) {p : Int} (hp : int64 p) : Calls Tryz.prog 145 #[.pointer (some ⟨g, 0, none⟩), vi p] W (Ret fun v w' => v = .bool (isNode s.config p && decide (at0 s.generations (indexOf p) = genOf p)) ∧ Below W.heap.size W w') := by
  refine calls_fr Tryz.func145 rfl Tryz.ntmps145 rfl ?_
  intro a hF
  have hS := Sep.refl W
  obtain ⟨v0, v1, v2, rfl, r0, r1, r2⟩ := hm
  obtain ⟨A_a, q_a, rfl, hq_a, hn_a⟩ := r0.sl; unfold maxLen at hn_a
  obtain ⟨A_b, q_b, rfl, hq_b, hn_b⟩ := r1.sl; unfold maxLen at hn_b
  obtain ⟨A_c, q_c, rfl, hq_c, hn_c⟩ := r2.sl; unfold maxLen at hn_c
  obtain ⟨hok, hl1, hl2, hl3⟩ := stateOk_shape (hs)
  have hb := hok; unfold Config.ok at hb
  have hcc := cellCount_eq hok
  refine ws fun K1 hK1 => ?_
  refine wl_mvs (A := [_]) hF rfl ?_; clear hF a; intro a hF
  refine wl_nil (hK1 _ _ ?_)
  refine wp_seq_k fun K2 hK2 => ?_
  refine wp_region_calm (by kernel_rfl) (by kernel_rfl) ?_
  refine wq_mvs (A := [_]) hF rfl ?_; clear hF a; intro a hF
  refine wq hF rfl rfl rfl (fun w_ hB_ => r_nilCheck (hF.ev rfl)) ?_; clear hF a; intro a hF
  refine wq hF rfl rfl rfl (fun w_ hB_ => r_field fo32_0 (hF.ev rfl)) ?_; clear hF a; intro a hF
  refine wq hF rfl rfl rfl (fun w_ hB_ => r_loadn ag29 (hF.ev rfl) (fun j_ u_ hu_ => cellB (hS.ext hB_).old ((subcells (vs := [_, _, _, _, _, _]) hc 0 6 rfl) j_ u_ hu_)) sz29) ?_; clear hF a; intro a hF
  refine wq_mvs (A := [_]) hF rfl ?_; clear hF a; intro a hF
  refine wq_call hF rfl rfl rfl (fun w_ hB_ => r_call2 en158 (hF.ev rfl) (hF.ev rfl)) (fun w_ hB_ => isNode_c hp) ?_; clear hF a; intro a hF
  refine wq_mvs (A := [_]) hF rfl ?_; clear hF a; intro a hF
  apply wq_and (A := [_, _, _, _, _, _, _, _, _, _, _, _]) (pk := 23) hF (tc := 11) rfl
  ·
    intro hg11 a hF; try simp only [zb1, zb2, zb3, zb4, zb5, zb6, zb7, zb8] at hg11
    have hg11b := hg11; unfold isNode at hg11b; simp only [Bool.and_eq_true, decide_eq_true_eq] at hg11b
    have hi0 := indexOf_pos hg11b.1
    refine wq_mvs (A := [_]) hF rfl ?_; clear hF a; intro a hF
    refine wq_take hF rfl rfl rfl rfl ?_
    refine wq hF rfl rfl rfl (fun w_ hB_ => r_nilCheck (hF.ev rfl)) ?_; clear hF a; intro a hF
    refine wq_take hF rfl rfl rfl rfl ?_
    refine wq hF rfl rfl rfl (fun w_ hB_ => r_field fo32_2 (hF.ev rfl)) ?_; clear hF a; intro a hF
    refine wq_take hF rfl rfl rfl rfl ?_
    refine wq hF rfl rfl rfl (fun w_ hB_ => r_load1 sc24 (hF.ev rfl) (cellB (hS.ext hB_).old (hc 7 _ rfl))) ?_; clear hF a; intro a hF
    refine wq_mvs (A := [_]) hF rfl ?_; clear hF a; intro a hF
    refine wq_take hF rfl rfl rfl rfl ?_
    refine wq_call hF rfl rfl rfl (fun w_ hB_ => r_call1 en107 (hF.ev rfl)) (fun w_ hB_ => implIndexOf_c hp) ?_; clear hF a; intro a hF
    refine wq_take hF rfl rfl rfl rfl ?_
    obtain ⟨g18, o18, m18, q18, hv18, hm18, hl18, hc18⟩ := Rd.atF (r1) (a := a) (X := .tmp 17) (hF.ev rfl) (by omega) (by omega)
    refine wq hF rfl rfl rfl (fun w_ hB_ => r_index sl24 ((hF.ev rfl).trans hv18) (hF.ev rfl) (by omega) (by first | omega | (simp at hm18; omega))) ?_; clear hF a; intro a hF
    refine wq_take hF rfl rfl rfl rfl ?_
    refine wq hF rfl rfl rfl (fun w_ hB_ => r_load1 sc3 (hF.ev rfl) (cellB (hS.ext hB_).old (hc18 0 _ rfl))) ?_; clear hF a; intro a hF
    refine wq_mvs (A := [_]) hF rfl ?_; clear hF a; intro a hF
    refine wq_take hF rfl rfl rfl rfl ?_
    refine wq_call hF rfl rfl rfl (fun w_ hB_ => r_call1 en180 (hF.ev rfl)) (fun w_ hB_ => implGenOf_c hp) ?_; clear hF a; intro a hF
    refine wq_take hF rfl rfl rfl rfl ?_
    refine wq hF rfl rfl rfl (fun w_ hB_ => r_eql (hF.ev rfl) (hF.ev rfl)) ?_; clear hF a; intro a hF
    refine wq hF rfl rfl rfl (fun w_ hB_ => r_pick_t (hF.ev rfl) (hF.ev rfl)) ?_; clear hF a; intro a hF
    exact wpQuiet_nil ((Fr.pre (A := [_, _, _, _, _, _, _, _, _, _, _, _]) hF rfl).keep hF (t := 23) rfl)
  ·
    intro hg11 a hF; try simp only [zb1, zb2, zb3, zb4, zb5, zb6, zb7, zb8] at hg11
    refine wq_mvs (A := [_, _, _, _, _, _, _, _, _, _, _]) hF rfl ?_; clear hF a; intro a hF
    refine wq hF rfl rfl rfl (fun w_ hB_ => r_pick_f (hF.ev rfl) ec) ?_; clear hF a; intro a hF
    exact wpQuiet_nil ((Fr.pre (A := [_, _, _, _, _, _, _, _, _, _, _, _]) hF rfl).keep hF (t := 23) rfl)
  clear hF a; intro a hF
  refine wq_mvs (A := [_]) hF rfl ?_; clear hF a; intro a hF
  refine wpQuiet_nil ?_; intro w2 hB_; replace hS := hS.ext hB_; clear hB_
  refine hK2 _ _ ?_
  refine wp_ret ?_
  try simp only [Exit.then, Exit.inBlock, ↓reduceIte]
  exact ret1 rfl hF rfl ⟨rfl, hS.old⟩

end Go.Proofs.YtifhfodphoeeoaaGreat.Wk
