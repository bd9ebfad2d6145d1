/- Walks: small changes of a state. -/
import Derived.Test.YtifhfodphoeeoaaGreatChecked
import Derived.Test.YtifhfodphoeeoaaGreatElt
import Derived.Test.YtifhfodphoeeoaaGreatWkR2
import Derived.Test.YtifhfodphoeeoaaGreatFactsC
namespace Go.Proofs.YtifhfodphoeeoaaGreat.Wk
open Go Go.RowKit Sl
set_option linter.unusedVariables false
set_option linter.unusedSimpArgs false
set_option maxRecDepth 20000

def putC (xs : List Int) (a v : Int) : List Int := if 0 ≤ a ∧ a < xs.length then xs.set a.toNat v else xs
def putN (xs : List Int) (a v n : Int) : Int := if (0 ≤ a ∧ a < xs.length) ∧ ¬ at0 xs a = v then IntKind.i64.wrap (n + 1) else n
def putS (s : Sl.State) (a v : Int) : Sl.State := { s with cells := putC s.cells a v, changes := putN s.cells a v s.changes }
def hitB (xs : List Int) (a u : Int) : Bool := decide (0 ≤ a ∧ a < xs.length) && decide (at0 xs a = u)
def swapS (s : Sl.State) (a u v : Int) : Sl.State := { s with cells := if hitB s.cells a u = true then putC s.cells a v else s.cells, changes := if hitB s.cells a u = true then putN s.cells a v s.changes else s.changes }
def loadC (xs : List Int) (a : Int) : Int := if 0 ≤ a ∧ a < xs.length then at0 xs a else 0
def curB (c : Config) (gs : List Int) (h : Int) : Bool := isNode c (unmarked h) && decide (at0 gs (indexOf (unmarked h)) = genOf (unmarked h))
def faultS (s : Sl.State) (h : Int) : Sl.State := { s with faults := if curB s.config s.generations h = true then s.faults else IntKind.i64.wrap (s.faults + 1) }
def cellOf (s : Sl.State) (h f : Int) : Int := if curB s.config s.generations h = true then nodeCell s.config (indexOf (unmarked h)) f else -1
def clearT (t : Sl.Thread) : Sl.Thread := { t with node := 0, prev := 0, curr := 0, next := 0, seen := 0, stamp := 0, at_ := 0, found := [] }
def endT (t : Sl.Thread) (code value : Int) : Sl.Thread := { clearT t with pc := 0, result := ⟨code, value⟩ }

set_option maxHeartbeats 4000000 in
set_option maxRecDepth 20000 in
theorem l9Put_c {W w : World} {l : List Res} {g : Nat} {v0 v1 v2 : Value} {s : Sl.State} {a_ v : Int} (hS : Sep W (Box g (s.encv v0 v1 v2) :: Own intEK v0 s.cells :: l) w) : Calls Tryz.prog 69 #[.pointer (some ⟨g, 0, none⟩), vi a_, vi v] w (Ret fun u w' => u = .tuple #[] ∧ Sep W (Box g ((putS s a_ v).encv v0 v1 v2) :: Own intEK v0 (putS s a_ v).cells :: l) w') := by
  refine calls_fr Tryz.func69 rfl Tryz.ntmps69 rfl ?_
  intro a hF
  obtain ⟨z0, rfl⟩ := hS.own_sv (q := 1) rfl
  have hl0 := hS.own_len (q := 1) rfl
  refine wp_seq_k fun K1 hK1 => ?_
  refine ws fun K2 hK2 => ?_
  refine wl_mvs (A := [_]) hF rfl ?_; clear hF a; intro a hF
  refine wl hF rfl rfl rfl (r_lss (hF.ev rfl) ec) ?_; clear hF a; intro a hF
  refine wl_mvs (A := [_]) hF rfl ?_; clear hF a; intro a hF
  apply wl_or (A := [_, _, _, _, _, _, _, _]) (pk := 16) hF hS (tc := 8) rfl
  ·
    intro hg8 a hF; try simp only [zb1, zb2, zb3, zb4, zb5, zb6, zb7, zb8] at hg8
    refine wl_mvs (A := [_, _]) hF rfl ?_; clear hF a; intro a hF
    refine wl_take hF rfl rfl rfl rfl ?_
    refine wl hF rfl rfl rfl (r_nilCheck (hF.ev rfl)) ?_; clear hF a; intro a hF
    refine wl_take hF rfl rfl rfl rfl ?_
    refine wl hF rfl rfl rfl (r_field fo32_1 (hF.ev rfl)) ?_; clear hF a; intro a hF
    refine wl_take hF rfl rfl rfl rfl ?_
    refine wl hF rfl rfl rfl (r_load1 sc24 (hF.ev rfl) (hS.box (i := 0) rfl rfl)) ?_; clear hF a; intro a hF
    refine wl_take hF rfl rfl rfl rfl ?_
    refine wl hF rfl rfl rfl (r_len ul24 (hF.ev rfl)) ?_; clear hF a; intro a hF
    refine wl_take hF rfl rfl rfl rfl ?_
    refine wl hF rfl rfl rfl (r_geq (hF.ev rfl) (hF.ev rfl)) ?_; clear hF a; intro a hF
    refine wl hF rfl rfl rfl (r_pick_f (hF.ev rfl) (hF.ev rfl)) ?_; clear hF a; intro a hF
    exact wl_nil ⟨rfl, (Fr.pre (A := [_, _, _, _, _, _, _, _]) hF rfl).keep hF (t := 16) rfl, hS⟩
  ·
    intro hg8 a hF; try simp only [zb1, zb2, zb3, zb4, zb5, zb6, zb7, zb8] at hg8
    refine wl_mvs (A := [_, _, _, _, _, _, _]) hF rfl ?_; clear hF a; intro a hF
    refine wl hF rfl rfl rfl (r_pick_t (hF.ev rfl) ec) ?_; clear hF a; intro a hF
    exact wl_nil ⟨rfl, (Fr.pre (A := [_, _, _, _, _, _, _, _]) hF rfl).keep hF (t := 16) rfl, hS⟩
  clear hF a hS; intro a w1 hF hS
  refine wl_nil (hK2 _ _ ?_)
  refine wc_fx (t := 16) hF rfl ?_ ?_ <;> clear hF <;> intro c16 hF <;> try simp only [zb1, zb2, zb3, zb4, zb5, zb6, zb7, zb8] at c16
  ·
    refine wp_ret ?_
    try simp only [Exit.then, Exit.inBlock, ↓reduceIte]
    first
      | (have e1 : putC s.cells a_ v = s.cells := if_neg (by omega); have e2 : putN s.cells a_ v s.changes = s.changes := if_neg (by omega); refine ret0 rfl hF ⟨rfl, ?_⟩; unfold putS; rw [e1, e2]; exact hS)
      | (have e1 : putC s.cells a_ v = _ := if_pos (by omega); have e2 : putN s.cells a_ v s.changes = s.changes := if_neg (fun h => h.2 c25); refine ret0 rfl hF ⟨rfl, ?_⟩; unfold putS; rw [e1, e2]; exact hS)
      | (have e1 : putC s.cells a_ v = _ := if_pos (by omega); have e2 : putN s.cells a_ v s.changes = _ := if_pos ⟨by omega, c25⟩; refine ret0 rfl hF ⟨rfl, ?_⟩; unfold putS; rw [e1, e2]; exact hS)
  refine wp_skip ?_
  refine hK1 _ _ ?_
  refine wp_seq_k fun K3 hK3 => ?_
  refine ws fun K4 hK4 => ?_
  refine wl_mvs (A := [_]) hF rfl ?_; clear hF a; intro a hF
  refine wl hF rfl rfl rfl (r_nilCheck (hF.ev rfl)) ?_; clear hF a; intro a hF
  refine wl hF rfl rfl rfl (r_field fo32_1 (hF.ev rfl)) ?_; clear hF a; intro a hF
  refine wl hF rfl rfl rfl (r_load1 sc24 (hF.ev rfl) (hS.box (i := 0) rfl rfl)) ?_; clear hF a; intro a hF
  refine wl_mvs (A := [_]) hF rfl ?_; clear hF a; intro a hF
  obtain ⟨g22, o22, m22, q22, hv22, hm22, hl22, hc22⟩ := Rd.atF ((hS.own_rd (i := 1) rfl)) (a := a) (X := .tmp 21) (hF.ev rfl) (by omega) (by omega)
  refine wl hF rfl rfl rfl (r_index sl24 ((hF.ev rfl).trans hv22) (hF.ev rfl) (by omega) (by first | omega | (simp at hm22; omega))) ?_; clear hF a; intro a hF
  refine wl hF rfl rfl rfl (r_load1 sc3 (hF.ev rfl) (hc22 0 _ rfl)) ?_; clear hF a; intro a hF
  refine wl_mvs (A := [_]) hF rfl ?_; clear hF a; intro a hF
  refine wl hF rfl rfl rfl (r_neq (hF.ev rfl) (hF.ev rfl)) ?_; clear hF a; intro a hF
  refine wl_nil (hK4 _ _ ?_)
  refine wc_fx (t := 25) hF rfl ?_ ?_ <;> clear hF <;> intro c25 hF <;> try simp only [zb1, zb2, zb3, zb4, zb5, zb6, zb7, zb8] at c25
  ·
    refine wp_region_lit ?_
    refine wl_mvs (A := [_, _]) hF rfl ?_; clear hF a; intro a hF
    refine wl hF rfl rfl rfl (r_nilCheck (hF.ev rfl)) ?_; clear hF a; intro a hF
    refine wl hF rfl rfl rfl (r_field fo32_5 (hF.ev rfl)) ?_; clear hF a; intro a hF
    refine wl hF rfl rfl rfl (r_load1 sc3 (hF.ev rfl) (hS.box (i := 0) rfl rfl)) ?_; clear hF a; intro a hF
    refine wl hF rfl rfl rfl (r_add (hF.ev rfl) ec) ?_; clear hF a; intro a hF
    refine wl hF rfl rfl rfl (r_nilCheck (hF.ev rfl)) ?_; clear hF a; intro a hF
    refine wl hF rfl rfl rfl (r_field fo32_5 (hF.ev rfl)) ?_; clear hF a; intro a hF
    refine wl_store hF hS (i := 0) rfl sz3 (hF.ev rfl) (hF.ev rfl) rfl rfl ?_; intro w2 hS_; replace hS := hS_; clear hS_; dsimp only [List.set, Nat.reduceAdd] at hS
    refine wl_nil (hK3 _ _ ?_)
    refine wp_region_lit ?_
    refine wl_mvs (A := [_]) hF rfl ?_; clear hF a; intro a hF
    refine wl hF rfl rfl rfl (r_nilCheck (hF.ev rfl)) ?_; clear hF a; intro a hF
    refine wl hF rfl rfl rfl (r_field fo32_1 (hF.ev rfl)) ?_; clear hF a; intro a hF
    refine wl hF rfl rfl rfl (r_load1 sc24 (hF.ev rfl) (hS.box (i := 0) rfl rfl)) ?_; clear hF a; intro a hF
    refine wl_mvs (A := [_, _]) hF rfl ?_; clear hF a; intro a hF
    obtain ⟨g40, o40, m40, q40, hv40, hm40, hl40, hc40⟩ := Rd.atF ((hS.own_rd (i := 1) rfl)) (a := a) (X := .tmp 38) (hF.ev rfl) (by omega) (by omega)
    refine wl hF rfl rfl rfl (r_index sl24 ((hF.ev rfl).trans hv40) (hF.ev rfl) (by omega) (by first | omega | (simp at hm40; omega))) ?_; clear hF a; intro a hF
    refine wl_istore (q := 1) hF hS rfl hv40 (by omega) (by omega) sz3 (hF.ev rfl) rfl (hF.ev rfl) ?_; intro w3 hS_; replace hS := hS_; clear hS_; dsimp only [List.set] at hS
    refine wl_nil ?_
    try simp only [Exit.then, Exit.inBlock, ↓reduceIte]
    first
      | (have e1 : putC s.cells a_ v = s.cells := if_neg (by omega); have e2 : putN s.cells a_ v s.changes = s.changes := if_neg (by omega); refine ret0n rfl hF ⟨rfl, ?_⟩; unfold putS; rw [e1, e2]; exact hS)
      | (have e1 : putC s.cells a_ v = _ := if_pos (by omega); have e2 : putN s.cells a_ v s.changes = s.changes := if_neg (fun h => h.2 c25); refine ret0n rfl hF ⟨rfl, ?_⟩; unfold putS; rw [e1, e2]; exact hS)
      | (have e1 : putC s.cells a_ v = _ := if_pos (by omega); have e2 : putN s.cells a_ v s.changes = _ := if_pos ⟨by omega, c25⟩; refine ret0n rfl hF ⟨rfl, ?_⟩; unfold putS; rw [e1, e2]; exact hS)
  refine wp_skip ?_
  refine hK3 _ _ ?_
  refine wp_region_lit ?_
  refine wl_mvs (A := [_]) hF rfl ?_; clear hF a; intro a hF
  refine wl hF rfl rfl rfl (r_nilCheck (hF.ev rfl)) ?_; clear hF a; intro a hF
  refine wl hF rfl rfl rfl (r_field fo32_1 (hF.ev rfl)) ?_; clear hF a; intro a hF
  refine wl hF rfl rfl rfl (r_load1 sc24 (hF.ev rfl) (hS.box (i := 0) rfl rfl)) ?_; clear hF a; intro a hF
  refine wl_mvs (A := [_, _]) hF rfl ?_; clear hF a; intro a hF
  obtain ⟨g40, o40, m40, q40, hv40, hm40, hl40, hc40⟩ := Rd.atF ((hS.own_rd (i := 1) rfl)) (a := a) (X := .tmp 38) (hF.ev rfl) (by omega) (by omega)
  refine wl hF rfl rfl rfl (r_index sl24 ((hF.ev rfl).trans hv40) (hF.ev rfl) (by omega) (by first | omega | (simp at hm40; omega))) ?_; clear hF a; intro a hF
  refine wl_istore (q := 1) hF hS rfl hv40 (by omega) (by omega) sz3 (hF.ev rfl) rfl (hF.ev rfl) ?_; intro w4 hS_; replace hS := hS_; clear hS_; dsimp only [List.set] at hS
  refine wl_nil ?_
  try simp only [Exit.then, Exit.inBlock, ↓reduceIte]
  first
    | (have e1 : putC s.cells a_ v = s.cells := if_neg (by omega); have e2 : putN s.cells a_ v s.changes = s.changes := if_neg (by omega); refine ret0n rfl hF ⟨rfl, ?_⟩; unfold putS; rw [e1, e2]; exact hS)
    | (have e1 : putC s.cells a_ v = _ := if_pos (by omega); have e2 : putN s.cells a_ v s.changes = s.changes := if_neg (fun h => h.2 c25); refine ret0n rfl hF ⟨rfl, ?_⟩; unfold putS; rw [e1, e2]; exact hS)
    | (have e1 : putC s.cells a_ v = _ := if_pos (by omega); have e2 : putN s.cells a_ v s.changes = _ := if_pos ⟨by omega, c25⟩; refine ret0n rfl hF ⟨rfl, ?_⟩; unfold putS; rw [e1, e2]; exact hS)

set_option maxHeartbeats 4000000 in
set_option maxRecDepth 20000 in
theorem l9Swap_c {W w : World} {l : List Res} {g : Nat} {v0 v1 v2 : Value} {s : Sl.State} {a_ u_ v : Int} (hS : Sep W (Box g (s.encv v0 v1 v2) :: Own intEK v0 s.cells :: l) w) : Calls Tryz.prog 70 #[.pointer (some ⟨g, 0, none⟩), vi a_, vi u_, vi v] w (Ret fun r w' => r = .bool (hitB s.cells a_ u_) ∧ Sep W (Box g ((swapS s a_ u_ v).encv v0 v1 v2) :: Own intEK v0 (swapS s a_ u_ v).cells :: l) w') := by
  refine calls_fr Tryz.func70 rfl Tryz.ntmps70 rfl ?_
  intro a hF
  obtain ⟨z0, rfl⟩ := hS.own_sv (q := 1) rfl
  have hl0 := hS.own_len (q := 1) rfl
  refine ws fun K1 hK1 => ?_
  refine wl_mvs (A := [_]) hF rfl ?_; clear hF a; intro a hF
  refine wl_nil (hK1 _ _ ?_)
  refine wp_seq_k fun K2 hK2 => ?_
  refine ws fun K3 hK3 => ?_
  refine wl_mvs (A := [_]) hF rfl ?_; clear hF a; intro a hF
  refine wl hF rfl rfl rfl (r_lss (hF.ev rfl) ec) ?_; clear hF a; intro a hF
  refine wl_mvs (A := [_]) hF rfl ?_; clear hF a; intro a hF
  apply wl_or (A := [_, _, _, _, _, _, _, _]) (pk := 19) hF hS (tc := 11) rfl
  ·
    intro hg11 a hF; try simp only [zb1, zb2, zb3, zb4, zb5, zb6, zb7, zb8] at hg11
    refine wl_mvs (A := [_, _]) hF rfl ?_; clear hF a; intro a hF
    refine wl_take hF rfl rfl rfl rfl ?_
    refine wl hF rfl rfl rfl (r_nilCheck (hF.ev rfl)) ?_; clear hF a; intro a hF
    refine wl_take hF rfl rfl rfl rfl ?_
    refine wl hF rfl rfl rfl (r_field fo32_1 (hF.ev rfl)) ?_; clear hF a; intro a hF
    refine wl_take hF rfl rfl rfl rfl ?_
    refine wl hF rfl rfl rfl (r_load1 sc24 (hF.ev rfl) (hS.box (i := 0) rfl rfl)) ?_; clear hF a; intro a hF
    refine wl_take hF rfl rfl rfl rfl ?_
    refine wl hF rfl rfl rfl (r_len ul24 (hF.ev rfl)) ?_; clear hF a; intro a hF
    refine wl_take hF rfl rfl rfl rfl ?_
    refine wl hF rfl rfl rfl (r_geq (hF.ev rfl) (hF.ev rfl)) ?_; clear hF a; intro a hF
    refine wl hF rfl rfl rfl (r_pick_f (hF.ev rfl) (hF.ev rfl)) ?_; clear hF a; intro a hF
    exact wl_nil ⟨rfl, (Fr.pre (A := [_, _, _, _, _, _, _, _]) hF rfl).keep hF (t := 19) rfl, hS⟩
  ·
    intro hg11 a hF; try simp only [zb1, zb2, zb3, zb4, zb5, zb6, zb7, zb8] at hg11
    refine wl_mvs (A := [_, _, _, _, _, _, _]) hF rfl ?_; clear hF a; intro a hF
    refine wl hF rfl rfl rfl (r_pick_t (hF.ev rfl) ec) ?_; clear hF a; intro a hF
    exact wl_nil ⟨rfl, (Fr.pre (A := [_, _, _, _, _, _, _, _]) hF rfl).keep hF (t := 19) rfl, hS⟩
  clear hF a hS; intro a w1 hF hS
  refine wl_mvs (A := [_]) hF rfl ?_; clear hF a; intro a hF
  apply wl_or (A := [_, _, _, _, _, _, _, _, _, _]) (pk := 30) hF hS (tc := 20) rfl
  ·
    intro hg20 a hF; try simp only [zb1, zb2, zb3, zb4, zb5, zb6, zb7, zb8] at hg20
    refine wl_mvs (A := [_]) hF rfl ?_; clear hF a; intro a hF
    refine wl_take hF rfl rfl rfl rfl ?_
    refine wl hF rfl rfl rfl (r_nilCheck (hF.ev rfl)) ?_; clear hF a; intro a hF
    refine wl_take hF rfl rfl rfl rfl ?_
    refine wl hF rfl rfl rfl (r_field fo32_1 (hF.ev rfl)) ?_; clear hF a; intro a hF
    refine wl_take hF rfl rfl rfl rfl ?_
    refine wl hF rfl rfl rfl (r_load1 sc24 (hF.ev rfl) (hS.box (i := 0) rfl rfl)) ?_; clear hF a; intro a hF
    refine wl_mvs (A := [_]) hF rfl ?_; clear hF a; intro a hF
    refine wl_take hF rfl rfl rfl rfl ?_
    obtain ⟨g26, o26, m26, q26, hv26, hm26, hl26, hc26⟩ := Rd.atF ((hS.own_rd (i := 1) rfl)) (a := a) (X := .tmp 25) (hF.ev rfl) (by omega) (by omega)
    refine wl hF rfl rfl rfl (r_index sl24 ((hF.ev rfl).trans hv26) (hF.ev rfl) (by omega) (by first | omega | (simp at hm26; omega))) ?_; clear hF a; intro a hF
    refine wl_take hF rfl rfl rfl rfl ?_
    refine wl hF rfl rfl rfl (r_load1 sc3 (hF.ev rfl) (hc26 0 _ rfl)) ?_; clear hF a; intro a hF
    refine wl_mvs (A := [_]) hF rfl ?_; clear hF a; intro a hF
    refine wl_take hF rfl rfl rfl rfl ?_
    refine wl hF rfl rfl rfl (r_neq (hF.ev rfl) (hF.ev rfl)) ?_; clear hF a; intro a hF
    refine wl hF rfl rfl rfl (r_pick_f (hF.ev rfl) (hF.ev rfl)) ?_; clear hF a; intro a hF
    exact wl_nil ⟨rfl, (Fr.pre (A := [_, _, _, _, _, _, _, _, _, _]) hF rfl).keep hF (t := 30) rfl, hS⟩
  ·
    intro hg20 a hF; try simp only [zb1, zb2, zb3, zb4, zb5, zb6, zb7, zb8] at hg20
    refine wl_mvs (A := [_, _, _, _, _, _, _, _, _]) hF rfl ?_; clear hF a; intro a hF
    refine wl hF rfl rfl rfl (r_pick_t (hF.ev rfl) ec) ?_; clear hF a; intro a hF
    exact wl_nil ⟨rfl, (Fr.pre (A := [_, _, _, _, _, _, _, _, _, _]) hF rfl).keep hF (t := 30) rfl, hS⟩
  clear hF a hS; intro a w2 hF hS
  refine wl_nil (hK3 _ _ ?_)
  refine wc_fx (t := 30) hF rfl ?_ ?_ <;> clear hF <;> intro c30 hF <;> try simp only [zb1, zb2, zb3, zb4, zb5, zb6, zb7, zb8] at c30
  ·
    refine ws fun K4 hK4 => ?_
    refine wl_mvs (A := [_]) hF rfl ?_; clear hF a; intro a hF
    refine wl_nil (hK4 _ _ ?_)
    refine wp_ret ?_
    try simp only [Exit.then, Exit.inBlock, ↓reduceIte]
    first
      | (have e : ¬ hitB s.cells a_ u_ = true := fun h => by unfold hitB at h; simp only [Bool.and_eq_true, decide_eq_true_eq] at h; rcases c30 with c | c; omega; exact c h.2
         refine ret1 rfl hF rfl ⟨congrArg Value.bool (Eq.symm (by simpa using e)), ?_⟩; unfold swapS; rw [if_neg e, if_neg e]; exact hS)
      | (have e : hitB s.cells a_ u_ = true := by unfold hitB; simp only [Bool.and_eq_true, decide_eq_true_eq]; exact ⟨by omega, c30.2⟩
         refine ret1 rfl hF rfl ⟨congrArg Value.bool e.symm, ?_⟩; unfold swapS; rw [if_pos e, if_pos e]; exact hS)
  refine wp_skip ?_
  refine hK2 _ _ ?_
  refine ws fun K5 hK5 => ?_
  refine wl_mvs (A := [_, _, _]) hF rfl ?_; clear hF a; intro a hF
  refine wl_call hF rfl rfl rfl (r_call3 en69 (hF.ev rfl) (hF.ev rfl) (hF.ev rfl)) (l9Put_c hS) ?_; clear hF a; rintro v w3 a ⟨rfl, hS_⟩ hF; replace hS := hS_; clear hS_
  refine wl_nil (hK5 _ _ ?_)
  refine ws fun K6 hK6 => ?_
  refine wl_mvs (A := [_]) hF rfl ?_; clear hF a; intro a hF
  refine wl_nil (hK6 _ _ ?_)
  refine wp_ret ?_
  try simp only [Exit.then, Exit.inBlock, ↓reduceIte]
  first
    | (have e : ¬ hitB s.cells a_ u_ = true := fun h => by unfold hitB at h; simp only [Bool.and_eq_true, decide_eq_true_eq] at h; rcases c30 with c | c; omega; exact c h.2
       refine ret1 rfl hF rfl ⟨congrArg Value.bool (Eq.symm (by simpa using e)), ?_⟩; unfold swapS; rw [if_neg e, if_neg e]; exact hS)
    | (have e : hitB s.cells a_ u_ = true := by unfold hitB; simp only [Bool.and_eq_true, decide_eq_true_eq]; exact ⟨by omega, c30.2⟩
       refine ret1 rfl hF rfl ⟨congrArg Value.bool e.symm, ?_⟩; unfold swapS; rw [if_pos e, if_pos e]; exact hS)

set_option maxHeartbeats 4000000 in
set_option maxRecDepth 20000 in
theorem l9Load_c {W w : World} {l : List Res} {g : Nat} {v0 v1 v2 : Value} {s : Sl.State} {a_ : Int} (hS : Sep W (Box g (s.encv v0 v1 v2) :: Own intEK v0 s.cells :: l) w) : Calls Tryz.prog 88 #[.pointer (some ⟨g, 0, none⟩), vi a_] w (Ret fun r w' => r = vi (loadC s.cells a_) ∧ Sep W (Box g (s.encv v0 v1 v2) :: Own intEK v0 s.cells :: l) w') := by
  refine calls_fr Tryz.func88 rfl Tryz.ntmps88 rfl ?_
  intro a hF
  obtain ⟨z0, rfl⟩ := hS.own_sv (q := 1) rfl
  have hl0 := hS.own_len (q := 1) rfl
  refine ws fun K1 hK1 => ?_
  refine wl_mvs (A := [_]) hF rfl ?_; clear hF a; intro a hF
  refine wl_nil (hK1 _ _ ?_)
  refine wp_seq_k fun K2 hK2 => ?_
  refine ws fun K3 hK3 => ?_
  refine wl_mvs (A := [_]) hF rfl ?_; clear hF a; intro a hF
  refine wl hF rfl rfl rfl (r_lss (hF.ev rfl) ec) ?_; clear hF a; intro a hF
  refine wl_mvs (A := [_]) hF rfl ?_; clear hF a; intro a hF
  apply wl_or (A := [_, _, _, _, _, _, _, _]) (pk := 15) hF hS (tc := 7) rfl
  ·
    intro hg7 a hF; try simp only [zb1, zb2, zb3, zb4, zb5, zb6, zb7, zb8] at hg7
    refine wl_mvs (A := [_, _]) hF rfl ?_; clear hF a; intro a hF
    refine wl_take hF rfl rfl rfl rfl ?_
    refine wl hF rfl rfl rfl (r_nilCheck (hF.ev rfl)) ?_; clear hF a; intro a hF
    refine wl_take hF rfl rfl rfl rfl ?_
    refine wl hF rfl rfl rfl (r_field fo32_1 (hF.ev rfl)) ?_; clear hF a; intro a hF
    refine wl_take hF rfl rfl rfl rfl ?_
    refine wl hF rfl rfl rfl (r_load1 sc24 (hF.ev rfl) (hS.box (i := 0) rfl rfl)) ?_; clear hF a; intro a hF
    refine wl_take hF rfl rfl rfl rfl ?_
    refine wl hF rfl rfl rfl (r_len ul24 (hF.ev rfl)) ?_; clear hF a; intro a hF
    refine wl_take hF rfl rfl rfl rfl ?_
    refine wl hF rfl rfl rfl (r_geq (hF.ev rfl) (hF.ev rfl)) ?_; clear hF a; intro a hF
    refine wl hF rfl rfl rfl (r_pick_f (hF.ev rfl) (hF.ev rfl)) ?_; clear hF a; intro a hF
    exact wl_nil ⟨rfl, (Fr.pre (A := [_, _, _, _, _, _, _, _]) hF rfl).keep hF (t := 15) rfl, hS⟩
  ·
    intro hg7 a hF; try simp only [zb1, zb2, zb3, zb4, zb5, zb6, zb7, zb8] at hg7
    refine wl_mvs (A := [_, _, _, _, _, _, _]) hF rfl ?_; clear hF a; intro a hF
    refine wl hF rfl rfl rfl (r_pick_t (hF.ev rfl) ec) ?_; clear hF a; intro a hF
    exact wl_nil ⟨rfl, (Fr.pre (A := [_, _, _, _, _, _, _, _]) hF rfl).keep hF (t := 15) rfl, hS⟩
  clear hF a hS; intro a w1 hF hS
  refine wl_nil (hK3 _ _ ?_)
  refine wc_fx (t := 15) hF rfl ?_ ?_ <;> clear hF <;> intro c15 hF <;> try simp only [zb1, zb2, zb3, zb4, zb5, zb6, zb7, zb8] at c15
  ·
    refine ws fun K4 hK4 => ?_
    refine wl_mvs (A := [_]) hF rfl ?_; clear hF a; intro a hF
    refine wl_nil (hK4 _ _ ?_)
    refine wp_ret ?_
    try simp only [Exit.then, Exit.inBlock, ↓reduceIte]
    first
      | (refine ret1 rfl hF rfl ⟨congrArg vi (Eq.symm (if_neg (by omega))), ?_⟩; exact hS)
      | (refine ret1 rfl hF rfl ⟨congrArg vi (Eq.symm (if_pos (by omega))), ?_⟩; exact hS)
  refine wp_skip ?_
  refine hK2 _ _ ?_
  refine ws fun K5 hK5 => ?_
  refine wl_mvs (A := [_]) hF rfl ?_; clear hF a; intro a hF
  refine wl hF rfl rfl rfl (r_nilCheck (hF.ev rfl)) ?_; clear hF a; intro a hF
  refine wl hF rfl rfl rfl (r_field fo32_1 (hF.ev rfl)) ?_; clear hF a; intro a hF
  refine wl hF rfl rfl rfl (r_load1 sc24 (hF.ev rfl) (hS.box (i := 0) rfl rfl)) ?_; clear hF a; intro a hF
  refine wl_mvs (A := [_]) hF rfl ?_; clear hF a; intro a hF
  obtain ⟨g21, o21, m21, q21, hv21, hm21, hl21, hc21⟩ := Rd.atF ((hS.own_rd (i := 1) rfl)) (a := a) (X := .tmp 20) (hF.ev rfl) (by omega) (by omega)
  refine wl hF rfl rfl rfl (r_index sl24 ((hF.ev rfl).trans hv21) (hF.ev rfl) (by omega) (by first | omega | (simp at hm21; omega))) ?_; clear hF a; intro a hF
  refine wl hF rfl rfl rfl (r_load1 sc3 (hF.ev rfl) (hc21 0 _ rfl)) ?_; clear hF a; intro a hF
  refine wl_mvs (A := [_]) hF rfl ?_; clear hF a; intro a hF
  refine wl_nil (hK5 _ _ ?_)
  refine wp_ret ?_
  try simp only [Exit.then, Exit.inBlock, ↓reduceIte]
  first
    | (refine ret1 rfl hF rfl ⟨congrArg vi (Eq.symm (if_neg (by omega))), ?_⟩; exact hS)
    | (refine ret1 rfl hF rfl ⟨congrArg vi (Eq.symm (if_pos (by omega))), ?_⟩; exact hS)

set_option maxHeartbeats 4000000 in
set_option maxRecDepth 20000 in
theorem l9Cell_c {W w : World} {l : List Res} {g : Nat} {v0 v1 v2 : Value} {s : Sl.State} {h f : Int} (hh : int64 h) (hg : (s.generations.length : Int) = s.config.capacity) (hS : Sep W (Box g ((s).encv v0 v1 v2) :: Own intEK v1 s.generations :: l) w) : Calls Tryz.prog 92 #[.pointer (some ⟨g, 0, none⟩), vi h, vi f] w (Ret fun r w' => r = vi (cellOf s h f) ∧ Sep W (Box g ((faultS s h).encv v0 v1 v2) :: Own intEK v1 s.generations :: l) w') := by
  refine calls_fr Tryz.func92 rfl Tryz.ntmps92 rfl ?_
  intro a hF
  have hu := int64_unmarked hh
  obtain ⟨z1, rfl⟩ := hS.own_sv (q := 1) rfl
  have hl1 := hS.own_len (q := 1) rfl
  refine ws fun K1 hK1 => ?_
  refine wl_mvs (A := [_]) hF rfl ?_; clear hF a; intro a hF
  refine wl_nil (hK1 _ _ ?_)
  refine ws fun K2 hK2 => ?_
  refine wl_mvs (A := [_]) hF rfl ?_; clear hF a; intro a hF
  refine wl_call hF rfl rfl rfl (r_call1 en87 (hF.ev rfl)) (specUnmarked_c hh) ?_; clear hF a; rintro v w1 a ⟨rfl, hB_⟩ hF; replace hS := hS.ext hB_; clear hB_
  refine wl_mvs (A := [_]) hF rfl ?_; clear hF a; intro a hF
  refine wl_nil (hK2 _ _ ?_)
  refine wp_seq_k fun K3 hK3 => ?_
  refine wp_seq_k fun K4 hK4 => ?_
  refine wp_region_calm (by kernel_rfl) (by kernel_rfl) ?_
  refine wq_mvs (A := [_]) hF rfl ?_; clear hF a; intro a hF
  refine wq_call hF rfl rfl rfl (fun w_ hB_ => r_call1 en143 (hF.ev rfl)) (fun w_ hB_ => specIsHandle_c hu) ?_; clear hF a; intro a hF
  refine wq hF rfl rfl rfl (fun w_ hB_ => r_not (hF.ev rfl)) ?_; clear hF a; intro a hF
  refine wq_mvs (A := [_]) hF rfl ?_; clear hF a; intro a hF
  apply wq_or (A := [_, _, _, _, _, _, _, _, _]) (pk := 22) hF (tc := 13) rfl
  ·
    intro hg13 a hF; try simp only [zb1, zb2, zb3, zb4, zb5, zb6, zb7, zb8] at hg13
    refine wq_mvs (A := [_]) hF rfl ?_; clear hF a; intro a hF
    refine wq_take hF rfl rfl rfl rfl ?_
    refine wq_call hF rfl rfl rfl (fun w_ hB_ => r_call1 en104 (hF.ev rfl)) (fun w_ hB_ => specIndexOf_c hu) ?_; clear hF a; intro a hF
    refine wq_mvs (A := [_]) hF rfl ?_; clear hF a; intro a hF
    refine wq_take hF rfl rfl rfl rfl ?_
    refine wq hF rfl rfl rfl (fun w_ hB_ => r_nilCheck (hF.ev rfl)) ?_; clear hF a; intro a hF
    refine wq_take hF rfl rfl rfl rfl ?_
    refine wq hF rfl rfl rfl (fun w_ hB_ => r_field fo32_0 (hF.ev rfl)) ?_; clear hF a; intro a hF
    refine wq_take hF rfl rfl rfl rfl ?_
    refine wq hF rfl rfl rfl (fun w_ hB_ => r_field fo29_2 (hF.ev rfl)) ?_; clear hF a; intro a hF
    refine wq_take hF rfl rfl rfl rfl ?_
    refine wq hF rfl rfl rfl (fun w_ hB_ => r_load1 sc3 (hF.ev rfl) ((hS.ext hB_).box (i := 0) rfl rfl)) ?_; clear hF a; intro a hF
    refine wq_take hF rfl rfl rfl rfl ?_
    refine wq hF rfl rfl rfl (fun w_ hB_ => r_geq (hF.ev rfl) (hF.ev rfl)) ?_; clear hF a; intro a hF
    refine wq hF rfl rfl rfl (fun w_ hB_ => r_pick_f (hF.ev rfl) (hF.ev rfl)) ?_; clear hF a; intro a hF
    exact wpQuiet_nil ((Fr.pre (A := [_, _, _, _, _, _, _, _, _]) hF rfl).keep hF (t := 22) rfl)
  ·
    intro hg13 a hF; try simp only [zb1, zb2, zb3, zb4, zb5, zb6, zb7, zb8] at hg13
    refine wq_mvs (A := [_, _, _, _, _, _, _, _]) hF rfl ?_; clear hF a; intro a hF
    refine wq hF rfl rfl rfl (fun w_ hB_ => r_pick_t (hF.ev rfl) ec) ?_; clear hF a; intro a hF
    exact wpQuiet_nil ((Fr.pre (A := [_, _, _, _, _, _, _, _, _]) hF rfl).keep hF (t := 22) rfl)
  clear hF a; intro a hF
  refine wq_mvs (A := [_]) hF rfl ?_; clear hF a; intro a hF
  apply wq_or (A := [_, _, _, _, _, _, _, _, _, _, _, _]) (pk := 35) hF (tc := 23) rfl
  ·
    intro hg23 a hF; try simp only [zb1, zb2, zb3, zb4, zb5, zb6, zb7, zb8] at hg23
    have hi0 := indexOf_pos hg23.1
    refine wq_mvs (A := [_]) hF rfl ?_; clear hF a; intro a hF
    refine wq_take hF rfl rfl rfl rfl ?_
    refine wq hF rfl rfl rfl (fun w_ hB_ => r_nilCheck (hF.ev rfl)) ?_; clear hF a; intro a hF
    refine wq_take hF rfl rfl rfl rfl ?_
    refine wq hF rfl rfl rfl (fun w_ hB_ => r_field fo32_2 (hF.ev rfl)) ?_; clear hF a; intro a hF
    refine wq_take hF rfl rfl rfl rfl ?_
    refine wq hF rfl rfl rfl (fun w_ hB_ => r_load1 sc24 (hF.ev rfl) ((hS.ext hB_).box (i := 0) rfl rfl)) ?_; clear hF a; intro a hF
    refine wq_mvs (A := [_]) hF rfl ?_; clear hF a; intro a hF
    refine wq_take hF rfl rfl rfl rfl ?_
    refine wq_call hF rfl rfl rfl (fun w_ hB_ => r_call1 en104 (hF.ev rfl)) (fun w_ hB_ => specIndexOf_c hu) ?_; clear hF a; intro a hF
    refine wq_take hF rfl rfl rfl rfl ?_
    obtain ⟨g30, o30, m30, q30, hv30, hm30, hl30, hc30⟩ := Rd.atF ((hS.own_rd (i := 1) rfl)) (a := a) (X := .tmp 29) (hF.ev rfl) (by omega) (by omega)
    refine wq hF rfl rfl rfl (fun w_ hB_ => r_index sl24 ((hF.ev rfl).trans hv30) (hF.ev rfl) (by omega) (by first | omega | (simp at hm30; omega))) ?_; clear hF a; intro a hF
    refine wq_take hF rfl rfl rfl rfl ?_
    refine wq hF rfl rfl rfl (fun w_ hB_ => r_load1 sc3 (hF.ev rfl) (cellB hB_ (hc30 0 _ rfl))) ?_; clear hF a; intro a hF
    refine wq_mvs (A := [_]) hF rfl ?_; clear hF a; intro a hF
    refine wq_take hF rfl rfl rfl rfl ?_
    refine wq_call hF rfl rfl rfl (fun w_ hB_ => r_call1 en144 (hF.ev rfl)) (fun w_ hB_ => specGenOf_c hu) ?_; clear hF a; intro a hF
    refine wq_take hF rfl rfl rfl rfl ?_
    refine wq hF rfl rfl rfl (fun w_ hB_ => r_neq (hF.ev rfl) (hF.ev rfl)) ?_; clear hF a; intro a hF
    refine wq hF rfl rfl rfl (fun w_ hB_ => r_pick_f (hF.ev rfl) (hF.ev rfl)) ?_; clear hF a; intro a hF
    exact wpQuiet_nil ((Fr.pre (A := [_, _, _, _, _, _, _, _, _, _, _, _]) hF rfl).keep hF (t := 35) rfl)
  ·
    intro hg23 a hF; try simp only [zb1, zb2, zb3, zb4, zb5, zb6, zb7, zb8] at hg23
    refine wq_mvs (A := [_, _, _, _, _, _, _, _, _, _, _]) hF rfl ?_; clear hF a; intro a hF
    refine wq hF rfl rfl rfl (fun w_ hB_ => r_pick_t (hF.ev rfl) ec) ?_; clear hF a; intro a hF
    exact wpQuiet_nil ((Fr.pre (A := [_, _, _, _, _, _, _, _, _, _, _, _]) hF rfl).keep hF (t := 35) rfl)
  clear hF a; intro a hF
  refine wpQuiet_nil ?_; intro w4 hB_; replace hS := hS.ext hB_; clear hB_
  refine hK4 _ _ ?_
  refine wc_fx (t := 35) hF rfl ?_ ?_ <;> clear hF <;> intro c35 hF <;> try simp only [zb1, zb2, zb3, zb4, zb5, zb6, zb7, zb8] at c35
  ·
    refine ws fun K5 hK5 => ?_
    refine wl_mvs (A := [_, _]) hF rfl ?_; clear hF a; intro a hF
    refine wl hF rfl rfl rfl (r_nilCheck (hF.ev rfl)) ?_; clear hF a; intro a hF
    refine wl hF rfl rfl rfl (r_field fo32_7 (hF.ev rfl)) ?_; clear hF a; intro a hF
    refine wl hF rfl rfl rfl (r_load1 sc3 (hF.ev rfl) (hS.box (i := 0) rfl rfl)) ?_; clear hF a; intro a hF
    refine wl hF rfl rfl rfl (r_add (hF.ev rfl) ec) ?_; clear hF a; intro a hF
    refine wl hF rfl rfl rfl (r_nilCheck (hF.ev rfl)) ?_; clear hF a; intro a hF
    refine wl hF rfl rfl rfl (r_field fo32_7 (hF.ev rfl)) ?_; clear hF a; intro a hF
    refine wl_store hF hS (i := 0) rfl sz3 (hF.ev rfl) (hF.ev rfl) rfl rfl ?_; intro w5 hS_; replace hS := hS_; clear hS_; dsimp only [List.set, Nat.reduceAdd] at hS
    refine wl_nil (hK5 _ _ ?_)
    refine ws fun K6 hK6 => ?_
    refine wl_mvs (A := [_]) hF rfl ?_; clear hF a; intro a hF
    refine wl_nil (hK6 _ _ ?_)
    refine wp_ret ?_
    try simp only [Exit.then, Exit.inBlock, ↓reduceIte]
    first
      | (have e : ¬ curB s.config s.generations h = true := fun h' => by unfold curB isNode at h'; simp only [Bool.and_eq_true, decide_eq_true_eq] at h'; rcases c35 with (c | c) | c; (rw [h'.1.1] at c; cases c); omega; exact c h'.2
         refine ret1 rfl hF rfl ⟨congrArg vi (Eq.symm (if_neg e)), ?_⟩; unfold faultS; rw [if_neg e]; exact hS)
      | (have e : curB s.config s.generations h = true := by unfold curB isNode; simp only [Bool.and_eq_true, decide_eq_true_eq]; exact ⟨⟨c35.1.1, by omega⟩, c35.2⟩
         refine ret1 rfl hF rfl ⟨congrArg vi (Eq.symm (if_pos e)), ?_⟩; unfold faultS; rw [if_pos e]; exact hS)
  refine wp_skip ?_
  refine hK3 _ _ ?_
  refine wp_seq_k fun K7 hK7 => ?_
  refine wp_region_calm (by kernel_rfl) (by kernel_rfl) ?_
  refine wq_mvs (A := [_]) hF rfl ?_; clear hF a; intro a hF
  refine wq hF rfl rfl rfl (fun w_ hB_ => r_nilCheck (hF.ev rfl)) ?_; clear hF a; intro a hF
  refine wq hF rfl rfl rfl (fun w_ hB_ => r_field fo32_0 (hF.ev rfl)) ?_; clear hF a; intro a hF
  refine wq hF rfl rfl rfl (fun w_ hB_ => r_loadn ag29 (hF.ev rfl) ((hS.ext hB_).boxn (vs := [_, _, _, _, _, _]) (i := 0) (m := 6) rfl rfl) sz29) ?_; clear hF a; intro a hF
  refine wq_mvs (A := [_]) hF rfl ?_; clear hF a; intro a hF
  refine wq_call hF rfl rfl rfl (fun w_ hB_ => r_call1 en104 (hF.ev rfl)) (fun w_ hB_ => specIndexOf_c hu) ?_; clear hF a; intro a hF
  refine wq_mvs (A := [_]) hF rfl ?_; clear hF a; intro a hF
  refine wq_call hF rfl rfl rfl (fun w_ hB_ => r_call3 en119 (hF.ev rfl) (hF.ev rfl) (hF.ev rfl)) (fun w_ hB_ => specNodeCell_c _ _ _) ?_; clear hF a; intro a hF
  refine wq_mvs (A := [_]) hF rfl ?_; clear hF a; intro a hF
  refine wpQuiet_nil ?_; intro w6 hB_; replace hS := hS.ext hB_; clear hB_
  refine hK7 _ _ ?_
  refine wp_ret ?_
  try simp only [Exit.then, Exit.inBlock, ↓reduceIte]
  first
    | (have e : ¬ curB s.config s.generations h = true := fun h' => by unfold curB isNode at h'; simp only [Bool.and_eq_true, decide_eq_true_eq] at h'; rcases c35 with (c | c) | c; (rw [h'.1.1] at c; cases c); omega; exact c h'.2
       refine ret1 rfl hF rfl ⟨congrArg vi (Eq.symm (if_neg e)), ?_⟩; unfold faultS; rw [if_neg e]; exact hS)
    | (have e : curB s.config s.generations h = true := by unfold curB isNode; simp only [Bool.and_eq_true, decide_eq_true_eq]; exact ⟨⟨c35.1.1, by omega⟩, c35.2⟩
       refine ret1 rfl hF rfl ⟨congrArg vi (Eq.symm (if_pos e)), ?_⟩; unfold faultS; rw [if_pos e]; exact hS)

set_option maxHeartbeats 4000000 in
set_option maxRecDepth 20000 in
theorem l10Clear_c {W w : World} {l : List Res} {gt ot mt ct p : Nat} {ts : List Sl.Thread} {t : Sl.Thread} (hp : p < ts.length) (hS : Sep W (Own threadEK (.slice (some ⟨gt, ot, none⟩) mt ct) (ts.set p (t)) :: l) w) : Calls Tryz.prog 131 #[.pointer (some ⟨gt, ot + p * 19, none⟩)] w (Ret fun u w' => u = .tuple #[] ∧ Sep W (Own threadEK (.slice (some ⟨gt, ot, none⟩) mt ct) (ts.set p (clearT t)) :: l) w') := by
  refine calls_fr Tryz.func131 rfl Tryz.ntmps131 rfl ?_
  intro a hF

  refine ws fun K1 hK1 => ?_
  refine wl_mvs (A := [_]) hF rfl ?_; clear hF a; intro a hF
  refine wl hF rfl rfl rfl (r_nilCheck (hF.ev rfl)) ?_; clear hF a; intro a hF
  refine wl hF rfl rfl rfl (r_field fo53_4 (hF.ev rfl)) ?_; clear hF a; intro a hF
  refine wl_estore (q := 0) (j := 7) (⟨_, ⟨_, _, _⟩, ⟨_, _⟩, _, _, _, _, _, _, _, _, _, _, _, _, _⟩ : Sl.Thread) hF hS hp rfl sz3 (hF.ev rfl) rfl ec rfl (fun _ => rfl) (fun _ => by dsimp only [threadEK, Thread.encv, List.set] <;> rfl) (by intro _; rfl) ?_; intro w1 hS_; replace hS := hS_; clear hS_; dsimp only [List.set] at hS
  refine wl_nil (hK1 _ _ ?_)
  refine ws fun K2 hK2 => ?_
  refine wl_mvs (A := [_]) hF rfl ?_; clear hF a; intro a hF
  refine wl hF rfl rfl rfl (r_nilCheck (hF.ev rfl)) ?_; clear hF a; intro a hF
  refine wl hF rfl rfl rfl (r_field fo53_5 (hF.ev rfl)) ?_; clear hF a; intro a hF
  refine wl_estore (q := 0) (j := 8) (⟨_, ⟨_, _, _⟩, ⟨_, _⟩, _, _, _, _, _, _, _, _, _, _, _, _, _⟩ : Sl.Thread) hF hS hp rfl sz3 (hF.ev rfl) rfl ec rfl (fun _ => rfl) (fun _ => by dsimp only [threadEK, Thread.encv, List.set] <;> rfl) (by intro _; rfl) ?_; intro w2 hS_; replace hS := hS_; clear hS_; dsimp only [List.set] at hS
  refine wl_nil (hK2 _ _ ?_)
  refine ws fun K3 hK3 => ?_
  refine wl_mvs (A := [_]) hF rfl ?_; clear hF a; intro a hF
  refine wl hF rfl rfl rfl (r_nilCheck (hF.ev rfl)) ?_; clear hF a; intro a hF
  refine wl hF rfl rfl rfl (r_field fo53_6 (hF.ev rfl)) ?_; clear hF a; intro a hF
  refine wl_estore (q := 0) (j := 9) (⟨_, ⟨_, _, _⟩, ⟨_, _⟩, _, _, _, _, _, _, _, _, _, _, _, _, _⟩ : Sl.Thread) hF hS hp rfl sz3 (hF.ev rfl) rfl ec rfl (fun _ => rfl) (fun _ => by dsimp only [threadEK, Thread.encv, List.set] <;> rfl) (by intro _; rfl) ?_; intro w3 hS_; replace hS := hS_; clear hS_; dsimp only [List.set] at hS
  refine wl_nil (hK3 _ _ ?_)
  refine ws fun K4 hK4 => ?_
  refine wl_mvs (A := [_]) hF rfl ?_; clear hF a; intro a hF
  refine wl hF rfl rfl rfl (r_nilCheck (hF.ev rfl)) ?_; clear hF a; intro a hF
  refine wl hF rfl rfl rfl (r_field fo53_7 (hF.ev rfl)) ?_; clear hF a; intro a hF
  refine wl_estore (q := 0) (j := 10) (⟨_, ⟨_, _, _⟩, ⟨_, _⟩, _, _, _, _, _, _, _, _, _, _, _, _, _⟩ : Sl.Thread) hF hS hp rfl sz3 (hF.ev rfl) rfl ec rfl (fun _ => rfl) (fun _ => by dsimp only [threadEK, Thread.encv, List.set] <;> rfl) (by intro _; rfl) ?_; intro w4 hS_; replace hS := hS_; clear hS_; dsimp only [List.set] at hS
  refine wl_nil (hK4 _ _ ?_)
  refine ws fun K5 hK5 => ?_
  refine wl_mvs (A := [_]) hF rfl ?_; clear hF a; intro a hF
  refine wl hF rfl rfl rfl (r_nilCheck (hF.ev rfl)) ?_; clear hF a; intro a hF
  refine wl hF rfl rfl rfl (r_field fo53_8 (hF.ev rfl)) ?_; clear hF a; intro a hF
  refine wl_estore (q := 0) (j := 11) (⟨_, ⟨_, _, _⟩, ⟨_, _⟩, _, _, _, _, _, _, _, _, _, _, _, _, _⟩ : Sl.Thread) hF hS hp rfl sz3 (hF.ev rfl) rfl ec rfl (fun _ => rfl) (fun _ => by dsimp only [threadEK, Thread.encv, List.set] <;> rfl) (by intro _; rfl) ?_; intro w5 hS_; replace hS := hS_; clear hS_; dsimp only [List.set] at hS
  refine wl_nil (hK5 _ _ ?_)
  refine ws fun K6 hK6 => ?_
  refine wl_mvs (A := [_]) hF rfl ?_; clear hF a; intro a hF
  refine wl hF rfl rfl rfl (r_nilCheck (hF.ev rfl)) ?_; clear hF a; intro a hF
  refine wl hF rfl rfl rfl (r_field fo53_9 (hF.ev rfl)) ?_; clear hF a; intro a hF
  refine wl_estore (q := 0) (j := 12) (⟨_, ⟨_, _, _⟩, ⟨_, _⟩, _, _, _, _, _, _, _, _, _, _, _, _, _⟩ : Sl.Thread) hF hS hp rfl sz3 (hF.ev rfl) rfl ec rfl (fun _ => rfl) (fun _ => by dsimp only [threadEK, Thread.encv, List.set] <;> rfl) (by intro _; rfl) ?_; intro w6 hS_; replace hS := hS_; clear hS_; dsimp only [List.set] at hS
  refine wl_nil (hK6 _ _ ?_)
  refine ws fun K7 hK7 => ?_
  refine wl_mvs (A := [_]) hF rfl ?_; clear hF a; intro a hF
  refine wl hF rfl rfl rfl (r_nilCheck (hF.ev rfl)) ?_; clear hF a; intro a hF
  refine wl hF rfl rfl rfl (r_field fo53_10 (hF.ev rfl)) ?_; clear hF a; intro a hF
  refine wl_estore (q := 0) (j := 13) (⟨_, ⟨_, _, _⟩, ⟨_, _⟩, _, _, _, _, _, _, _, _, _, _, _, _, _⟩ : Sl.Thread) hF hS hp rfl sz3 (hF.ev rfl) rfl ec rfl (fun _ => rfl) (fun _ => by dsimp only [threadEK, Thread.encv, List.set] <;> rfl) (by intro _; rfl) ?_; intro w7 hS_; replace hS := hS_; clear hS_; dsimp only [List.set] at hS
  refine wl_nil (hK7 _ _ ?_)
  refine wp_region_lit ?_
  refine wl_mvs (A := [_]) hF rfl ?_; clear hF a; intro a hF
  refine wl_bslice intEK [] [] rfl hF hS rfl mk24 rfl trivial rfl rfl rfl rfl ?_; clear hF a; intro gl_24 w8 a hS_ hF; replace hS := hS_; clear hS_
  refine wl hF rfl rfl rfl (r_nilCheck (hF.ev rfl)) ?_; clear hF a; intro a hF
  refine wl hF rfl rfl rfl (r_field fo53_11 (hF.ev rfl)) ?_; clear hF a; intro a hF
  replace hS := hS.pull (p := 0) rfl; dsimp only [List.eraseIdx] at hS
  refine wl_eslice (s := (_, _, _)) (k' := 0) (q := 0) (j := 14) (⟨_, ⟨_, _, _⟩, ⟨_, _⟩, _, _, _, _, _, _, _, _, _, _, _, _, _⟩ : Sl.Thread) (fun vs => [(_, _, _), vs.getD 1 (none, 0, 0), vs.getD 2 (none, 0, 0), vs.getD 3 (none, 0, 0), vs.getD 4 (none, 0, 0)]) hF hS hp rfl sz24 (hF.ev rfl) rfl (hF.ev rfl) (fun _ => rfl) (fun _ => by dsimp only [threadEK, Thread.encv, List.set] <;> rfl) (by intro _; rfl) (by intro _; rfl) ?_; intro w9 hS_; replace hS := hS_; clear hS_; dsimp only [List.set] at hS
  refine wl_nil ?_
  try simp only [Exit.then, Exit.inBlock, ↓reduceIte]
  exact ret0n rfl hF ⟨rfl, hS⟩

set_option maxHeartbeats 4000000 in
set_option maxRecDepth 20000 in
theorem l10Finish_c {W w : World} {l : List Res} {g gt ot mt ct p : Nat} {v0 v1 : Value} {s : Sl.State} {ts : List Sl.Thread} {t : Sl.Thread} (hp : p < ts.length) {c x : Int} (hS : Sep W (Box g ((s).encv v0 v1 (.slice (some ⟨gt, ot, none⟩) mt ct)) :: Own threadEK (.slice (some ⟨gt, ot, none⟩) mt ct) (ts.set p (t)) :: l) w) : Calls Tryz.prog 71 #[.pointer (some ⟨g, 0, none⟩), vi (p : Int), vi c, vi x] w (Ret fun u w' => u = .tuple #[] ∧ Sep W (Box g ((s).encv v0 v1 (.slice (some ⟨gt, ot, none⟩) mt ct)) :: Own threadEK (.slice (some ⟨gt, ot, none⟩) mt ct) (ts.set p (endT t c x)) :: l) w') := by
  refine calls_fr Tryz.func71 rfl Tryz.ntmps71 rfl ?_
  intro a hF
  have hmt := hS.own_len (s := (some ⟨gt, ot, none⟩, mt, ct)) (q := 1) rfl
  simp only [List.length_set] at hmt
  refine ws fun K1 hK1 => ?_
  refine wl_mvs (A := [_]) hF rfl ?_; clear hF a; intro a hF
  refine wl hF rfl rfl rfl (r_nilCheck (hF.ev rfl)) ?_; clear hF a; intro a hF
  refine wl hF rfl rfl rfl (r_field fo32_3 (hF.ev rfl)) ?_; clear hF a; intro a hF
  refine wl hF rfl rfl rfl (r_load1 sc30 (hF.ev rfl) (hS.box (i := 0) rfl rfl)) ?_; clear hF a; intro a hF
  refine wl_mvs (A := [_]) hF rfl ?_; clear hF a; intro a hF
  refine wl hF rfl rfl rfl (r_index sl30 (hF.ev rfl) (hF.ev rfl) (by omega) (by first | omega | (dsimp only; omega))) ?_; clear hF a; intro a hF
  replace hS := Sep.headp (A := [_, _]) (B := [_, _]) hS [1, 0] (by decide) rfl rfl
  refine wl_call hF rfl rfl rfl (r_call1 en131 (hF.ev rfl)) (l10Clear_c hp hS) ?_; clear hF a; rintro v w1 a ⟨rfl, hS_⟩ hF; replace hS := hS_; clear hS_
  refine wl_nil (hK1 _ _ ?_)
  refine ws fun K2 hK2 => ?_
  refine wl_mvs (A := [_]) hF rfl ?_; clear hF a; intro a hF
  refine wl hF rfl rfl rfl (r_nilCheck (hF.ev rfl)) ?_; clear hF a; intro a hF
  refine wl hF rfl rfl rfl (r_field fo32_3 (hF.ev rfl)) ?_; clear hF a; intro a hF
  refine wl hF rfl rfl rfl (r_load1 sc30 (hF.ev rfl) (hS.box (i := 1) rfl rfl)) ?_; clear hF a; intro a hF
  refine wl_mvs (A := [_]) hF rfl ?_; clear hF a; intro a hF
  refine wl hF rfl rfl rfl (r_index sl30 (hF.ev rfl) (hF.ev rfl) (by omega) (by first | omega | (dsimp only; omega))) ?_; clear hF a; intro a hF
  refine wl hF rfl rfl rfl (r_field fo53_0 (hF.ev rfl)) ?_; clear hF a; intro a hF
  refine wl_estore (q := 0) (j := 0) (⟨_, ⟨_, _, _⟩, ⟨_, _⟩, _, _, _, _, _, _, _, _, _, _, _, _, _⟩ : Sl.Thread) hF hS hp rfl sz3 (hF.ev rfl) rfl ec rfl (fun _ => rfl) (fun _ => by dsimp only [threadEK, Thread.encv, List.set] <;> rfl) (by intro _; rfl) ?_; intro w2 hS_; replace hS := hS_; clear hS_; dsimp only [List.set] at hS
  refine wl_nil (hK2 _ _ ?_)
  refine wp_region_lit ?_
  refine wl_mvs (A := [_]) hF rfl ?_; clear hF a; intro a hF
  refine wl hF rfl rfl rfl (r_nilCheck (hF.ev rfl)) ?_; clear hF a; intro a hF
  refine wl hF rfl rfl rfl (r_field fo32_3 (hF.ev rfl)) ?_; clear hF a; intro a hF
  refine wl hF rfl rfl rfl (r_load1 sc30 (hF.ev rfl) (hS.box (i := 1) rfl rfl)) ?_; clear hF a; intro a hF
  refine wl_mvs (A := [_, _, _]) hF rfl ?_; clear hF a; intro a hF
  refine wl hF rfl rfl rfl (r_build (bd50_0_1 _ _) ⟨rfl, (hF.ev rfl), rfl, (hF.ev rfl), trivial⟩) ?_; clear hF a; intro a hF
  refine wl hF rfl rfl rfl (r_index sl30 (hF.ev rfl) (hF.ev rfl) (by omega) (by first | omega | (dsimp only; omega))) ?_; clear hF a; intro a hF
  refine wl hF rfl rfl rfl (r_field fo53_2 (hF.ev rfl)) ?_; clear hF a; intro a hF
  refine wl_estoren (us := [_, _]) (q := 0) (j := 4) (⟨_, ⟨_, _, _⟩, ⟨_, _⟩, _, _, _, _, _, _, _, _, _, _, _, _, _⟩ : Sl.Thread) hF hS hp rfl sz50 (hF.ev rfl) rfl ((hF.ev rfl).trans rfl) rfl (fun _ => ⟨rfl, rfl⟩) (fun _ => by dsimp only [threadEK, Thread.encv, List.take, List.drop, List.cons_append, List.nil_append, List.length_cons, List.length_nil, Nat.reduceAdd] <;> rfl) (by intro _; rfl) ?_; intro w3 hS_; replace hS := hS_; clear hS_; dsimp only [List.set] at hS
  refine wl_nil ?_
  try simp only [Exit.then, Exit.inBlock, ↓reduceIte]
  exact ret0n rfl hF ⟨rfl, (Sep.headp (A := [_, _]) (B := [_, _]) hS [1, 0] (by decide) rfl rfl)⟩

end Go.Proofs.YtifhfodphoeeoaaGreat.Wk
