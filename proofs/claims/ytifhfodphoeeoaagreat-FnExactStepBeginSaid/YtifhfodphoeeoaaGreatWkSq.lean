/- Walks: the program's steppers: swap, next. -/
import Derived.Test.YtifhfodphoeeoaaGreatChecked
import Derived.Test.YtifhfodphoeeoaaGreatWkOf
import Derived.Test.YtifhfodphoeeoaaGreatFactsC
namespace Go.Proofs.YtifhfodphoeeoaaGreat.Wk
open Go Go.RowKit Sl
set_option linter.unusedVariables false
set_option linter.unusedSimpArgs false
set_option maxRecDepth 20000

set_option maxHeartbeats 4000000 in
set_option maxRecDepth 20000 in
theorem choose_c {W : World} {b : Bool} {x y : Int} : Calls Tryz.prog 79 #[.bool b, vi x, vi y] W (Ret fun v w' => v = vi (if b = true then x else y) ∧ Below W.heap.size W w') := by
  refine calls_fr Tryz.func79 rfl Tryz.ntmps79 rfl ?_
  intro a hF
  have hS := Sep.refl W
  refine ws fun K1 hK1 => ?_
  refine wl_mvs (A := [_]) hF rfl ?_; clear hF a; intro a hF
  refine wl_nil (hK1 _ _ ?_)
  refine wp_seq_k fun K2 hK2 => ?_
  refine ws fun K3 hK3 => ?_
  refine wl_mvs (A := [_]) hF rfl ?_; clear hF a; intro a hF
  refine wl_nil (hK3 _ _ ?_)
  refine wc_fx (t := 7) hF rfl ?_ ?_ <;> clear hF <;> intro c7 hF <;> try simp only [zb1, zb2, zb3, zb4, zb5, zb6, zb7, zb8] at c7
  ·
    refine ws fun K4 hK4 => ?_
    refine wl_mvs (A := [_, _]) hF rfl ?_; clear hF a; intro a hF
    refine wl_nil (hK4 _ _ ?_)
    refine wp_ret ?_
    try simp only [Exit.then, Exit.inBlock, ↓reduceIte]
    refine ret1 rfl hF rfl ⟨congrArg vi ?_, hS.old⟩
    first | exact (if_pos c7).symm | exact (if_neg (by rw [c7]; decide)).symm
  refine wp_skip ?_
  refine hK2 _ _ ?_
  refine ws fun K5 hK5 => ?_
  refine wl_mvs (A := [_, _]) hF rfl ?_; clear hF a; intro a hF
  refine wl_nil (hK5 _ _ ?_)
  refine wp_ret ?_
  try simp only [Exit.then, Exit.inBlock, ↓reduceIte]
  refine ret1 rfl hF rfl ⟨congrArg vi ?_, hS.old⟩
  first | exact (if_pos c7).symm | exact (if_neg (by rw [c7]; decide)).symm

set_option maxHeartbeats 4000000 in
set_option maxRecDepth 20000 in
theorem stpNext_c {W w : World} {l : List Res} {g gt ot mt ct p : Nat} {v0 v1 : Value} {s : Sl.State} {ts : List Sl.Thread} {t : Sl.Thread} (hp : p < ts.length) {b : Bool} {x y : Int} (hS : Sep W (Box g ((s).encv v0 v1 (.slice (some ⟨gt, ot, none⟩) mt ct)) :: Own threadEK (.slice (some ⟨gt, ot, none⟩) mt ct) (ts.set p (t)) :: l) w) : Calls Tryz.prog 81 #[.agg #[.pointer (some ⟨g, 0, none⟩), .pointer (some ⟨gt, ot + p * 19, none⟩), vi (p : Int)], .bool b, vi x, vi y] w (Ret fun u w' => u = .tuple #[] ∧ Sep W (Box g (({ s with retries := if b = true then s.retries else IntKind.i64.wrap (s.retries + 1) }).encv v0 v1 (.slice (some ⟨gt, ot, none⟩) mt ct)) :: Own threadEK (.slice (some ⟨gt, ot, none⟩) mt ct) (ts.set p ({ t with pc := if b = true then x else y })) :: l) w') := by
  refine calls_fr Tryz.func81 rfl Tryz.ntmps81 rfl ?_
  intro a hF
  have hmt := hS.own_len (s := (some ⟨gt, ot, none⟩, mt, ct)) (q := 1) rfl
  simp only [List.length_set] at hmt
  refine ws fun K1 hK1 => ?_
  refine wl_box (cs := [_, _, _]) hF hS rfl (hF.ev rfl) rfl ?_; clear hF a; intro g1 w1 a hS_ hB_ hF; replace hS := hS_; clear hS_ hB_
  refine wl_nil (hK1 _ _ ?_)
  refine ws fun K2 hK2 => ?_
  refine wl hF rfl rfl rfl (r_field fo63_1 (hF.ev rfl)) ?_; clear hF a; intro a hF
  refine wl hF rfl rfl rfl (r_load1 sc61 (hF.ev rfl) (hS.box (i := 0) rfl rfl)) ?_; clear hF a; intro a hF
  refine wl_mvs (A := [_]) hF rfl ?_; clear hF a; intro a hF
  refine wl hF rfl rfl rfl (r_nilCheck (hF.ev rfl)) ?_; clear hF a; intro a hF
  refine wl hF rfl rfl rfl (r_field fo53_0 (hF.ev rfl)) ?_; clear hF a; intro a hF
  refine wl_estore (q := 2) (j := 0) (⟨_, ⟨_, _, _⟩, ⟨_, _⟩, _, _, _, _, _, _, _, _, _, _, _, _, _⟩ : Sl.Thread) hF hS hp rfl sz3 (hF.ev rfl) rfl (hF.ev rfl) rfl (fun _ => rfl) (fun _ => by dsimp only [threadEK, Thread.encv, List.set] <;> rfl) (by intro _; rfl) ?_; intro w2 hS_; replace hS := hS_; clear hS_; dsimp only [List.set] at hS
  refine wl_nil (hK2 _ _ ?_)
  refine ws fun K3 hK3 => ?_
  refine wl_mvs (A := [_]) hF rfl ?_; clear hF a; intro a hF
  refine wl hF rfl rfl rfl (r_not (hF.ev rfl)) ?_; clear hF a; intro a hF
  refine wl_nil (hK3 _ _ ?_)
  refine wc_fx (t := 14) hF rfl ?_ ?_ <;> clear hF <;> intro c14 hF <;> try simp only [zb1, zb2, zb3, zb4, zb5, zb6, zb7, zb8] at c14
  ·
    refine ws fun K4 hK4 => ?_
    refine wl hF rfl rfl rfl (r_field fo63_1 (hF.ev rfl)) ?_; clear hF a; intro a hF
    refine wl hF rfl rfl rfl (r_load1 sc61 (hF.ev rfl) (hS.box (i := 0) rfl rfl)) ?_; clear hF a; intro a hF
    refine wl_mvs (A := [_]) hF rfl ?_; clear hF a; intro a hF
    refine wl hF rfl rfl rfl (r_nilCheck (hF.ev rfl)) ?_; clear hF a; intro a hF
    refine wl hF rfl rfl rfl (r_field fo53_0 (hF.ev rfl)) ?_; clear hF a; intro a hF
    refine wl_estore (q := 2) (j := 0) (⟨_, ⟨_, _, _⟩, ⟨_, _⟩, _, _, _, _, _, _, _, _, _, _, _, _, _⟩ : Sl.Thread) hF hS hp rfl sz3 (hF.ev rfl) rfl (hF.ev rfl) rfl (fun _ => rfl) (fun _ => by dsimp only [threadEK, Thread.encv, List.set] <;> rfl) (by intro _; rfl) ?_; intro w3 hS_; replace hS := hS_; clear hS_; dsimp only [List.set] at hS
    refine wl_nil (hK4 _ _ ?_)
    refine wp_region_lit ?_
    refine wl hF rfl rfl rfl (r_field fo63_0 (hF.ev rfl)) ?_; clear hF a; intro a hF
    refine wl hF rfl rfl rfl (r_load1 sc55 (hF.ev rfl) (hS.box (i := 0) rfl rfl)) ?_; clear hF a; intro a hF
    refine wl hF rfl rfl rfl (r_nilCheck (hF.ev rfl)) ?_; clear hF a; intro a hF
    refine wl hF rfl rfl rfl (r_field fo32_6 (hF.ev rfl)) ?_; clear hF a; intro a hF
    refine wl hF rfl rfl rfl (r_load1 sc3 (hF.ev rfl) (hS.box (i := 1) rfl rfl)) ?_; clear hF a; intro a hF
    refine wl hF rfl rfl rfl (r_add (hF.ev rfl) ec) ?_; clear hF a; intro a hF
    refine wl hF rfl rfl rfl (r_nilCheck (hF.ev rfl)) ?_; clear hF a; intro a hF
    refine wl hF rfl rfl rfl (r_field fo32_6 (hF.ev rfl)) ?_; clear hF a; intro a hF
    refine wl_store hF hS (i := 1) rfl sz3 (hF.ev rfl) (hF.ev rfl) rfl rfl ?_; intro w4 hS_; replace hS := hS_; clear hS_; dsimp only [List.set, Nat.reduceAdd] at hS
    refine wl_nil ?_
    try simp only [Exit.then, Exit.inBlock, ↓reduceIte]
    cases b with
    | true => first | (exfalso; simp at c14; done) | exact ret0n rfl hF ⟨rfl, (Sep.headp (A := [_, _, _]) (B := [_, _]) hS [1, 2] (by decide) rfl rfl)⟩
    | false => first | (exfalso; simp at c14; done) | exact ret0n rfl hF ⟨rfl, (Sep.headp (A := [_, _, _]) (B := [_, _]) hS [1, 2] (by decide) rfl rfl)⟩
  refine wp_skip ?_
  try simp only [Exit.then, Exit.inBlock, ↓reduceIte]
  cases b with
  | true => first | (exfalso; simp at c14; done) | exact ret0n rfl hF ⟨rfl, (Sep.headp (A := [_, _, _]) (B := [_, _]) hS [1, 2] (by decide) rfl rfl)⟩
  | false => first | (exfalso; simp at c14; done) | exact ret0n rfl hF ⟨rfl, (Sep.headp (A := [_, _, _]) (B := [_, _]) hS [1, 2] (by decide) rfl rfl)⟩

set_option maxHeartbeats 4000000 in
set_option maxRecDepth 20000 in
theorem stpSwap_c {W w : World} {l : List Res} {g gt ot p : Nat} {v0 v1 v2 : Value} {s : Sl.State} {a_ u_ v : Int} (hS : Sep W (Box g (s.encv v0 v1 v2) :: Own intEK v0 s.cells :: l) w) : Calls Tryz.prog 82 #[.agg #[.pointer (some ⟨g, 0, none⟩), .pointer (some ⟨gt, ot + p * 19, none⟩), vi (p : Int)], vi a_, vi u_, vi v] w (Ret fun r w' => r = .bool (hitB s.cells a_ u_) ∧ Sep W (Box g ((swapS s a_ u_ v).encv v0 v1 v2) :: Own intEK v0 (swapS s a_ u_ v).cells :: l) w') := by
  refine calls_fr Tryz.func82 rfl Tryz.ntmps82 rfl ?_
  intro a hF
  obtain ⟨z0, rfl⟩ := hS.own_sv (q := 1) rfl
  have hl0 := hS.own_len (q := 1) rfl
  obtain ⟨A0, q0, e0, h0, hn0⟩ := (hS.own_rd (i := 1) rfl).sl; unfold maxLen at hn0
  refine ws fun K1 hK1 => ?_
  refine wl_box (cs := [_, _, _]) hF hS rfl (hF.ev rfl) rfl ?_; clear hF a; intro g1 w1 a hS_ hB_ hF; replace hS := hS_; clear hS_ hB_
  refine wl_mvs (A := [_]) hF rfl ?_; clear hF a; intro a hF
  refine wl_nil (hK1 _ _ ?_)
  refine wp_seq_k fun K2 hK2 => ?_
  refine ws fun K3 hK3 => ?_
  refine wl_mvs (A := [_]) hF rfl ?_; clear hF a; intro a hF
  refine wl hF rfl rfl rfl (r_field fo63_0 (hF.ev rfl)) ?_; clear hF a; intro a hF
  refine wl hF rfl rfl rfl (r_load1 sc55 (hF.ev rfl) (hS.box (i := 0) rfl rfl)) ?_; clear hF a; intro a hF
  refine wl hF rfl rfl rfl (r_nilCheck (hF.ev rfl)) ?_; clear hF a; intro a hF
  refine wl hF rfl rfl rfl (r_field fo32_1 (hF.ev rfl)) ?_; clear hF a; intro a hF
  refine wl hF rfl rfl rfl (r_load1 sc24 (hF.ev rfl) (hS.box (i := 1) rfl rfl)) ?_; clear hF a; intro a hF
  refine wl hF rfl rfl rfl (r_len ul24 (hF.ev rfl)) ?_; clear hF a; intro a hF
  refine wl hF rfl rfl rfl (r_sub (hF.ev rfl) ec) ?_; clear hF a; intro a hF
  refine wl_call hF rfl rfl rfl (r_call3 en75 (hF.ev rfl) ec (hF.ev rfl)) (in_c _ _ _) ?_; clear hF a; rintro v w2 a ⟨rfl, hB_⟩ hF; replace hS := hS.ext hB_; clear hB_
  refine wl hF rfl rfl rfl (r_not (hF.ev rfl)) ?_; clear hF a; intro a hF
  refine wl_mvs (A := [_]) hF rfl ?_; clear hF a; intro a hF
  apply wl_or (A := [_, _, _, _, _, _, _, _, _, _, _]) (pk := 30) hF hS (tc := 19) rfl
  ·
    intro hg19 a hF; try simp only [zb1, zb2, zb3, zb4, zb5, zb6, zb7, zb8] at hg19
    rw [w64_id (by omega) (by omega)] at hg19
    refine wl_take hF rfl rfl rfl rfl ?_
    refine wl hF rfl rfl rfl (r_field fo63_0 (hF.ev rfl)) ?_; clear hF a; intro a hF
    refine wl_take hF rfl rfl rfl rfl ?_
    refine wl hF rfl rfl rfl (r_load1 sc55 (hF.ev rfl) (hS.box (i := 0) rfl rfl)) ?_; clear hF a; intro a hF
    refine wl_take hF rfl rfl rfl rfl ?_
    refine wl hF rfl rfl rfl (r_nilCheck (hF.ev rfl)) ?_; clear hF a; intro a hF
    refine wl_take hF rfl rfl rfl rfl ?_
    refine wl hF rfl rfl rfl (r_field fo32_1 (hF.ev rfl)) ?_; clear hF a; intro a hF
    refine wl_take hF rfl rfl rfl rfl ?_
    refine wl hF rfl rfl rfl (r_load1 sc24 (hF.ev rfl) (hS.box (i := 1) rfl rfl)) ?_; clear hF a; intro a hF
    refine wl_mvs (A := [_]) hF rfl ?_; clear hF a; intro a hF
    refine wl_take hF rfl rfl rfl rfl ?_
    obtain ⟨g26, o26, m26, q26, hv26, hm26, hl26, hc26⟩ := Rd.atF ((hS.own_rd (i := 2) rfl)) (a := a) (X := .tmp 25) (hF.ev rfl) (by omega) (by omega)
    refine wl hF rfl rfl rfl (r_index sl24 ((hF.ev rfl).trans hv26) (hF.ev rfl) (by omega) (by first | omega | (simp at hm26; omega))) ?_; clear hF a; intro a hF
    refine wl_take hF rfl rfl rfl rfl ?_
    refine wl hF rfl rfl rfl (r_load1 sc3 (hF.ev rfl) (hc26 0 _ rfl)) ?_; clear hF a; intro a hF
    refine wl_mvs (A := [_]) hF rfl ?_; clear hF a; intro a hF
    refine wl_take hF rfl rfl rfl rfl ?_
    refine wl hF rfl rfl rfl (r_neq (hF.ev rfl) (hF.ev rfl)) ?_; clear hF a; intro a hF
    refine wl hF rfl rfl rfl (r_pick_f (hF.ev rfl) (hF.ev rfl)) ?_; clear hF a; intro a hF
    exact wl_nil ⟨rfl, (Fr.pre (A := [_, _, _, _, _, _, _, _, _, _, _]) hF rfl).keep hF (t := 30) rfl, hS⟩
  ·
    intro hg19 a hF; try simp only [zb1, zb2, zb3, zb4, zb5, zb6, zb7, zb8] at hg19
    refine wl_mvs (A := [_, _, _, _, _, _, _, _, _, _]) hF rfl ?_; clear hF a; intro a hF
    refine wl hF rfl rfl rfl (r_pick_t (hF.ev rfl) ec) ?_; clear hF a; intro a hF
    exact wl_nil ⟨rfl, (Fr.pre (A := [_, _, _, _, _, _, _, _, _, _, _]) hF rfl).keep hF (t := 30) rfl, hS⟩
  clear hF a hS; intro a w3 hF hS
  refine wl_nil (hK3 _ _ ?_)
  refine wc_fx (t := 30) hF rfl ?_ ?_ <;> clear hF <;> intro c30 hF <;> try simp only [zb1, zb2, zb3, zb4, zb5, zb6, zb7, zb8] at c30
  ·
    refine ws fun K4 hK4 => ?_
    refine wl_mvs (A := [_]) hF rfl ?_; clear hF a; intro a hF
    refine wl_nil (hK4 _ _ ?_)
    refine wp_ret ?_
    try simp only [Exit.then, Exit.inBlock, ↓reduceIte]
    have hw_ : IntKind.i64.wrap ((z0.2.1 : Int) - 1) = (s.cells.length : Int) - 1 := by rw [w64_id (by omega) (by omega)]; omega
    rw [hw_] at c30
    first
      | (have e : ¬ hitB s.cells a_ u_ = true := fun h => by unfold hitB at h; simp only [Bool.and_eq_true, decide_eq_true_eq] at h; rcases c30 with c | c; omega; exact c h.2
         refine ret1 rfl hF rfl ⟨congrArg Value.bool (Eq.symm (by simpa using e)), ?_⟩; unfold swapS; rw [if_neg e, if_neg e]; exact (Sep.headp (A := [_, _, _]) (B := [_, _]) hS [1, 2] (by decide) rfl rfl))
      | (have e : hitB s.cells a_ u_ = true := by unfold hitB; simp only [Bool.and_eq_true, decide_eq_true_eq]; exact ⟨by omega, c30.2⟩
         refine ret1 rfl hF rfl ⟨congrArg Value.bool e.symm, ?_⟩; unfold swapS; rw [if_pos e, if_pos e]; exact (Sep.headp (A := [_, _, _]) (B := [_, _]) hS [1, 2] (by decide) rfl rfl))
  refine wp_skip ?_
  refine hK2 _ _ ?_
  refine ws fun K5 hK5 => ?_
  refine wl hF rfl rfl rfl (r_loadn ag63 (hF.ev rfl) (hS.box_rd (i := 0) rfl) sz63) ?_; clear hF a; intro a hF
  refine wl_mvs (A := [_, _]) hF rfl ?_; clear hF a; intro a hF
  replace hS := Sep.headp (A := [_, _, _]) (B := [_, _, _]) hS [1, 2, 0] (by decide) rfl rfl
  refine wl_call hF rfl rfl rfl (r_call3 en80 (hF.ev rfl) (hF.ev rfl) (hF.ev rfl)) (stpStore_c (s := s) hS) ?_; clear hF a; rintro v w4 a ⟨rfl, hS_⟩ hF; replace hS := hS_; clear hS_
  refine wl_nil (hK5 _ _ ?_)
  refine ws fun K6 hK6 => ?_
  refine wl_mvs (A := [_]) hF rfl ?_; clear hF a; intro a hF
  refine wl_nil (hK6 _ _ ?_)
  refine wp_ret ?_
  try simp only [Exit.then, Exit.inBlock, ↓reduceIte]
  have hw_ : IntKind.i64.wrap ((z0.2.1 : Int) - 1) = (s.cells.length : Int) - 1 := by rw [w64_id (by omega) (by omega)]; omega
  rw [hw_] at c30
  first
    | (have e : ¬ hitB s.cells a_ u_ = true := fun h => by unfold hitB at h; simp only [Bool.and_eq_true, decide_eq_true_eq] at h; rcases c30 with c | c; omega; exact c h.2
       refine ret1 rfl hF rfl ⟨congrArg Value.bool (Eq.symm (by simpa using e)), ?_⟩; unfold swapS; rw [if_neg e, if_neg e]; exact (Sep.headp (A := [_, _, _]) (B := [_, _]) hS [0, 1] (by decide) rfl rfl))
    | (have e : hitB s.cells a_ u_ = true := by unfold hitB; simp only [Bool.and_eq_true, decide_eq_true_eq]; exact ⟨by omega, c30.2⟩
       refine ret1 rfl hF rfl ⟨congrArg Value.bool e.symm, ?_⟩; unfold swapS; rw [if_pos e, if_pos e]; exact (Sep.headp (A := [_, _, _]) (B := [_, _]) hS [0, 1] (by decide) rfl rfl))

end Go.Proofs.YtifhfodphoeeoaaGreat.Wk
