/- Walks: ReplayOrder, and its law. -/
import Derived.Test.YteldnoimmjihoaaChecked
import Derived.Test.YteldnoimmjihoaaWkSr
import Derived.Test.YteldnoimmjihoaaWkMe
import Derived.Test.YteldnoimmjihoaaFactsD
namespace Go.Proofs.Yteldnoimmjihoaa.Wk
open Go Go.RowKit Sl
set_option linter.unusedVariables false
set_option linter.unusedSimpArgs false
set_option maxRecDepth 20000

def replay (c : Config) (es : List Sl.Event) : List Int → List Bool → Model → Option (List Bool × Model)
  | [], used, m => some (used, m)
  | i :: l, used, m => if mayGo es used i = true then if (explains c m (at0 es i)).2 = true then replay c es l (used.set i.toNat true) (explains c m (at0 es i)).1 else none else none
def replayOrder (c : Config) (es : List Sl.Event) (order : List Int) : Model × Bool :=
  if c.ok then match replay c es order (List.replicate es.length false) (newModel c) with
    | some (u, m) => if allUsed es u = true then (m, true) else (⟨[], []⟩, false)
    | none => (⟨[], []⟩, false)
  else (⟨[], []⟩, false)
section
variable {c : Config} {es : List Sl.Event} {order : List Int} {used : List Bool} {m : Model} {k : Nat}
theorem mayGo_in {i : Int} (h : mayGo es used i = true) : 0 ≤ i ∧ i < es.length ∧ used.length = es.length := by
  unfold mayGo at h
  split at h
  · rename_i e he
    simp only [Bool.and_eq_true, decide_eq_true_eq] at h
    have := (List.getElem?_eq_some_iff.1 he).1
    exact ⟨h.1.1.2, by omega, h.1.1.1⟩
  · cases h
theorem drop_cons {α : Type} [Inhabited α] {xs : List α} (h : k < xs.length) : xs.drop k = at0 xs (k : Int) :: xs.drop (k + 1) := by
  rw [List.drop_eq_getElem_cons h]
  congr 1
  exact (at0_of (List.getElem?_eq_getElem h)).symm
theorem rp_next (h : k < order.length) (h1 : mayGo es used (at0 order (k : Int)) = true) (h2 : (explains c m (at0 es (at0 order (k : Int)))).2 = true) :
    replay c es (order.drop k) used m = replay c es (order.drop (k + 1)) (used.set (at0 order (k : Int)).toNat true) (explains c m (at0 es (at0 order (k : Int)))).1 := by
  rw [drop_cons h]; simp only [replay]; rw [if_pos h1, if_pos h2]
theorem rp_no1 (h : k < order.length) (h1 : mayGo es used (at0 order (k : Int)) = false) : replay c es (order.drop k) used m = none := by
  rw [drop_cons h]; simp only [replay]; exact if_neg (by rw [h1]; decide)
theorem rp_no2 (h : k < order.length) (h2 : (explains c m (at0 es (at0 order (k : Int)))).2 = false) : replay c es (order.drop k) used m = none := by
  rw [drop_cons h]; simp only [replay]
  split
  · exact if_neg (by rw [h2]; decide)
  · rfl
theorem explains_bad (h : ¬ c.ok) {e : Sl.Event} : (explains c m e).2 = false := by
  rw [ex_no (fun hh => h (isModel_thr hh.1).1)]
theorem rp_bad (h : ¬ c.ok) {l : List Int} (hl : l ≠ []) : replay c es l used m = none := by
  cases l with
  | nil => exact absurd rfl hl
  | cons i l =>
    simp only [replay]
    split
    · exact if_neg (by rw [explains_bad h]; decide)
    · rfl
theorem ro_none (h : replay c es order (List.replicate es.length false) (newModel c) = none) : replayOrder c es order = (⟨[], []⟩, false) := by
  unfold replayOrder; rw [h]; simp
theorem ro_done {u : List Bool} (h : replay c es order (List.replicate es.length false) (newModel c) = some (u, m)) (h2 : c.ok) (h3 : allUsed es u = true) : replayOrder c es order = (m, true) := by
  unfold replayOrder; rw [if_pos h2, h]; simp [h3]
theorem ro_not {u : List Bool} (h : replay c es order (List.replicate es.length false) (newModel c) = some (u, m)) (h3 : ¬ c.ok ∨ allUsed es u = false) : replayOrder c es order = (⟨[], []⟩, false) := by
  unfold replayOrder
  rw [h]
  rcases h3 with h3 | h3
  · exact if_neg h3
  · simp [h3]
theorem model_inner0 (w : World) : Sat (modelEK.inner ⟨[], []⟩ []) (fun _ => False) w := by
  have h := Sat.nil (fun _ => False) w
  have c := fun {α : Type} (ek : EK α) {l : List Res} (h : Sat l (fun _ => False) w) => Sat.cons (S1 := fun _ => False) (S' := fun _ => False) h (own_nil ek _ w) (fun k hk => hk) (fun k hk => hk) (fun k hk _ => hk)
  exact c intEK (c (sliceEK intEK) h)
theorem crow_bound {xs : List (List Int)} {B : Nat} (h : ∀ x ∈ xs, x.length ≤ B) : crow List.length xs ≤ B * xs.length := by
  induction xs with
  | nil => simp [crow]
  | cons x xs ih =>
    have h1 := h x (by simp)
    have h2 := ih (fun y hy => h y (by simp [hy]))
    simp only [crow, List.length_cons, Nat.mul_add]; omega
theorem isModel_size (h : isModel c m = true) : m.size ≤ 24 ∧ m.values.length ≤ 4 := by
  obtain ⟨hok, hth⟩ := isModel_thr h
  have hv := isModel_vals h
  unfold Config.ok at hok
  have hb := crow_bound (xs := m.snapshots) (B := 4) (fun x hx => by
    by_cases h0 : (0 : Int) < x.length
    · have := isModel_snap h hx h0; omega
    · omega)
  unfold Model.size
  omega
theorem explains_small {e : Sl.Event} (h : (explains c m e).2 = true) : (explains c m e).1.size ≤ 100 := by
  have hm : isModel c m = true := by
    cases hc : isModel c m with
    | true => rfl
    | false => rw [ex_no (fun hh => by rw [hc] at hh; cases hh.1)] at h; cases h
  have h1 := isModel_size hm
  have h2 := (explains_cnt (c := c) (m := m) (e := e)).2
  omega
theorem replay_small : ∀ {l : List Int} {used : List Bool} {m : Model} {u : List Bool} {m' : Model}, m.size ≤ 100 → replay c es l used m = some (u, m') → m'.size ≤ 100
  | [], used, m, u, m', hv, h => by simp only [replay, Option.some.injEq, Prod.mk.injEq] at h; obtain ⟨rfl, rfl⟩ := h; exact hv
  | i :: l, used, m, u, m', hv, h => by
    simp only [replay] at h
    split at h
    · split at h
      · rename_i h2; exact replay_small (explains_small h2) h
      · cases h
    · cases h
theorem ro_cfg (h : ¬ c.ok) : replayOrder c es order = (⟨[], []⟩, false) := if_neg h
theorem ro_cnt : (replayOrder c es order).1.size ≤ 100 := by
  unfold replayOrder
  split
  · split
    · rename_i u m h
      have := replay_small (newModel_cnt c).2 h
      split
      · exact this
      · simp [Model.size, crow]
    · simp [Model.size, crow]
  · simp [Model.size, crow]
end
theorem _root_.Go.Proofs.Yteldnoimmjihoaa.Sl.Sep.nilpart {α : Type} {ek : EK α} {x : α} {vs : List Slv} {w0 w : World} {l : List Res} (h : Sep w0 l w) (hin : Sat (ek.inner x vs) (fun _ => False) w) : Sep w0 (Part ek x vs :: l) w := h.new (Below.refl _ _) (hin.mono (fun k hk => hk.elim))

set_option maxHeartbeats 4000000 in
set_option maxRecDepth 20000 in
theorem specReplay_c {W : World} {c : Config} {va vo : Value} {es : List Sl.Event} {order : List Int} (ha : eventEK.Rd W va es) (ho : intEK.Rd W vo order) (hze : es.length ≤ 1048576) : Calls Try.prog 28 #[.agg c.enc.toArray, va, vo] W (Ret (Mk W (fun vs => .tuple #[.agg (modelEK.cells (replayOrder c es order).1 vs).toArray, .bool (replayOrder c es order).2]) (fun vs => [Part modelEK (replayOrder c es order).1 vs]))) := by
  refine calls_fr Try.func28 rfl Try.ntmps28 rfl ?_
  intro a hF
  have hS := Sep.refl W
  obtain ⟨A_e, q_e, rfl, hq_e, hn_e⟩ := ha.sl; unfold maxLen at hn_e
  obtain ⟨A_o, q_o, rfl, hq_o, hn_o⟩ := ho.sl; unfold maxLen at hn_o
  have hnm := (newModel_cnt c).2
  refine ws fun K1 hK1 => ?_
  refine wl_box (cs := [_, _, _, _, _, _]) hF hS rfl (hF.ev rfl) rfl ?_; clear hF a; intro g1 w1 a hS_ hB_ hF; replace hS := hS_; clear hS_ hB_
  refine wl_alloc hF hS rfl zr35 ?_; clear hF a; intro g2 w2 a hS_ hB_ hF; replace hS := hS_; clear hS_ hB_
  refine wl_mvs (A := [_]) hF rfl ?_; clear hF a; intro a hF
  refine wl_nil (hK1 _ _ ?_)
  refine ws fun K2 hK2 => ?_
  refine wl hF rfl rfl rfl (r_loadn ag38 (hF.ev rfl) (hS.box_rd (i := 1) rfl) sz38) ?_; clear hF a; intro a hF
  refine wl_mk hF hS rfl rfl rfl (r_call1 en57 (hF.ev rfl)) (specNewModel_c _) ?_; clear hF a; rintro vs14 w3 a hS_ hF; replace hS := hS_; clear hS_; dsimp only [List.cons_append, List.nil_append] at hS
  refine wl_alloc hF hS rfl zr35 ?_; clear hF a; intro g3 w4 a hS_ hB_ hF; replace hS := hS_; clear hS_ hB_
  refine wl_storew hF hS (i := 0) rfl (hF.ev rfl) (hF.ev rfl) sz35 rfl rfl ?_; intro w5 hS_; replace hS := hS_; clear hS_; dsimp only [List.set, Nat.reduceAdd] at hS
  refine wl_nil (hK2 _ _ ?_)
  refine ws fun K3 hK3 => ?_
  refine wl_mvs (A := [_]) hF rfl ?_; clear hF a; intro a hF
  refine wl hF rfl rfl rfl (r_len ul52 (hF.ev rfl)) ?_; clear hF a; intro a hF
  refine wl_make boolEK false [] hF hS rfl mk84 rfl (fun _ => Sat.nil _ _) (hF.ev rfl) (by omega) (by unfold maxLen; omega) ?_; clear hF a; intro gm_17 w6 a hS_ hF; replace hS := hS_; clear hS_
  refine wl_mvs (A := [_]) hF rfl ?_; clear hF a; intro a hF
  refine wl_nil (hK3 _ _ ?_)
  refine wp_seq_k fun K4 hK4 => ?_
  refine ws fun K5 hK5 => ?_
  refine wl_mvs (A := [_]) hF rfl ?_; clear hF a; intro a hF
  refine wl_nil (hK5 _ _ ?_)
  refine wp_block ?_
  replace hS := hS.pull (p := 2) rfl; dsimp only [List.eraseIdx] at hS
  replace hS := hS.pull (p := 2) rfl; dsimp only [List.eraseIdx] at hS
  replace hS := hS.pull (p := 2) rfl; dsimp only [List.eraseIdx] at hS
  have hL_ := (((((((hF.nil.keep hF (t := 9) rfl).keep hF (t := 8) rfl).keep hF (t := 7) rfl).keep hF (t := 6) rfl).keep hF (t := 3) rfl).keep hF (t := 2) rfl).keep hF (t := 1) rfl)
  refine wp_loop_m (σ := Nat × List Bool × Model × List Slv) (fun z L_ => (10, vi z.1) :: L_) (fun z l_ => (Own boolEK (.slice (some ⟨gm_17, 0, none⟩) es.length es.length) z.2.1) :: (Box g3 [sv (z.2.2.2.getD 0 (none, 0, 0)), sv (z.2.2.2.getD 1 (none, 0, 0))]) :: (Part modelEK z.2.2.1 z.2.2.2) :: l_) (fun z => (z.1 ≤ order.length) ∧ (replay c es (order.drop z.1) z.2.1 z.2.2.1 = replay c es order (List.replicate es.length false) (newModel c)) ∧ (z.2.2.1.size ≤ 100) ∧ (z.2.1.length = es.length)) (fun z => order.length - z.1) (0, List.replicate es.length false, newModel c, vs14) (hS) (hL_.keepE hF (t := 10) rfl rfl) ?_ ?_
  · exact ⟨Nat.zero_le _, rfl, (newModel_cnt c).2, List.length_replicate⟩
  clear hF hS hL_ a
  rintro ⟨k, used, m, vs⟩ a w7 ⟨hk, hr, hsz, hlu⟩ hS hF; try dsimp only at hF; try dsimp only at hS; try dsimp only at hk; try dsimp only at hr; try dsimp only at hsz; try dsimp only at hlu
  refine wp_seq_k fun K6 hK6 => ?_
  refine ws fun K7 hK7 => ?_
  refine wl_mvs (A := [_, _]) hF rfl ?_; clear hF a; intro a hF
  refine wl hF rfl rfl rfl (r_len ul24 (hF.ev rfl)) ?_; clear hF a; intro a hF
  refine wl hF rfl rfl rfl (r_lss (hF.ev rfl) (hF.ev rfl)) ?_; clear hF a; intro a hF
  refine wl_nil (hK7 _ _ ?_)
  refine wc_fx (t := 21) hF rfl ?_ ?_ <;> clear hF <;> intro c21 hF <;> try simp only [zb1, zb2, zb3, zb4, zb5, zb6, zb7, zb8] at c21
  ·
    have hlt : k < order.length := by omega
    refine wp_skip ?_
    refine hK6 _ _ ?_
    refine wp_seq_k fun K8 hK8 => ?_
    refine wp_block ?_
    refine wp_seq_k fun K9 hK9 => ?_
    refine ws fun K10 hK10 => ?_
    refine wl_mvs (A := [_, _, _, _]) hF rfl ?_; clear hF a; intro a hF
    obtain ⟨g28, o28, m28, q28, hv28, hm28, hl28, hc28⟩ := Rd.atF (ho) (a := a) (X := .tmp 27) (hF.ev rfl) (by omega) (by omega)
    refine wl hF rfl rfl rfl (r_index sl24 ((hF.ev rfl).trans hv28) (hF.ev rfl) (by omega) (by first | omega | (simp at hm28; omega))) ?_; clear hF a; intro a hF
    refine wl hF rfl rfl rfl (r_load1 sc3 (hF.ev rfl) (cellB hS.old (hc28 0 _ rfl))) ?_; clear hF a; intro a hF
    refine wl_call hF rfl rfl rfl (r_call3 en61 (hF.ev rfl) (hF.ev rfl) (hF.ev rfl)) (specMayGo_c (hS.rd ha) (hS.own_rd (i := 0) rfl)) ?_; clear hF a; rintro v w8 a ⟨rfl, hB_⟩ hF; replace hS := hS.ext hB_; clear hB_
    refine wl hF rfl rfl rfl (r_not (hF.ev rfl)) ?_; clear hF a; intro a hF
    refine wl_nil (hK10 _ _ ?_)
    refine wc_fx (t := 31) hF rfl ?_ ?_ <;> clear hF <;> intro c31 hF <;> try simp only [zb1, zb2, zb3, zb4, zb5, zb6, zb7, zb8] at c31
    ·
      refine ws fun K11 hK11 => ?_
      refine wl hF rfl rfl rfl (r_build (bd35) trivial) ?_; clear hF a; intro a hF
      refine wl_storew hF hS (i := 3) rfl (hF.ev rfl) (hF.ev rfl) sz35 rfl rfl ?_; intro w9 hS_; replace hS := hS_; clear hS_; dsimp only [List.set, Nat.reduceAdd] at hS
      refine wl_mvs (A := [_]) hF rfl ?_; clear hF a; intro a hF
      refine wl_nil (hK11 _ _ ?_)
      refine wp_ret ?_
      try simp only [Exit.then, Exit.inBlock, ↓reduceIte]
      first
        | (have e := ro_none (hr.symm.trans (rp_no1 (by omega) c31))
           refine ret2c rfl ag35 hF hS (i := 3) rfl sz35 rfl rfl ⟨[], ?_, ?_⟩
           · first | (rw [e]; done) | (rw [e]; rfl)
           · rw [e]; exact (Sep.nilpart (hS.pick [] (by decide) rfl) (model_inner0 _)))
    have hgo := c31
    have hin := mayGo_in hgo
    refine wp_skip ?_
    refine hK9 _ _ ?_
    refine wp_seq_k fun K12 hK12 => ?_
    refine wp_region_todo (is := [0, 1, 2, 3, 4, 5, 6, 7, 8, 9, 10, 11, 12, 14, 15]) [(13, 11, [.slice none 0 0, .slice none 0 0])] [14, 15] (by kernel_rfl) hF hS ⟨⟨⟨_, _, _, rfl, zr35⟩, trivial⟩, by decide, by decide, by decide⟩ (by kernel_rfl) ?_; clear hF; intro hl_ wd hSd
    refine todo_load [9, 10, 11, 12, 14, 15] hl_ (by kernel_rfl) rfl (gw0 rfl) rfl rfl rfl (fun a w_ hF hB_ => r_loadn ag38 (hF.ev rfl) ((hSd.ext hB_).box_rd (i := 4) rfl) sz38) ?_
    refine todo_load [9, 10, 11, 12, 14, 15] hl_ (by kernel_rfl) rfl (gw0 rfl) rfl rfl rfl (fun a w_ hF hB_ => r_loadn ag35 (hF.ev rfl) ((hSd.ext hB_).box_rd (i := 1) rfl) sz35) ?_
    refine todo_pure hl_ (by kernel_rfl) rfl (gw0 rfl) rfl rfl rfl (fun a w_ hF => r_move (hF.ev rfl)) ?_
    refine todo_pure hl_ (by kernel_rfl) rfl (gw0 rfl) rfl rfl rfl (fun a w_ hF => r_move (hF.ev rfl)) ?_
    refine todo_pure hl_ (by kernel_rfl) rfl (gw0 rfl) rfl rfl rfl (fun a w_ hF => r_move (hF.ev rfl)) ?_
    obtain ⟨g39, o39, m39, q39, hv39, hm39, hl39, hc39⟩ := Rd.idxF (ho) (at0_get (i := (k : Int)) (by omega) (by omega))
    refine todo_pure hl_ (by kernel_rfl) rfl (gw0 rfl) rfl rfl rfl (fun a w_ hF => r_index sl24 ((hF.ev rfl).trans hv39) (hF.ev rfl) (by omega) (by first | omega | (simp at hm39; omega))) ?_
    refine todo_load [7, 8, 9, 10, 11, 12, 14, 15] hl_ (by kernel_rfl) rfl (gw0 rfl) rfl rfl rfl (fun a w_ hF hB_ => r_load1 sc3 (hF.ev rfl) (cellB (hSd.ext hB_).old (hc39 0 _ rfl))) ?_
    obtain ⟨g41, o41, m41, q41, hv41, hm41, hl41, hc41⟩ := Rd.idxF (ha) (at0_get (i := (at0 order (k : Int))) (by omega) (by omega))
    refine todo_pure hl_ (by kernel_rfl) rfl (gw0 rfl) rfl rfl rfl (fun a w_ hF => r_index sl52 ((hF.ev rfl).trans hv41) (hF.ev rfl) (by omega) (by first | omega | (simp at hm41; omega))) ?_
    refine todo_load [9, 10, 11, 12, 14, 15] hl_ (by kernel_rfl) rfl (gw0 rfl) rfl rfl rfl (fun a w_ hF hB_ => r_loadn ag44 (hF.ev rfl) (fun j_ u_ hu_ => cellB (hSd.ext hB_).old (hc41 j_ u_ hu_)) sz44) ?_
    refine todo_mk hl_ rfl (by kernel_rfl) rfl rfl rfl rfl rfl (fun a w_ hF => r_call3 en9 (hF.ev rfl) (hF.ev rfl) (hF.ev rfl)) (fun w_ hS => specExplains_c (hS.part_k (i := 2) rfl) (by omega)) ?_; rintro vs43
    refine todo_pure hl_ (by kernel_rfl) rfl (gw0 rfl) rfl rfl rfl (fun a w_ hF => r_move (hF.ev rfl)) ?_
    refine todo_pure hl_ (by kernel_rfl) rfl (gw0 rfl) rfl rfl rfl (fun a w_ hF => r_extract (hF.ev rfl) rfl) ?_
    refine todo_pure hl_ (by kernel_rfl) rfl (gw0 rfl) rfl rfl rfl (fun a w_ hF => r_extract (hF.ev rfl) rfl) ?_
    refine todo_fin hl_ rfl (by kernel_rfl) (tl := [_, _]) rfl ?_; clear hS a; intro a w10 hF hA_
    obtain ⟨g4, hS, he_0⟩ := hA_.open1; clear hA_
    replace hF := hF.more he_0; clear he_0
    clear hl_; try clear hSd
    try dsimp only [List.cons_append, List.nil_append, List.set] at hS
    try clear wd
    refine wl_storew hF hS (i := 0) rfl (hF.ev rfl) (hF.ev rfl) sz35 rfl rfl ?_; intro w11 hS_; replace hS := hS_; clear hS_; dsimp only [List.set, Nat.reduceAdd] at hS
    refine wl_mvs (A := [_]) hF rfl ?_; clear hF a; intro a hF
    refine wl_nil ⟨rfl, ?_⟩
    refine hK12 _ _ ?_
    refine wp_seq_k fun K13 hK13 => ?_
    refine ws fun K14 hK14 => ?_
    refine wl_mvs (A := [_]) hF rfl ?_; clear hF a; intro a hF
    refine wl hF rfl rfl rfl (r_not (hF.ev rfl)) ?_; clear hF a; intro a hF
    refine wl_nil (hK14 _ _ ?_)
    refine wc_fx (t := 47) hF rfl ?_ ?_ <;> clear hF <;> intro c47 hF <;> try simp only [zb1, zb2, zb3, zb4, zb5, zb6, zb7, zb8] at c47
    ·
      refine ws fun K15 hK15 => ?_
      refine wl hF rfl rfl rfl (r_build (bd35) trivial) ?_; clear hF a; intro a hF
      refine wl_storew hF hS (i := 5) rfl (hF.ev rfl) (hF.ev rfl) sz35 rfl rfl ?_; intro w12 hS_; replace hS := hS_; clear hS_; dsimp only [List.set, Nat.reduceAdd] at hS
      refine wl_mvs (A := [_]) hF rfl ?_; clear hF a; intro a hF
      refine wl_nil (hK15 _ _ ?_)
      refine wp_ret ?_
      try simp only [Exit.then, Exit.inBlock, ↓reduceIte]
      first
        | (have e := ro_none (hr.symm.trans (rp_no2 (by omega) c47))
           refine ret2c rfl ag35 hF hS (i := 5) rfl sz35 rfl rfl ⟨[], ?_, ?_⟩
           · first | (rw [e]; done) | (rw [e]; rfl)
           · rw [e]; exact (Sep.nilpart (hS.pick [] (by decide) rfl) (model_inner0 _)))
    have hex := c47
    refine wp_skip ?_
    refine hK13 _ _ ?_
    refine ws fun K16 hK16 => ?_
    refine wl_mvs (A := [_, _, _]) hF rfl ?_; clear hF a; intro a hF
    obtain ⟨g52, o52, m52, q52, hv52, hm52, hl52, hc52⟩ := Rd.atF (ho) (a := a) (X := .tmp 51) (hF.ev rfl) (by omega) (by omega)
    refine wl hF rfl rfl rfl (r_index sl24 ((hF.ev rfl).trans hv52) (hF.ev rfl) (by omega) (by first | omega | (simp at hm52; omega))) ?_; clear hF a; intro a hF
    refine wl hF rfl rfl rfl (r_load1 sc3 (hF.ev rfl) (cellB hS.old (hc52 0 _ rfl))) ?_; clear hF a; intro a hF
    obtain ⟨g54, o54, m54, q54, hv54, hm54, hl54, hc54⟩ := Rd.atF ((hS.own_rd (i := 2) rfl)) (a := a) (X := .tmp 53) (hF.ev rfl) (by omega) (by omega)
    refine wl hF rfl rfl rfl (r_index sl84 ((hF.ev rfl).trans hv54) (hF.ev rfl) (by omega) (by first | omega | (simp at hm54; omega))) ?_; clear hF a; intro a hF
    refine wl_tstore (q := 2) hF hS rfl hv54 (by omega) (by omega) sz4 (hF.ev rfl) rfl ec ?_; intro w13 hS_; replace hS := hS_; clear hS_; dsimp only [List.set] at hS
    refine wl_nil (hK16 _ _ ?_)
    refine wp_region_lit ?_
    refine wl hF rfl rfl rfl (r_loadn ag35 (hF.ev rfl) (hS.box_rd (i := 0) rfl) sz35) ?_; clear hF a; intro a hF
    refine wl_storew hF hS (i := 3) rfl (hF.ev rfl) (hF.ev rfl) sz35 rfl rfl ?_; intro w14 hS_; replace hS := hS_; clear hS_; dsimp only [List.set, Nat.reduceAdd] at hS
    refine wl_nil ?_
    simp only [Exit.then, Exit.inBlock, ↓reduceIte]
    refine hK8 _ _ ?_
    refine wp_region_lit ?_
    refine wl_mvs (A := [_]) hF rfl ?_; clear hF a; intro a hF
    refine wl hF rfl rfl rfl (r_add (hF.ev rfl) ec) ?_; clear hF a; intro a hF
    refine wl_mvs (A := [_]) hF rfl ?_; clear hF a; intro a hF
    refine wl_nil ?_
    try simp only [Exit.then, Exit.inBlock, ↓reduceIte]
    refine ⟨(k + 1, used.set (at0 order (k : Int)).toNat true, (explains c m (at0 es (at0 order (k : Int)))).1, vs43), ⟨by dsimp only; omega, (rp_next (by omega) hgo hex).symm.trans hr, explains_small hex, by simp only [List.length_set]; exact hlu⟩, (hS.pick [2, 3, 1, 5, 6] (by decide) rfl), ((((((((hF.nil.keep hF (t := 9) rfl).keep hF (t := 8) rfl).keep hF (t := 7) rfl).keep hF (t := 6) rfl).keep hF (t := 3) rfl).keep hF (t := 2) rfl).keep hF (t := 1) rfl).keepE hF (t := 10) rfl (wk (by omega))), by dsimp only; omega⟩
  refine wp_exit ?_
  simp only [Exit.then, Exit.inBlock, ↓reduceIte]
  refine hK4 _ _ ?_
  refine wp_seq_k fun K17 hK17 => ?_
  refine ws fun K18 hK18 => ?_
  refine wl hF rfl rfl rfl (r_loadn ag38 (hF.ev rfl) (hS.box_rd (i := 4) rfl) sz38) ?_; clear hF a; intro a hF
  refine wl_call hF rfl rfl rfl (r_call1 en55 (hF.ev rfl)) (specIsConfig_c _) ?_; clear hF a; rintro v w15 a ⟨rfl, hB_⟩ hF; replace hS := hS.ext hB_; clear hB_
  refine wl hF rfl rfl rfl (r_not (hF.ev rfl)) ?_; clear hF a; intro a hF
  refine wl_mvs (A := [_]) hF rfl ?_; clear hF a; intro a hF
  apply wl_or (A := [_, _, _, _, _]) (pk := 64) hF hS (tc := 59) rfl
  ·
    intro hg59 a hF; try simp only [zb1, zb2, zb3, zb4, zb5, zb6, zb7, zb8] at hg59
    refine wl_mvs (A := [_, _]) hF rfl ?_; clear hF a; intro a hF
    refine wl_take hF rfl rfl rfl rfl ?_
    refine wl_call hF rfl rfl rfl (r_call2 en62 (hF.ev rfl) (hF.ev rfl)) (l20All_c (hS.rd ha) (hS.own_rd (i := 0) rfl) (by omega)) ?_; clear hF a; rintro v w16 a ⟨rfl, hB_⟩ hF; replace hS := hS.ext hB_; clear hB_
    refine wl_take hF rfl rfl rfl rfl ?_
    refine wl hF rfl rfl rfl (r_not (hF.ev rfl)) ?_; clear hF a; intro a hF
    refine wl hF rfl rfl rfl (r_pick_f (hF.ev rfl) (hF.ev rfl)) ?_; clear hF a; intro a hF
    exact wl_nil ⟨rfl, (Fr.pre (A := [_, _, _, _, _]) hF rfl).keep hF (t := 64) rfl, hS⟩
  ·
    intro hg59 a hF; try simp only [zb1, zb2, zb3, zb4, zb5, zb6, zb7, zb8] at hg59
    refine wl_mvs (A := [_, _, _, _]) hF rfl ?_; clear hF a; intro a hF
    refine wl hF rfl rfl rfl (r_pick_t (hF.ev rfl) ec) ?_; clear hF a; intro a hF
    exact wl_nil ⟨rfl, (Fr.pre (A := [_, _, _, _, _]) hF rfl).keep hF (t := 64) rfl, hS⟩
  clear hF a hS; intro a w17 hF hS
  refine wl_nil (hK18 _ _ ?_)
  refine wc_fx (t := 64) hF rfl ?_ ?_ <;> clear hF <;> intro c64 hF <;> try simp only [zb1, zb2, zb3, zb4, zb5, zb6, zb7, zb8] at c64
  ·
    refine ws fun K19 hK19 => ?_
    refine wl hF rfl rfl rfl (r_build (bd35) trivial) ?_; clear hF a; intro a hF
    refine wl_storew hF hS (i := 3) rfl (hF.ev rfl) (hF.ev rfl) sz35 rfl rfl ?_; intro w18 hS_; replace hS := hS_; clear hS_; dsimp only [List.set, Nat.reduceAdd] at hS
    refine wl_mvs (A := [_]) hF rfl ?_; clear hF a; intro a hF
    refine wl_nil (hK19 _ _ ?_)
    refine wp_ret ?_
    try simp only [Exit.then, Exit.inBlock, ↓reduceIte]
    first
      | (have e := ro_not (show replay c es order (List.replicate es.length false) (newModel c) = some (used, m) from by rw [← hr, List.drop_of_length_le (by omega)]; rfl) c64
         refine ret2c rfl ag35 hF hS (i := 3) rfl sz35 rfl rfl ⟨[], ?_, ?_⟩
         · first | (rw [e]; done) | (rw [e]; rfl)
         · rw [e]; exact (Sep.nilpart (hS.pick [] (by decide) rfl) (model_inner0 _)))
  refine wp_skip ?_
  refine hK17 _ _ ?_
  refine ws fun K20 hK20 => ?_
  refine wl hF rfl rfl rfl (r_loadn ag35 (hF.ev rfl) (hS.box_rd (i := 1) rfl) sz35) ?_; clear hF a; intro a hF
  refine wl_storew hF hS (i := 3) rfl (hF.ev rfl) (hF.ev rfl) sz35 rfl rfl ?_; intro w19 hS_; replace hS := hS_; clear hS_; dsimp only [List.set, Nat.reduceAdd] at hS
  refine wl_mvs (A := [_]) hF rfl ?_; clear hF a; intro a hF
  refine wl_nil (hK20 _ _ ?_)
  refine wp_ret ?_
  try simp only [Exit.then, Exit.inBlock, ↓reduceIte]
  have e := ro_done (show replay c es order (List.replicate es.length false) (newModel c) = some (used, m) from by rw [← hr, List.drop_of_length_le (by omega)]; rfl) c64.1 c64.2
  refine ret2c rfl ag35 hF hS (i := 3) rfl sz35 rfl rfl ⟨vs, ?_, ?_⟩
  · first | (rw [e]; done) | (rw [e]; rfl)
  · rw [e]; exact hS.pick [2] (by decide) rfl

set_option maxHeartbeats 4000000 in
set_option maxRecDepth 20000 in
theorem implReplay_c {W : World} {c : Config} {va vo : Value} {es : List Sl.Event} {order : List Int} (ha : eventEK.Rd W va es) (ho : intEK.Rd W vo order) (hze : es.length ≤ 1048576) : Calls Try.prog 30 #[.agg c.enc.toArray, va, vo] W (Ret (Mk W (fun vs => .tuple #[.agg (modelEK.cells (replayOrder c es order).1 vs).toArray, .bool (replayOrder c es order).2]) (fun vs => [Part modelEK (replayOrder c es order).1 vs]))) := by
  refine calls_fr Try.func30 rfl Try.ntmps30 rfl ?_
  intro a hF
  have hS := Sep.refl W
  obtain ⟨A_e, q_e, rfl, hq_e, hn_e⟩ := ha.sl; unfold maxLen at hn_e
  obtain ⟨A_o, q_o, rfl, hq_o, hn_o⟩ := ho.sl; unfold maxLen at hn_o
  have hnm := (newModel_cnt c).2
  refine ws fun K1 hK1 => ?_
  refine wl_box (cs := [_, _, _, _, _, _]) hF hS rfl (hF.ev rfl) rfl ?_; clear hF a; intro g1 w1 a hS_ hB_ hF; replace hS := hS_; clear hS_ hB_
  refine wl_alloc hF hS rfl zr35 ?_; clear hF a; intro g2 w2 a hS_ hB_ hF; replace hS := hS_; clear hS_ hB_
  refine wl_mvs (A := [_]) hF rfl ?_; clear hF a; intro a hF
  refine wl_nil (hK1 _ _ ?_)
  refine wp_seq_k fun K2 hK2 => ?_
  refine ws fun K3 hK3 => ?_
  refine wl hF rfl rfl rfl (r_loadn ag38 (hF.ev rfl) (hS.box_rd (i := 1) rfl) sz38) ?_; clear hF a; intro a hF
  refine wl_call hF rfl rfl rfl (r_call1 en58 (hF.ev rfl)) (implIsConfig_c _) ?_; clear hF a; rintro v w3 a ⟨rfl, hB_⟩ hF; replace hS := hS.ext hB_; clear hB_
  refine wl hF rfl rfl rfl (r_not (hF.ev rfl)) ?_; clear hF a; intro a hF
  refine wl_nil (hK3 _ _ ?_)
  refine wc_fx (t := 16) hF rfl ?_ ?_ <;> clear hF <;> intro c16 hF <;> try simp only [zb1, zb2, zb3, zb4, zb5, zb6, zb7, zb8] at c16
  ·
    refine ws fun K4 hK4 => ?_
    refine wl hF rfl rfl rfl (r_build (bd35) trivial) ?_; clear hF a; intro a hF
    refine wl_storew hF hS (i := 0) rfl (hF.ev rfl) (hF.ev rfl) sz35 rfl rfl ?_; intro w4 hS_; replace hS := hS_; clear hS_; dsimp only [List.set, Nat.reduceAdd] at hS
    refine wl_mvs (A := [_]) hF rfl ?_; clear hF a; intro a hF
    refine wl_nil (hK4 _ _ ?_)
    refine wp_ret ?_
    try simp only [Exit.then, Exit.inBlock, ↓reduceIte]
    first
      | (have e := ro_cfg (es := es) (order := order) c16
         refine ret2c rfl ag35 hF hS (i := 0) rfl sz35 rfl rfl ⟨[], ?_, ?_⟩
         · first | (rw [e]; done) | (rw [e]; rfl)
         · rw [e]; exact (Sep.nilpart (hS.pick [] (by decide) rfl) (model_inner0 _)))
  refine wp_skip ?_
  refine hK2 _ _ ?_
  refine wp_seq_k fun K5 hK5 => ?_
  refine wp_region_todo (is := [0, 2, 3, 1, 4, 5, 6, 7]) [] [6, 7] (by kernel_rfl) hF hS ⟨trivial, by decide, by decide, by decide⟩ (by kernel_rfl) ?_; clear hF; intro hl_ wd hSd
  refine todo_load [1, 6, 7] hl_ (by kernel_rfl) rfl (gw0 rfl) rfl rfl rfl (fun a w_ hF hB_ => r_loadn ag38 (hF.ev rfl) ((hSd.ext hB_).box_rd (i := 1) rfl) sz38) ?_
  refine todo_pure hl_ (by kernel_rfl) rfl (gw0 rfl) rfl rfl rfl (fun a w_ hF => r_move (hF.ev rfl)) ?_
  refine todo_pure hl_ (by kernel_rfl) rfl (gw0 rfl) rfl rfl rfl (fun a w_ hF => r_len ul52 (hF.ev rfl)) ?_
  refine todo_fork [(1, [4, 5, 6, 7]), (4, [1, 5, 6, 7]), (5, [1, 4, 6, 7])] hl_ rfl (by kernel_rfl) (List.forall_mem_cons.2 ⟨?_, List.forall_mem_cons.2 ⟨?_, List.forall_mem_cons.2 ⟨?_, fun _ h_ => nomatch h_⟩⟩⟩)
  ·
    refine op_mk rfl rfl (gw0 rfl) rfl rfl rfl (fun a w_ hF => r_call1 en60 (hF.ev rfl)) (fun w_ hS => implNewModel_c _) ?_; rintro vs19
    refine todo_fork [(4, [5, 6, 7]), (5, [4, 6, 7])] hl_ rfl (by kernel_rfl) (List.forall_mem_cons.2 ⟨?_, List.forall_mem_cons.2 ⟨?_, fun _ h_ => nomatch h_⟩⟩)
    ·
      refine op_op rfl rfl (gw0 rfl) rfl rfl rfl (fun a w_ hF hS => r_make0 boolEK false [] mk84 rfl (fun _ => Sat.nil _ _) (hF.ev rfl) (by omega) (by unfold maxLen; omega)) ?_; intro gm_22
      refine todo_op hl_ rfl (by kernel_rfl) rfl rfl rfl rfl rfl (fun a w_ hF hS => r_alloc0 zr35) ?_; intro g3
      refine todo_fin hl_ rfl (by kernel_rfl) (tl := [_, _]) rfl ?_; clear hS a; intro a w7 hF hA_
      have hS := hA_.sep; clear hA_
      clear hl_; try clear hSd
      try dsimp only [List.cons_append, List.nil_append, List.set] at hS
      try clear wd
      refine wl_storew hF hS (i := 0) rfl (hF.ev rfl) (hF.ev rfl) sz35 rfl rfl ?_; intro w8 hS_; replace hS := hS_; clear hS_; dsimp only [List.set, Nat.reduceAdd] at hS
      refine wl_mvs (A := [_]) hF rfl ?_; clear hF a; intro a hF
      refine wl_nil ⟨rfl, ?_⟩
      refine hK5 _ _ ?_
      refine wp_seq_k fun K6 hK6 => ?_
      refine ws fun K7 hK7 => ?_
      refine wl_mvs (A := [_]) hF rfl ?_; clear hF a; intro a hF
      refine wl hF rfl rfl rfl (r_len ul24 (hF.ev rfl)) ?_; clear hF a; intro a hF
      refine wl_mvs (A := [_]) hF rfl ?_; clear hF a; intro a hF
      refine wl_nil (hK7 _ _ ?_)
      refine wp_block ?_
      replace hS := hS.pull (p := 2) rfl; dsimp only [List.eraseIdx] at hS
      replace hS := hS.pull (p := 1) rfl; dsimp only [List.eraseIdx] at hS
      replace hS := hS.pull (p := 2) rfl; dsimp only [List.eraseIdx] at hS
      have hL_ := ((((((((hF.nil.keep hF (t := 24) rfl).keep hF (t := 23) rfl).keep hF (t := 9) rfl).keep hF (t := 8) rfl).keep hF (t := 7) rfl).keep hF (t := 6) rfl).keep hF (t := 3) rfl).keep hF (t := 1) rfl)
      refine wp_loop_m (σ := Nat × List Bool × Model × List Slv) (fun z L_ => (25, vi z.1) :: L_) (fun z l_ => (Own boolEK (.slice (some ⟨gm_22, 0, none⟩) es.length es.length) z.2.1) :: (Box g3 [sv (z.2.2.2.getD 0 (none, 0, 0)), sv (z.2.2.2.getD 1 (none, 0, 0))]) :: (Part modelEK z.2.2.1 z.2.2.2) :: l_) (fun z => (z.1 ≤ order.length) ∧ (replay c es (order.drop z.1) z.2.1 z.2.2.1 = replay c es order (List.replicate es.length false) (newModel c)) ∧ (z.2.2.1.size ≤ 100) ∧ (z.2.1.length = es.length)) (fun z => order.length - z.1) (0, List.replicate es.length false, newModel c, vs19) (hS) (hL_.keepE hF (t := 25) rfl rfl) ?_ ?_
      · exact ⟨Nat.zero_le _, rfl, (newModel_cnt c).2, List.length_replicate⟩
      clear hF hS hL_ a
      rintro ⟨k, used, m, vs⟩ a w9 ⟨hk, hr, hsz, hlu⟩ hS hF; try dsimp only at hF; try dsimp only at hS; try dsimp only at hk; try dsimp only at hr; try dsimp only at hsz; try dsimp only at hlu
      refine ws fun K8 hK8 => ?_
      refine wl hF rfl rfl rfl (r_lss (hF.ev rfl) (hF.ev rfl)) ?_; clear hF a; intro a hF
      refine wl_nil (hK8 _ _ ?_)
      refine wp_seq_k fun K9 hK9 => ?_
      refine wc_fx (t := 26) hF rfl ?_ ?_ <;> clear hF <;> intro c26 hF <;> try simp only [zb1, zb2, zb3, zb4, zb5, zb6, zb7, zb8] at c26
      ·
        have hlt : k < order.length := by omega
        refine wp_skip ?_
        refine hK9 _ _ ?_
        refine wp_seq_k fun K10 hK10 => ?_
        refine wp_block ?_
        refine ws fun K11 hK11 => ?_
        obtain ⟨g27, o27, m27, q27, hv27, hm27, hl27, hc27⟩ := Rd.atF (ho) (a := a) (X := .tmp 25) (hF.ev rfl) (by omega) (by omega)
        refine wl hF rfl rfl rfl (r_index sl24 ((hF.ev rfl).trans hv27) (hF.ev rfl) (by omega) (by first | omega | (simp at hm27; omega))) ?_; clear hF a; intro a hF
        refine wl hF rfl rfl rfl (r_load1 sc3 (hF.ev rfl) (cellB hS.old (hc27 0 _ rfl))) ?_; clear hF a; intro a hF
        refine wl_mvs (A := [_]) hF rfl ?_; clear hF a; intro a hF
        refine wl_nil (hK11 _ _ ?_)
        refine wp_seq_k fun K12 hK12 => ?_
        refine ws fun K13 hK13 => ?_
        refine wl_mvs (A := [_, _, _]) hF rfl ?_; clear hF a; intro a hF
        refine wl_call hF rfl rfl rfl (r_call3 en63 (hF.ev rfl) (hF.ev rfl) (hF.ev rfl)) (implMayGo_c (hS.rd ha) (hS.own_rd (i := 0) rfl)) ?_; clear hF a; rintro v w10 a ⟨rfl, hB_⟩ hF; replace hS := hS.ext hB_; clear hB_
        refine wl hF rfl rfl rfl (r_not (hF.ev rfl)) ?_; clear hF a; intro a hF
        refine wl_nil (hK13 _ _ ?_)
        refine wc_fx (t := 33) hF rfl ?_ ?_ <;> clear hF <;> intro c33 hF <;> try simp only [zb1, zb2, zb3, zb4, zb5, zb6, zb7, zb8] at c33
        ·
          refine ws fun K14 hK14 => ?_
          refine wl hF rfl rfl rfl (r_build (bd35) trivial) ?_; clear hF a; intro a hF
          refine wl_storew hF hS (i := 3) rfl (hF.ev rfl) (hF.ev rfl) sz35 rfl rfl ?_; intro w11 hS_; replace hS := hS_; clear hS_; dsimp only [List.set, Nat.reduceAdd] at hS
          refine wl_mvs (A := [_]) hF rfl ?_; clear hF a; intro a hF
          refine wl_nil (hK14 _ _ ?_)
          refine wp_ret ?_
          try simp only [Exit.then, Exit.inBlock, ↓reduceIte]
          first
            | (have e := ro_none (hr.symm.trans (rp_no1 (by omega) c33))
               refine ret2c rfl ag35 hF hS (i := 3) rfl sz35 rfl rfl ⟨[], ?_, ?_⟩
               · first | (rw [e]; done) | (rw [e]; rfl)
               · rw [e]; exact (Sep.nilpart (hS.pick [] (by decide) rfl) (model_inner0 _)))
        have hgo := c33
        have hin := mayGo_in hgo
        refine wp_skip ?_
        refine hK12 _ _ ?_
        refine wp_seq_k fun K15 hK15 => ?_
        refine wp_region_todo (is := [0, 1, 2, 3, 4, 5, 6, 7, 8, 9, 11, 12]) [(10, 12, [.slice none 0 0, .slice none 0 0])] [11, 12] (by kernel_rfl) hF hS ⟨⟨⟨_, _, _, rfl, zr35⟩, trivial⟩, by decide, by decide, by decide⟩ (by kernel_rfl) ?_; clear hF; intro hl_ wd hSd
        refine todo_load [6, 7, 8, 9, 11, 12] hl_ (by kernel_rfl) rfl (gw0 rfl) rfl rfl rfl (fun a w_ hF hB_ => r_loadn ag38 (hF.ev rfl) ((hSd.ext hB_).box_rd (i := 4) rfl) sz38) ?_
        refine todo_load [6, 7, 8, 9, 11, 12] hl_ (by kernel_rfl) rfl (gw0 rfl) rfl rfl rfl (fun a w_ hF hB_ => r_loadn ag35 (hF.ev rfl) ((hSd.ext hB_).box_rd (i := 1) rfl) sz35) ?_
        refine todo_pure hl_ (by kernel_rfl) rfl (gw0 rfl) rfl rfl rfl (fun a w_ hF => r_move (hF.ev rfl)) ?_
        refine todo_pure hl_ (by kernel_rfl) rfl (gw0 rfl) rfl rfl rfl (fun a w_ hF => r_move (hF.ev rfl)) ?_
        obtain ⟨g40, o40, m40, q40, hv40, hm40, hl40, hc40⟩ := Rd.idxF (ha) (at0_get (i := (at0 order (k : Int))) (by omega) (by omega))
        refine todo_pure hl_ (by kernel_rfl) rfl (gw0 rfl) rfl rfl rfl (fun a w_ hF => r_index sl52 ((hF.ev rfl).trans hv40) (hF.ev rfl) (by omega) (by first | omega | (simp at hm40; omega))) ?_
        refine todo_load [6, 7, 8, 9, 11, 12] hl_ (by kernel_rfl) rfl (gw0 rfl) rfl rfl rfl (fun a w_ hF hB_ => r_loadn ag44 (hF.ev rfl) (fun j_ u_ hu_ => cellB (hSd.ext hB_).old (hc40 j_ u_ hu_)) sz44) ?_
        refine todo_mk hl_ rfl (by kernel_rfl) rfl rfl rfl rfl rfl (fun a w_ hF => r_call3 en13 (hF.ev rfl) (hF.ev rfl) (hF.ev rfl)) (fun w_ hS => implExplains_c (hS.part_k (i := 2) rfl) (by omega)) ?_; rintro vs42
        refine todo_pure hl_ (by kernel_rfl) rfl (gw0 rfl) rfl rfl rfl (fun a w_ hF => r_move (hF.ev rfl)) ?_
        refine todo_pure hl_ (by kernel_rfl) rfl (gw0 rfl) rfl rfl rfl (fun a w_ hF => r_extract (hF.ev rfl) rfl) ?_
        refine todo_pure hl_ (by kernel_rfl) rfl (gw0 rfl) rfl rfl rfl (fun a w_ hF => r_extract (hF.ev rfl) rfl) ?_
        refine todo_fin hl_ rfl (by kernel_rfl) (tl := [_, _]) rfl ?_; clear hS a; intro a w12 hF hA_
        obtain ⟨g4, hS, he_0⟩ := hA_.open1; clear hA_
        replace hF := hF.more he_0; clear he_0
        clear hl_; try clear hSd
        try dsimp only [List.cons_append, List.nil_append, List.set] at hS
        try clear wd
        refine wl_storew hF hS (i := 0) rfl (hF.ev rfl) (hF.ev rfl) sz35 rfl rfl ?_; intro w13 hS_; replace hS := hS_; clear hS_; dsimp only [List.set, Nat.reduceAdd] at hS
        refine wl_mvs (A := [_]) hF rfl ?_; clear hF a; intro a hF
        refine wl_nil ⟨rfl, ?_⟩
        refine hK15 _ _ ?_
        refine wp_seq_k fun K16 hK16 => ?_
        refine ws fun K17 hK17 => ?_
        refine wl_mvs (A := [_]) hF rfl ?_; clear hF a; intro a hF
        refine wl hF rfl rfl rfl (r_not (hF.ev rfl)) ?_; clear hF a; intro a hF
        refine wl_nil (hK17 _ _ ?_)
        refine wc_fx (t := 46) hF rfl ?_ ?_ <;> clear hF <;> intro c46 hF <;> try simp only [zb1, zb2, zb3, zb4, zb5, zb6, zb7, zb8] at c46
        ·
          refine ws fun K18 hK18 => ?_
          refine wl hF rfl rfl rfl (r_build (bd35) trivial) ?_; clear hF a; intro a hF
          refine wl_storew hF hS (i := 5) rfl (hF.ev rfl) (hF.ev rfl) sz35 rfl rfl ?_; intro w14 hS_; replace hS := hS_; clear hS_; dsimp only [List.set, Nat.reduceAdd] at hS
          refine wl_mvs (A := [_]) hF rfl ?_; clear hF a; intro a hF
          refine wl_nil (hK18 _ _ ?_)
          refine wp_ret ?_
          try simp only [Exit.then, Exit.inBlock, ↓reduceIte]
          first
            | (have e := ro_none (hr.symm.trans (rp_no2 (by omega) c46))
               refine ret2c rfl ag35 hF hS (i := 5) rfl sz35 rfl rfl ⟨[], ?_, ?_⟩
               · first | (rw [e]; done) | (rw [e]; rfl)
               · rw [e]; exact (Sep.nilpart (hS.pick [] (by decide) rfl) (model_inner0 _)))
        have hex := c46
        refine wp_skip ?_
        refine hK16 _ _ ?_
        refine wp_region_lit ?_
        refine wl_mvs (A := [_, _]) hF rfl ?_; clear hF a; intro a hF
        refine wl hF rfl rfl rfl (r_loadn ag35 (hF.ev rfl) (hS.box_rd (i := 0) rfl) sz35) ?_; clear hF a; intro a hF
        refine wl_storew hF hS (i := 3) rfl (hF.ev rfl) (hF.ev rfl) sz35 rfl rfl ?_; intro w15 hS_; replace hS := hS_; clear hS_; dsimp only [List.set, Nat.reduceAdd] at hS
        obtain ⟨g51, o51, m51, q51, hv51, hm51, hl51, hc51⟩ := Rd.atF ((hS.own_rd (i := 2) rfl)) (a := a) (X := .tmp 49) (hF.ev rfl) (by omega) (by omega)
        refine wl hF rfl rfl rfl (r_index sl84 ((hF.ev rfl).trans hv51) (hF.ev rfl) (by omega) (by first | omega | (simp at hm51; omega))) ?_; clear hF a; intro a hF
        refine wl_tstore (q := 2) hF hS rfl hv51 (by omega) (by omega) sz4 (hF.ev rfl) rfl ec ?_; intro w16 hS_; replace hS := hS_; clear hS_; dsimp only [List.set] at hS
        refine wl_nil ?_
        simp only [Exit.then, Exit.inBlock, ↓reduceIte]
        refine hK10 _ _ ?_
        refine wp_region_lit ?_
        refine wl hF rfl rfl rfl (r_add (hF.ev rfl) ec) ?_; clear hF a; intro a hF
        refine wl_mvs (A := [_]) hF rfl ?_; clear hF a; intro a hF
        refine wl_nil ?_
        try simp only [Exit.then, Exit.inBlock, ↓reduceIte]
        refine ⟨(k + 1, used.set (at0 order (k : Int)).toNat true, (explains c m (at0 es (at0 order (k : Int)))).1, vs42), ⟨by dsimp only; omega, (rp_next (by omega) hgo hex).symm.trans hr, explains_small hex, by simp only [List.length_set]; exact hlu⟩, (hS.pick [2, 3, 1, 5, 6] (by decide) rfl), (((((((((hF.nil.keep hF (t := 24) rfl).keep hF (t := 23) rfl).keep hF (t := 9) rfl).keep hF (t := 8) rfl).keep hF (t := 7) rfl).keep hF (t := 6) rfl).keep hF (t := 3) rfl).keep hF (t := 1) rfl).keepE hF (t := 25) rfl (wk (by omega))), by dsimp only; omega⟩
      refine wp_exit ?_
      simp only [Exit.then, Exit.inBlock, ↓reduceIte]
      refine hK6 _ _ ?_
      refine wp_seq_k fun K19 hK19 => ?_
      refine ws fun K20 hK20 => ?_
      refine wl_mvs (A := [_, _]) hF rfl ?_; clear hF a; intro a hF
      refine wl_call hF rfl rfl rfl (r_call2 en64 (hF.ev rfl) (hF.ev rfl)) (complete_c (hS.rd ha) (hS.own_rd (i := 0) rfl) (by omega)) ?_; clear hF a; rintro v w17 a ⟨rfl, hB_⟩ hF; replace hS := hS.ext hB_; clear hB_
      refine wl hF rfl rfl rfl (r_not (hF.ev rfl)) ?_; clear hF a; intro a hF
      refine wl_nil (hK20 _ _ ?_)
      refine wc_fx (t := 56) hF rfl ?_ ?_ <;> clear hF <;> intro c56 hF <;> try simp only [zb1, zb2, zb3, zb4, zb5, zb6, zb7, zb8] at c56
      ·
        refine ws fun K21 hK21 => ?_
        refine wl hF rfl rfl rfl (r_build (bd35) trivial) ?_; clear hF a; intro a hF
        refine wl_storew hF hS (i := 3) rfl (hF.ev rfl) (hF.ev rfl) sz35 rfl rfl ?_; intro w18 hS_; replace hS := hS_; clear hS_; dsimp only [List.set, Nat.reduceAdd] at hS
        refine wl_mvs (A := [_]) hF rfl ?_; clear hF a; intro a hF
        refine wl_nil (hK21 _ _ ?_)
        refine wp_ret ?_
        try simp only [Exit.then, Exit.inBlock, ↓reduceIte]
        first
          | (have e := ro_not (show replay c es order (List.replicate es.length false) (newModel c) = some (used, m) from by rw [← hr, List.drop_of_length_le (by omega)]; rfl) (.inr c56)
             refine ret2c rfl ag35 hF hS (i := 3) rfl sz35 rfl rfl ⟨[], ?_, ?_⟩
             · first | (rw [e]; done) | (rw [e]; rfl)
             · rw [e]; exact (Sep.nilpart (hS.pick [] (by decide) rfl) (model_inner0 _)))
      refine wp_skip ?_
      refine hK19 _ _ ?_
      refine ws fun K22 hK22 => ?_
      refine wl hF rfl rfl rfl (r_loadn ag35 (hF.ev rfl) (hS.box_rd (i := 1) rfl) sz35) ?_; clear hF a; intro a hF
      refine wl_storew hF hS (i := 3) rfl (hF.ev rfl) (hF.ev rfl) sz35 rfl rfl ?_; intro w19 hS_; replace hS := hS_; clear hS_; dsimp only [List.set, Nat.reduceAdd] at hS
      refine wl_mvs (A := [_]) hF rfl ?_; clear hF a; intro a hF
      refine wl_nil (hK22 _ _ ?_)
      refine wp_ret ?_
      try simp only [Exit.then, Exit.inBlock, ↓reduceIte]
      have e := ro_done (show replay c es order (List.replicate es.length false) (newModel c) = some (used, m) from by rw [← hr, List.drop_of_length_le (by omega)]; rfl) c16 c56
      refine ret2c rfl ag35 hF hS (i := 3) rfl sz35 rfl rfl ⟨vs, ?_, ?_⟩
      · first | (rw [e]; done) | (rw [e]; rfl)
      · rw [e]; exact hS.pick [2] (by decide) rfl
    ·
      refine op_op rfl rfl (gw0 rfl) rfl rfl rfl (fun a w_ hF hS => r_alloc0 zr35) ?_; intro g3
      refine todo_fork [(4, [6, 7]), (6, [4, 7])] hl_ rfl (by kernel_rfl) (List.forall_mem_cons.2 ⟨?_, List.forall_mem_cons.2 ⟨?_, fun _ h_ => nomatch h_⟩⟩)
      ·
        refine op_op rfl rfl (gw0 rfl) rfl rfl rfl (fun a w_ hF hS => r_make0 boolEK false [] mk84 rfl (fun _ => Sat.nil _ _) (hF.ev rfl) (by omega) (by unfold maxLen; omega)) ?_; intro gm_22
        refine todo_fin hl_ rfl (by kernel_rfl) (tl := [_, _]) rfl ?_; clear hS a; intro a w22 hF hA_
        have hS := hA_.sep; clear hA_
        clear hl_; try clear hSd
        try dsimp only [List.cons_append, List.nil_append, List.set] at hS
        try clear wd
        refine wl_storew hF hS (i := 1) rfl (hF.ev rfl) (hF.ev rfl) sz35 rfl rfl ?_; intro w23 hS_; replace hS := hS_; clear hS_; dsimp only [List.set, Nat.reduceAdd] at hS
        refine wl_mvs (A := [_]) hF rfl ?_; clear hF a; intro a hF
        refine wl_nil ⟨rfl, ?_⟩
        refine hK5 _ _ ?_
        refine wp_seq_k fun K23 hK23 => ?_
        refine ws fun K24 hK24 => ?_
        refine wl_mvs (A := [_]) hF rfl ?_; clear hF a; intro a hF
        refine wl hF rfl rfl rfl (r_len ul24 (hF.ev rfl)) ?_; clear hF a; intro a hF
        refine wl_mvs (A := [_]) hF rfl ?_; clear hF a; intro a hF
        refine wl_nil (hK24 _ _ ?_)
        refine wp_block ?_
        replace hS := hS.pull (p := 2) rfl; dsimp only [List.eraseIdx] at hS
        replace hS := hS.pull (p := 2) rfl; dsimp only [List.eraseIdx] at hS
        replace hS := hS.pull (p := 2) rfl; dsimp only [List.eraseIdx] at hS
        have hL_ := ((((((((hF.nil.keep hF (t := 24) rfl).keep hF (t := 23) rfl).keep hF (t := 9) rfl).keep hF (t := 8) rfl).keep hF (t := 7) rfl).keep hF (t := 6) rfl).keep hF (t := 3) rfl).keep hF (t := 1) rfl)
        refine wp_loop_m (σ := Nat × List Bool × Model × List Slv) (fun z L_ => (25, vi z.1) :: L_) (fun z l_ => (Own boolEK (.slice (some ⟨gm_22, 0, none⟩) es.length es.length) z.2.1) :: (Box g3 [sv (z.2.2.2.getD 0 (none, 0, 0)), sv (z.2.2.2.getD 1 (none, 0, 0))]) :: (Part modelEK z.2.2.1 z.2.2.2) :: l_) (fun z => (z.1 ≤ order.length) ∧ (replay c es (order.drop z.1) z.2.1 z.2.2.1 = replay c es order (List.replicate es.length false) (newModel c)) ∧ (z.2.2.1.size ≤ 100) ∧ (z.2.1.length = es.length)) (fun z => order.length - z.1) (0, List.replicate es.length false, newModel c, vs19) (hS) (hL_.keepE hF (t := 25) rfl rfl) ?_ ?_
        · exact ⟨Nat.zero_le _, rfl, (newModel_cnt c).2, List.length_replicate⟩
        clear hF hS hL_ a
        rintro ⟨k, used, m, vs⟩ a w24 ⟨hk, hr, hsz, hlu⟩ hS hF; try dsimp only at hF; try dsimp only at hS; try dsimp only at hk; try dsimp only at hr; try dsimp only at hsz; try dsimp only at hlu
        refine ws fun K25 hK25 => ?_
        refine wl hF rfl rfl rfl (r_lss (hF.ev rfl) (hF.ev rfl)) ?_; clear hF a; intro a hF
        refine wl_nil (hK25 _ _ ?_)
        refine wp_seq_k fun K26 hK26 => ?_
        refine wc_fx (t := 26) hF rfl ?_ ?_ <;> clear hF <;> intro c26 hF <;> try simp only [zb1, zb2, zb3, zb4, zb5, zb6, zb7, zb8] at c26
        ·
          have hlt : k < order.length := by omega
          refine wp_skip ?_
          refine hK26 _ _ ?_
          refine wp_seq_k fun K27 hK27 => ?_
          refine wp_block ?_
          refine ws fun K28 hK28 => ?_
          obtain ⟨g27, o27, m27, q27, hv27, hm27, hl27, hc27⟩ := Rd.atF (ho) (a := a) (X := .tmp 25) (hF.ev rfl) (by omega) (by omega)
          refine wl hF rfl rfl rfl (r_index sl24 ((hF.ev rfl).trans hv27) (hF.ev rfl) (by omega) (by first | omega | (simp at hm27; omega))) ?_; clear hF a; intro a hF
          refine wl hF rfl rfl rfl (r_load1 sc3 (hF.ev rfl) (cellB hS.old (hc27 0 _ rfl))) ?_; clear hF a; intro a hF
          refine wl_mvs (A := [_]) hF rfl ?_; clear hF a; intro a hF
          refine wl_nil (hK28 _ _ ?_)
          refine wp_seq_k fun K29 hK29 => ?_
          refine ws fun K30 hK30 => ?_
          refine wl_mvs (A := [_, _, _]) hF rfl ?_; clear hF a; intro a hF
          refine wl_call hF rfl rfl rfl (r_call3 en63 (hF.ev rfl) (hF.ev rfl) (hF.ev rfl)) (implMayGo_c (hS.rd ha) (hS.own_rd (i := 0) rfl)) ?_; clear hF a; rintro v w25 a ⟨rfl, hB_⟩ hF; replace hS := hS.ext hB_; clear hB_
          refine wl hF rfl rfl rfl (r_not (hF.ev rfl)) ?_; clear hF a; intro a hF
          refine wl_nil (hK30 _ _ ?_)
          refine wc_fx (t := 33) hF rfl ?_ ?_ <;> clear hF <;> intro c33 hF <;> try simp only [zb1, zb2, zb3, zb4, zb5, zb6, zb7, zb8] at c33
          ·
            refine ws fun K31 hK31 => ?_
            refine wl hF rfl rfl rfl (r_build (bd35) trivial) ?_; clear hF a; intro a hF
            refine wl_storew hF hS (i := 3) rfl (hF.ev rfl) (hF.ev rfl) sz35 rfl rfl ?_; intro w26 hS_; replace hS := hS_; clear hS_; dsimp only [List.set, Nat.reduceAdd] at hS
            refine wl_mvs (A := [_]) hF rfl ?_; clear hF a; intro a hF
            refine wl_nil (hK31 _ _ ?_)
            refine wp_ret ?_
            try simp only [Exit.then, Exit.inBlock, ↓reduceIte]
            first
              | (have e := ro_none (hr.symm.trans (rp_no1 (by omega) c33))
                 refine ret2c rfl ag35 hF hS (i := 3) rfl sz35 rfl rfl ⟨[], ?_, ?_⟩
                 · first | (rw [e]; done) | (rw [e]; rfl)
                 · rw [e]; exact (Sep.nilpart (hS.pick [] (by decide) rfl) (model_inner0 _)))
          have hgo := c33
          have hin := mayGo_in hgo
          refine wp_skip ?_
          refine hK29 _ _ ?_
          refine wp_seq_k fun K32 hK32 => ?_
          refine wp_region_todo (is := [0, 1, 2, 3, 4, 5, 6, 7, 8, 9, 11, 12]) [(10, 12, [.slice none 0 0, .slice none 0 0])] [11, 12] (by kernel_rfl) hF hS ⟨⟨⟨_, _, _, rfl, zr35⟩, trivial⟩, by decide, by decide, by decide⟩ (by kernel_rfl) ?_; clear hF; intro hl_ wd hSd
          refine todo_load [6, 7, 8, 9, 11, 12] hl_ (by kernel_rfl) rfl (gw0 rfl) rfl rfl rfl (fun a w_ hF hB_ => r_loadn ag38 (hF.ev rfl) ((hSd.ext hB_).box_rd (i := 4) rfl) sz38) ?_
          refine todo_load [6, 7, 8, 9, 11, 12] hl_ (by kernel_rfl) rfl (gw0 rfl) rfl rfl rfl (fun a w_ hF hB_ => r_loadn ag35 (hF.ev rfl) ((hSd.ext hB_).box_rd (i := 1) rfl) sz35) ?_
          refine todo_pure hl_ (by kernel_rfl) rfl (gw0 rfl) rfl rfl rfl (fun a w_ hF => r_move (hF.ev rfl)) ?_
          refine todo_pure hl_ (by kernel_rfl) rfl (gw0 rfl) rfl rfl rfl (fun a w_ hF => r_move (hF.ev rfl)) ?_
          obtain ⟨g40, o40, m40, q40, hv40, hm40, hl40, hc40⟩ := Rd.idxF (ha) (at0_get (i := (at0 order (k : Int))) (by omega) (by omega))
          refine todo_pure hl_ (by kernel_rfl) rfl (gw0 rfl) rfl rfl rfl (fun a w_ hF => r_index sl52 ((hF.ev rfl).trans hv40) (hF.ev rfl) (by omega) (by first | omega | (simp at hm40; omega))) ?_
          refine todo_load [6, 7, 8, 9, 11, 12] hl_ (by kernel_rfl) rfl (gw0 rfl) rfl rfl rfl (fun a w_ hF hB_ => r_loadn ag44 (hF.ev rfl) (fun j_ u_ hu_ => cellB (hSd.ext hB_).old (hc40 j_ u_ hu_)) sz44) ?_
          refine todo_mk hl_ rfl (by kernel_rfl) rfl rfl rfl rfl rfl (fun a w_ hF => r_call3 en13 (hF.ev rfl) (hF.ev rfl) (hF.ev rfl)) (fun w_ hS => implExplains_c (hS.part_k (i := 2) rfl) (by omega)) ?_; rintro vs42
          refine todo_pure hl_ (by kernel_rfl) rfl (gw0 rfl) rfl rfl rfl (fun a w_ hF => r_move (hF.ev rfl)) ?_
          refine todo_pure hl_ (by kernel_rfl) rfl (gw0 rfl) rfl rfl rfl (fun a w_ hF => r_extract (hF.ev rfl) rfl) ?_
          refine todo_pure hl_ (by kernel_rfl) rfl (gw0 rfl) rfl rfl rfl (fun a w_ hF => r_extract (hF.ev rfl) rfl) ?_
          refine todo_fin hl_ rfl (by kernel_rfl) (tl := [_, _]) rfl ?_; clear hS a; intro a w27 hF hA_
          obtain ⟨g4, hS, he_0⟩ := hA_.open1; clear hA_
          replace hF := hF.more he_0; clear he_0
          clear hl_; try clear hSd
          try dsimp only [List.cons_append, List.nil_append, List.set] at hS
          try clear wd
          refine wl_storew hF hS (i := 0) rfl (hF.ev rfl) (hF.ev rfl) sz35 rfl rfl ?_; intro w28 hS_; replace hS := hS_; clear hS_; dsimp only [List.set, Nat.reduceAdd] at hS
          refine wl_mvs (A := [_]) hF rfl ?_; clear hF a; intro a hF
          refine wl_nil ⟨rfl, ?_⟩
          refine hK32 _ _ ?_
          refine wp_seq_k fun K33 hK33 => ?_
          refine ws fun K34 hK34 => ?_
          refine wl_mvs (A := [_]) hF rfl ?_; clear hF a; intro a hF
          refine wl hF rfl rfl rfl (r_not (hF.ev rfl)) ?_; clear hF a; intro a hF
          refine wl_nil (hK34 _ _ ?_)
          refine wc_fx (t := 46) hF rfl ?_ ?_ <;> clear hF <;> intro c46 hF <;> try simp only [zb1, zb2, zb3, zb4, zb5, zb6, zb7, zb8] at c46
          ·
            refine ws fun K35 hK35 => ?_
            refine wl hF rfl rfl rfl (r_build (bd35) trivial) ?_; clear hF a; intro a hF
            refine wl_storew hF hS (i := 5) rfl (hF.ev rfl) (hF.ev rfl) sz35 rfl rfl ?_; intro w29 hS_; replace hS := hS_; clear hS_; dsimp only [List.set, Nat.reduceAdd] at hS
            refine wl_mvs (A := [_]) hF rfl ?_; clear hF a; intro a hF
            refine wl_nil (hK35 _ _ ?_)
            refine wp_ret ?_
            try simp only [Exit.then, Exit.inBlock, ↓reduceIte]
            first
              | (have e := ro_none (hr.symm.trans (rp_no2 (by omega) c46))
                 refine ret2c rfl ag35 hF hS (i := 5) rfl sz35 rfl rfl ⟨[], ?_, ?_⟩
                 · first | (rw [e]; done) | (rw [e]; rfl)
                 · rw [e]; exact (Sep.nilpart (hS.pick [] (by decide) rfl) (model_inner0 _)))
          have hex := c46
          refine wp_skip ?_
          refine hK33 _ _ ?_
          refine wp_region_lit ?_
          refine wl_mvs (A := [_, _]) hF rfl ?_; clear hF a; intro a hF
          refine wl hF rfl rfl rfl (r_loadn ag35 (hF.ev rfl) (hS.box_rd (i := 0) rfl) sz35) ?_; clear hF a; intro a hF
          refine wl_storew hF hS (i := 3) rfl (hF.ev rfl) (hF.ev rfl) sz35 rfl rfl ?_; intro w30 hS_; replace hS := hS_; clear hS_; dsimp only [List.set, Nat.reduceAdd] at hS
          obtain ⟨g51, o51, m51, q51, hv51, hm51, hl51, hc51⟩ := Rd.atF ((hS.own_rd (i := 2) rfl)) (a := a) (X := .tmp 49) (hF.ev rfl) (by omega) (by omega)
          refine wl hF rfl rfl rfl (r_index sl84 ((hF.ev rfl).trans hv51) (hF.ev rfl) (by omega) (by first | omega | (simp at hm51; omega))) ?_; clear hF a; intro a hF
          refine wl_tstore (q := 2) hF hS rfl hv51 (by omega) (by omega) sz4 (hF.ev rfl) rfl ec ?_; intro w31 hS_; replace hS := hS_; clear hS_; dsimp only [List.set] at hS
          refine wl_nil ?_
          simp only [Exit.then, Exit.inBlock, ↓reduceIte]
          refine hK27 _ _ ?_
          refine wp_region_lit ?_
          refine wl hF rfl rfl rfl (r_add (hF.ev rfl) ec) ?_; clear hF a; intro a hF
          refine wl_mvs (A := [_]) hF rfl ?_; clear hF a; intro a hF
          refine wl_nil ?_
          try simp only [Exit.then, Exit.inBlock, ↓reduceIte]
          refine ⟨(k + 1, used.set (at0 order (k : Int)).toNat true, (explains c m (at0 es (at0 order (k : Int)))).1, vs42), ⟨by dsimp only; omega, (rp_next (by omega) hgo hex).symm.trans hr, explains_small hex, by simp only [List.length_set]; exact hlu⟩, (hS.pick [2, 3, 1, 5, 6] (by decide) rfl), (((((((((hF.nil.keep hF (t := 24) rfl).keep hF (t := 23) rfl).keep hF (t := 9) rfl).keep hF (t := 8) rfl).keep hF (t := 7) rfl).keep hF (t := 6) rfl).keep hF (t := 3) rfl).keep hF (t := 1) rfl).keepE hF (t := 25) rfl (wk (by omega))), by dsimp only; omega⟩
        refine wp_exit ?_
        simp only [Exit.then, Exit.inBlock, ↓reduceIte]
        refine hK23 _ _ ?_
        refine wp_seq_k fun K36 hK36 => ?_
        refine ws fun K37 hK37 => ?_
        refine wl_mvs (A := [_, _]) hF rfl ?_; clear hF a; intro a hF
        refine wl_call hF rfl rfl rfl (r_call2 en64 (hF.ev rfl) (hF.ev rfl)) (complete_c (hS.rd ha) (hS.own_rd (i := 0) rfl) (by omega)) ?_; clear hF a; rintro v w32 a ⟨rfl, hB_⟩ hF; replace hS := hS.ext hB_; clear hB_
        refine wl hF rfl rfl rfl (r_not (hF.ev rfl)) ?_; clear hF a; intro a hF
        refine wl_nil (hK37 _ _ ?_)
        refine wc_fx (t := 56) hF rfl ?_ ?_ <;> clear hF <;> intro c56 hF <;> try simp only [zb1, zb2, zb3, zb4, zb5, zb6, zb7, zb8] at c56
        ·
          refine ws fun K38 hK38 => ?_
          refine wl hF rfl rfl rfl (r_build (bd35) trivial) ?_; clear hF a; intro a hF
          refine wl_storew hF hS (i := 3) rfl (hF.ev rfl) (hF.ev rfl) sz35 rfl rfl ?_; intro w33 hS_; replace hS := hS_; clear hS_; dsimp only [List.set, Nat.reduceAdd] at hS
          refine wl_mvs (A := [_]) hF rfl ?_; clear hF a; intro a hF
          refine wl_nil (hK38 _ _ ?_)
          refine wp_ret ?_
          try simp only [Exit.then, Exit.inBlock, ↓reduceIte]
          first
            | (have e := ro_not (show replay c es order (List.replicate es.length false) (newModel c) = some (used, m) from by rw [← hr, List.drop_of_length_le (by omega)]; rfl) (.inr c56)
               refine ret2c rfl ag35 hF hS (i := 3) rfl sz35 rfl rfl ⟨[], ?_, ?_⟩
               · first | (rw [e]; done) | (rw [e]; rfl)
               · rw [e]; exact (Sep.nilpart (hS.pick [] (by decide) rfl) (model_inner0 _)))
        refine wp_skip ?_
        refine hK36 _ _ ?_
        refine ws fun K39 hK39 => ?_
        refine wl hF rfl rfl rfl (r_loadn ag35 (hF.ev rfl) (hS.box_rd (i := 1) rfl) sz35) ?_; clear hF a; intro a hF
        refine wl_storew hF hS (i := 3) rfl (hF.ev rfl) (hF.ev rfl) sz35 rfl rfl ?_; intro w34 hS_; replace hS := hS_; clear hS_; dsimp only [List.set, Nat.reduceAdd] at hS
        refine wl_mvs (A := [_]) hF rfl ?_; clear hF a; intro a hF
        refine wl_nil (hK39 _ _ ?_)
        refine wp_ret ?_
        try simp only [Exit.then, Exit.inBlock, ↓reduceIte]
        have e := ro_done (show replay c es order (List.replicate es.length false) (newModel c) = some (used, m) from by rw [← hr, List.drop_of_length_le (by omega)]; rfl) c16 c56
        refine ret2c rfl ag35 hF hS (i := 3) rfl sz35 rfl rfl ⟨vs, ?_, ?_⟩
        · first | (rw [e]; done) | (rw [e]; rfl)
        · rw [e]; exact hS.pick [2] (by decide) rfl
      ·
        refine op_st (j := 0) (m' := [7]) rfl rfl (by kernel_rfl) rfl (fun a hF => (hF.ev rfl)) (fun a hF => (hF.ev rfl)) sz35 rfl rfl ?_; try clear hSd; try clear wd; intro wd hSd; try dsimp only [List.set] at hSd
        refine todo_op hl_ rfl (by kernel_rfl) rfl rfl rfl rfl rfl (fun a w_ hF hS => r_make0 boolEK false [] mk84 rfl (fun _ => Sat.nil _ _) (hF.ev rfl) (by omega) (by unfold maxLen; omega)) ?_; intro gm_22
        refine todo_fin hl_ rfl (by kernel_rfl) (tl := [_]) rfl ?_; clear hS a; intro a w36 hF hA_
        have hS := hA_.sep; clear hA_
        clear hl_; try clear hSd
        try dsimp only [List.cons_append, List.nil_append, List.set] at hS
        try clear wd
        refine wl_mvs (A := [_]) hF rfl ?_; clear hF a; intro a hF
        refine wl_nil ⟨rfl, ?_⟩
        refine hK5 _ _ ?_
        refine wp_seq_k fun K40 hK40 => ?_
        refine ws fun K41 hK41 => ?_
        refine wl_mvs (A := [_]) hF rfl ?_; clear hF a; intro a hF
        refine wl hF rfl rfl rfl (r_len ul24 (hF.ev rfl)) ?_; clear hF a; intro a hF
        refine wl_mvs (A := [_]) hF rfl ?_; clear hF a; intro a hF
        refine wl_nil (hK41 _ _ ?_)
        refine wp_block ?_
        replace hS := hS.pull (p := 2) rfl; dsimp only [List.eraseIdx] at hS
        replace hS := hS.pull (p := 2) rfl; dsimp only [List.eraseIdx] at hS
        replace hS := hS.pull (p := 2) rfl; dsimp only [List.eraseIdx] at hS
        have hL_ := ((((((((hF.nil.keep hF (t := 24) rfl).keep hF (t := 23) rfl).keep hF (t := 9) rfl).keep hF (t := 8) rfl).keep hF (t := 7) rfl).keep hF (t := 6) rfl).keep hF (t := 3) rfl).keep hF (t := 1) rfl)
        refine wp_loop_m (σ := Nat × List Bool × Model × List Slv) (fun z L_ => (25, vi z.1) :: L_) (fun z l_ => (Own boolEK (.slice (some ⟨gm_22, 0, none⟩) es.length es.length) z.2.1) :: (Box g3 [sv (z.2.2.2.getD 0 (none, 0, 0)), sv (z.2.2.2.getD 1 (none, 0, 0))]) :: (Part modelEK z.2.2.1 z.2.2.2) :: l_) (fun z => (z.1 ≤ order.length) ∧ (replay c es (order.drop z.1) z.2.1 z.2.2.1 = replay c es order (List.replicate es.length false) (newModel c)) ∧ (z.2.2.1.size ≤ 100) ∧ (z.2.1.length = es.length)) (fun z => order.length - z.1) (0, List.replicate es.length false, newModel c, vs19) (hS) (hL_.keepE hF (t := 25) rfl rfl) ?_ ?_
        · exact ⟨Nat.zero_le _, rfl, (newModel_cnt c).2, List.length_replicate⟩
        clear hF hS hL_ a
        rintro ⟨k, used, m, vs⟩ a w37 ⟨hk, hr, hsz, hlu⟩ hS hF; try dsimp only at hF; try dsimp only at hS; try dsimp only at hk; try dsimp only at hr; try dsimp only at hsz; try dsimp only at hlu
        refine ws fun K42 hK42 => ?_
        refine wl hF rfl rfl rfl (r_lss (hF.ev rfl) (hF.ev rfl)) ?_; clear hF a; intro a hF
        refine wl_nil (hK42 _ _ ?_)
        refine wp_seq_k fun K43 hK43 => ?_
        refine wc_fx (t := 26) hF rfl ?_ ?_ <;> clear hF <;> intro c26 hF <;> try simp only [zb1, zb2, zb3, zb4, zb5, zb6, zb7, zb8] at c26
        ·
          have hlt : k < order.length := by omega
          refine wp_skip ?_
          refine hK43 _ _ ?_
          refine wp_seq_k fun K44 hK44 => ?_
          refine wp_block ?_
          refine ws fun K45 hK45 => ?_
          obtain ⟨g27, o27, m27, q27, hv27, hm27, hl27, hc27⟩ := Rd.atF (ho) (a := a) (X := .tmp 25) (hF.ev rfl) (by omega) (by omega)
          refine wl hF rfl rfl rfl (r_index sl24 ((hF.ev rfl).trans hv27) (hF.ev rfl) (by omega) (by first | omega | (simp at hm27; omega))) ?_; clear hF a; intro a hF
          refine wl hF rfl rfl rfl (r_load1 sc3 (hF.ev rfl) (cellB hS.old (hc27 0 _ rfl))) ?_; clear hF a; intro a hF
          refine wl_mvs (A := [_]) hF rfl ?_; clear hF a; intro a hF
          refine wl_nil (hK45 _ _ ?_)
          refine wp_seq_k fun K46 hK46 => ?_
          refine ws fun K47 hK47 => ?_
          refine wl_mvs (A := [_, _, _]) hF rfl ?_; clear hF a; intro a hF
          refine wl_call hF rfl rfl rfl (r_call3 en63 (hF.ev rfl) (hF.ev rfl) (hF.ev rfl)) (implMayGo_c (hS.rd ha) (hS.own_rd (i := 0) rfl)) ?_; clear hF a; rintro v w38 a ⟨rfl, hB_⟩ hF; replace hS := hS.ext hB_; clear hB_
          refine wl hF rfl rfl rfl (r_not (hF.ev rfl)) ?_; clear hF a; intro a hF
          refine wl_nil (hK47 _ _ ?_)
          refine wc_fx (t := 33) hF rfl ?_ ?_ <;> clear hF <;> intro c33 hF <;> try simp only [zb1, zb2, zb3, zb4, zb5, zb6, zb7, zb8] at c33
          ·
            refine ws fun K48 hK48 => ?_
            refine wl hF rfl rfl rfl (r_build (bd35) trivial) ?_; clear hF a; intro a hF
            refine wl_storew hF hS (i := 3) rfl (hF.ev rfl) (hF.ev rfl) sz35 rfl rfl ?_; intro w39 hS_; replace hS := hS_; clear hS_; dsimp only [List.set, Nat.reduceAdd] at hS
            refine wl_mvs (A := [_]) hF rfl ?_; clear hF a; intro a hF
            refine wl_nil (hK48 _ _ ?_)
            refine wp_ret ?_
            try simp only [Exit.then, Exit.inBlock, ↓reduceIte]
            first
              | (have e := ro_none (hr.symm.trans (rp_no1 (by omega) c33))
                 refine ret2c rfl ag35 hF hS (i := 3) rfl sz35 rfl rfl ⟨[], ?_, ?_⟩
                 · first | (rw [e]; done) | (rw [e]; rfl)
                 · rw [e]; exact (Sep.nilpart (hS.pick [] (by decide) rfl) (model_inner0 _)))
          have hgo := c33
          have hin := mayGo_in hgo
          refine wp_skip ?_
          refine hK46 _ _ ?_
          refine wp_seq_k fun K49 hK49 => ?_
          refine wp_region_todo (is := [0, 1, 2, 3, 4, 5, 6, 7, 8, 9, 11, 12]) [(10, 12, [.slice none 0 0, .slice none 0 0])] [11, 12] (by kernel_rfl) hF hS ⟨⟨⟨_, _, _, rfl, zr35⟩, trivial⟩, by decide, by decide, by decide⟩ (by kernel_rfl) ?_; clear hF; intro hl_ wd hSd
          refine todo_load [6, 7, 8, 9, 11, 12] hl_ (by kernel_rfl) rfl (gw0 rfl) rfl rfl rfl (fun a w_ hF hB_ => r_loadn ag38 (hF.ev rfl) ((hSd.ext hB_).box_rd (i := 4) rfl) sz38) ?_
          refine todo_load [6, 7, 8, 9, 11, 12] hl_ (by kernel_rfl) rfl (gw0 rfl) rfl rfl rfl (fun a w_ hF hB_ => r_loadn ag35 (hF.ev rfl) ((hSd.ext hB_).box_rd (i := 1) rfl) sz35) ?_
          refine todo_pure hl_ (by kernel_rfl) rfl (gw0 rfl) rfl rfl rfl (fun a w_ hF => r_move (hF.ev rfl)) ?_
          refine todo_pure hl_ (by kernel_rfl) rfl (gw0 rfl) rfl rfl rfl (fun a w_ hF => r_move (hF.ev rfl)) ?_
          obtain ⟨g40, o40, m40, q40, hv40, hm40, hl40, hc40⟩ := Rd.idxF (ha) (at0_get (i := (at0 order (k : Int))) (by omega) (by omega))
          refine todo_pure hl_ (by kernel_rfl) rfl (gw0 rfl) rfl rfl rfl (fun a w_ hF => r_index sl52 ((hF.ev rfl).trans hv40) (hF.ev rfl) (by omega) (by first | omega | (simp at hm40; omega))) ?_
          refine todo_load [6, 7, 8, 9, 11, 12] hl_ (by kernel_rfl) rfl (gw0 rfl) rfl rfl rfl (fun a w_ hF hB_ => r_loadn ag44 (hF.ev rfl) (fun j_ u_ hu_ => cellB (hSd.ext hB_).old (hc40 j_ u_ hu_)) sz44) ?_
          refine todo_mk hl_ rfl (by kernel_rfl) rfl rfl rfl rfl rfl (fun a w_ hF => r_call3 en13 (hF.ev rfl) (hF.ev rfl) (hF.ev rfl)) (fun w_ hS => implExplains_c (hS.part_k (i := 2) rfl) (by omega)) ?_; rintro vs42
          refine todo_pure hl_ (by kernel_rfl) rfl (gw0 rfl) rfl rfl rfl (fun a w_ hF => r_move (hF.ev rfl)) ?_
          refine todo_pure hl_ (by kernel_rfl) rfl (gw0 rfl) rfl rfl rfl (fun a w_ hF => r_extract (hF.ev rfl) rfl) ?_
          refine todo_pure hl_ (by kernel_rfl) rfl (gw0 rfl) rfl rfl rfl (fun a w_ hF => r_extract (hF.ev rfl) rfl) ?_
          refine todo_fin hl_ rfl (by kernel_rfl) (tl := [_, _]) rfl ?_; clear hS a; intro a w40 hF hA_
          obtain ⟨g4, hS, he_0⟩ := hA_.open1; clear hA_
          replace hF := hF.more he_0; clear he_0
          clear hl_; try clear hSd
          try dsimp only [List.cons_append, List.nil_append, List.set] at hS
          try clear wd
          refine wl_storew hF hS (i := 0) rfl (hF.ev rfl) (hF.ev rfl) sz35 rfl rfl ?_; intro w41 hS_; replace hS := hS_; clear hS_; dsimp only [List.set, Nat.reduceAdd] at hS
          refine wl_mvs (A := [_]) hF rfl ?_; clear hF a; intro a hF
          refine wl_nil ⟨rfl, ?_⟩
          refine hK49 _ _ ?_
          refine wp_seq_k fun K50 hK50 => ?_
          refine ws fun K51 hK51 => ?_
          refine wl_mvs (A := [_]) hF rfl ?_; clear hF a; intro a hF
          refine wl hF rfl rfl rfl (r_not (hF.ev rfl)) ?_; clear hF a; intro a hF
          refine wl_nil (hK51 _ _ ?_)
          refine wc_fx (t := 46) hF rfl ?_ ?_ <;> clear hF <;> intro c46 hF <;> try simp only [zb1, zb2, zb3, zb4, zb5, zb6, zb7, zb8] at c46
          ·
            refine ws fun K52 hK52 => ?_
            refine wl hF rfl rfl rfl (r_build (bd35) trivial) ?_; clear hF a; intro a hF
            refine wl_storew hF hS (i := 5) rfl (hF.ev rfl) (hF.ev rfl) sz35 rfl rfl ?_; intro w42 hS_; replace hS := hS_; clear hS_; dsimp only [List.set, Nat.reduceAdd] at hS
            refine wl_mvs (A := [_]) hF rfl ?_; clear hF a; intro a hF
            refine wl_nil (hK52 _ _ ?_)
            refine wp_ret ?_
            try simp only [Exit.then, Exit.inBlock, ↓reduceIte]
            first
              | (have e := ro_none (hr.symm.trans (rp_no2 (by omega) c46))
                 refine ret2c rfl ag35 hF hS (i := 5) rfl sz35 rfl rfl ⟨[], ?_, ?_⟩
                 · first | (rw [e]; done) | (rw [e]; rfl)
                 · rw [e]; exact (Sep.nilpart (hS.pick [] (by decide) rfl) (model_inner0 _)))
          have hex := c46
          refine wp_skip ?_
          refine hK50 _ _ ?_
          refine wp_region_lit ?_
          refine wl_mvs (A := [_, _]) hF rfl ?_; clear hF a; intro a hF
          refine wl hF rfl rfl rfl (r_loadn ag35 (hF.ev rfl) (hS.box_rd (i := 0) rfl) sz35) ?_; clear hF a; intro a hF
          refine wl_storew hF hS (i := 3) rfl (hF.ev rfl) (hF.ev rfl) sz35 rfl rfl ?_; intro w43 hS_; replace hS := hS_; clear hS_; dsimp only [List.set, Nat.reduceAdd] at hS
          obtain ⟨g51, o51, m51, q51, hv51, hm51, hl51, hc51⟩ := Rd.atF ((hS.own_rd (i := 2) rfl)) (a := a) (X := .tmp 49) (hF.ev rfl) (by omega) (by omega)
          refine wl hF rfl rfl rfl (r_index sl84 ((hF.ev rfl).trans hv51) (hF.ev rfl) (by omega) (by first | omega | (simp at hm51; omega))) ?_; clear hF a; intro a hF
          refine wl_tstore (q := 2) hF hS rfl hv51 (by omega) (by omega) sz4 (hF.ev rfl) rfl ec ?_; intro w44 hS_; replace hS := hS_; clear hS_; dsimp only [List.set] at hS
          refine wl_nil ?_
          simp only [Exit.then, Exit.inBlock, ↓reduceIte]
          refine hK44 _ _ ?_
          refine wp_region_lit ?_
          refine wl hF rfl rfl rfl (r_add (hF.ev rfl) ec) ?_; clear hF a; intro a hF
          refine wl_mvs (A := [_]) hF rfl ?_; clear hF a; intro a hF
          refine wl_nil ?_
          try simp only [Exit.then, Exit.inBlock, ↓reduceIte]
          refine ⟨(k + 1, used.set (at0 order (k : Int)).toNat true, (explains c m (at0 es (at0 order (k : Int)))).1, vs42), ⟨by dsimp only; omega, (rp_next (by omega) hgo hex).symm.trans hr, explains_small hex, by simp only [List.length_set]; exact hlu⟩, (hS.pick [2, 3, 1, 5, 6] (by decide) rfl), (((((((((hF.nil.keep hF (t := 24) rfl).keep hF (t := 23) rfl).keep hF (t := 9) rfl).keep hF (t := 8) rfl).keep hF (t := 7) rfl).keep hF (t := 6) rfl).keep hF (t := 3) rfl).keep hF (t := 1) rfl).keepE hF (t := 25) rfl (wk (by omega))), by dsimp only; omega⟩
        refine wp_exit ?_
        simp only [Exit.then, Exit.inBlock, ↓reduceIte]
        refine hK40 _ _ ?_
        refine wp_seq_k fun K53 hK53 => ?_
        refine ws fun K54 hK54 => ?_
        refine wl_mvs (A := [_, _]) hF rfl ?_; clear hF a; intro a hF
        refine wl_call hF rfl rfl rfl (r_call2 en64 (hF.ev rfl) (hF.ev rfl)) (complete_c (hS.rd ha) (hS.own_rd (i := 0) rfl) (by omega)) ?_; clear hF a; rintro v w45 a ⟨rfl, hB_⟩ hF; replace hS := hS.ext hB_; clear hB_
        refine wl hF rfl rfl rfl (r_not (hF.ev rfl)) ?_; clear hF a; intro a hF
        refine wl_nil (hK54 _ _ ?_)
        refine wc_fx (t := 56) hF rfl ?_ ?_ <;> clear hF <;> intro c56 hF <;> try simp only [zb1, zb2, zb3, zb4, zb5, zb6, zb7, zb8] at c56
        ·
          refine ws fun K55 hK55 => ?_
          refine wl hF rfl rfl rfl (r_build (bd35) trivial) ?_; clear hF a; intro a hF
          refine wl_storew hF hS (i := 3) rfl (hF.ev rfl) (hF.ev rfl) sz35 rfl rfl ?_; intro w46 hS_; replace hS := hS_; clear hS_; dsimp only [List.set, Nat.reduceAdd] at hS
          refine wl_mvs (A := [_]) hF rfl ?_; clear hF a; intro a hF
          refine wl_nil (hK55 _ _ ?_)
          refine wp_ret ?_
          try simp only [Exit.then, Exit.inBlock, ↓reduceIte]
          first
            | (have e := ro_not (show replay c es order (List.replicate es.length false) (newModel c) = some (used, m) from by rw [← hr, List.drop_of_length_le (by omega)]; rfl) (.inr c56)
               refine ret2c rfl ag35 hF hS (i := 3) rfl sz35 rfl rfl ⟨[], ?_, ?_⟩
               · first | (rw [e]; done) | (rw [e]; rfl)
               · rw [e]; exact (Sep.nilpart (hS.pick [] (by decide) rfl) (model_inner0 _)))
        refine wp_skip ?_
        refine hK53 _ _ ?_
        refine ws fun K56 hK56 => ?_
        refine wl hF rfl rfl rfl (r_loadn ag35 (hF.ev rfl) (hS.box_rd (i := 1) rfl) sz35) ?_; clear hF a; intro a hF
        refine wl_storew hF hS (i := 3) rfl (hF.ev rfl) (hF.ev rfl) sz35 rfl rfl ?_; intro w47 hS_; replace hS := hS_; clear hS_; dsimp only [List.set, Nat.reduceAdd] at hS
        refine wl_mvs (A := [_]) hF rfl ?_; clear hF a; intro a hF
        refine wl_nil (hK56 _ _ ?_)
        refine wp_ret ?_
        try simp only [Exit.then, Exit.inBlock, ↓reduceIte]
        have e := ro_done (show replay c es order (List.replicate es.length false) (newModel c) = some (used, m) from by rw [← hr, List.drop_of_length_le (by omega)]; rfl) c16 c56
        refine ret2c rfl ag35 hF hS (i := 3) rfl sz35 rfl rfl ⟨vs, ?_, ?_⟩
        · first | (rw [e]; done) | (rw [e]; rfl)
        · rw [e]; exact hS.pick [2] (by decide) rfl
  ·
    refine op_op rfl rfl (gw0 rfl) rfl rfl rfl (fun a w_ hF hS => r_make0 boolEK false [] mk84 rfl (fun _ => Sat.nil _ _) (hF.ev rfl) (by omega) (by unfold maxLen; omega)) ?_; intro gm_22
    refine todo_fork [(1, [5, 6, 7]), (5, [1, 6, 7])] hl_ rfl (by kernel_rfl) (List.forall_mem_cons.2 ⟨?_, List.forall_mem_cons.2 ⟨?_, fun _ h_ => nomatch h_⟩⟩)
    ·
      refine op_mk rfl rfl (gw0 rfl) rfl rfl rfl (fun a w_ hF => r_call1 en60 (hF.ev rfl)) (fun w_ hS => implNewModel_c _) ?_; rintro vs19
      refine todo_op hl_ rfl (by kernel_rfl) rfl rfl rfl rfl rfl (fun a w_ hF hS => r_alloc0 zr35) ?_; intro g3
      refine todo_fin hl_ rfl (by kernel_rfl) (tl := [_, _]) rfl ?_; clear hS a; intro a w50 hF hA_
      have hS := hA_.sep; clear hA_
      clear hl_; try clear hSd
      try dsimp only [List.cons_append, List.nil_append, List.set] at hS
      try clear wd
      refine wl_storew hF hS (i := 0) rfl (hF.ev rfl) (hF.ev rfl) sz35 rfl rfl ?_; intro w51 hS_; replace hS := hS_; clear hS_; dsimp only [List.set, Nat.reduceAdd] at hS
      refine wl_mvs (A := [_]) hF rfl ?_; clear hF a; intro a hF
      refine wl_nil ⟨rfl, ?_⟩
      refine hK5 _ _ ?_
      refine wp_seq_k fun K57 hK57 => ?_
      refine ws fun K58 hK58 => ?_
      refine wl_mvs (A := [_]) hF rfl ?_; clear hF a; intro a hF
      refine wl hF rfl rfl rfl (r_len ul24 (hF.ev rfl)) ?_; clear hF a; intro a hF
      refine wl_mvs (A := [_]) hF rfl ?_; clear hF a; intro a hF
      refine wl_nil (hK58 _ _ ?_)
      refine wp_block ?_
      replace hS := hS.pull (p := 1) rfl; dsimp only [List.eraseIdx] at hS
      replace hS := hS.pull (p := 1) rfl; dsimp only [List.eraseIdx] at hS
      replace hS := hS.pull (p := 2) rfl; dsimp only [List.eraseIdx] at hS
      have hL_ := ((((((((hF.nil.keep hF (t := 24) rfl).keep hF (t := 23) rfl).keep hF (t := 9) rfl).keep hF (t := 8) rfl).keep hF (t := 7) rfl).keep hF (t := 6) rfl).keep hF (t := 3) rfl).keep hF (t := 1) rfl)
      refine wp_loop_m (σ := Nat × List Bool × Model × List Slv) (fun z L_ => (25, vi z.1) :: L_) (fun z l_ => (Own boolEK (.slice (some ⟨gm_22, 0, none⟩) es.length es.length) z.2.1) :: (Box g3 [sv (z.2.2.2.getD 0 (none, 0, 0)), sv (z.2.2.2.getD 1 (none, 0, 0))]) :: (Part modelEK z.2.2.1 z.2.2.2) :: l_) (fun z => (z.1 ≤ order.length) ∧ (replay c es (order.drop z.1) z.2.1 z.2.2.1 = replay c es order (List.replicate es.length false) (newModel c)) ∧ (z.2.2.1.size ≤ 100) ∧ (z.2.1.length = es.length)) (fun z => order.length - z.1) (0, List.replicate es.length false, newModel c, vs19) (hS) (hL_.keepE hF (t := 25) rfl rfl) ?_ ?_
      · exact ⟨Nat.zero_le _, rfl, (newModel_cnt c).2, List.length_replicate⟩
      clear hF hS hL_ a
      rintro ⟨k, used, m, vs⟩ a w52 ⟨hk, hr, hsz, hlu⟩ hS hF; try dsimp only at hF; try dsimp only at hS; try dsimp only at hk; try dsimp only at hr; try dsimp only at hsz; try dsimp only at hlu
      refine ws fun K59 hK59 => ?_
      refine wl hF rfl rfl rfl (r_lss (hF.ev rfl) (hF.ev rfl)) ?_; clear hF a; intro a hF
      refine wl_nil (hK59 _ _ ?_)
      refine wp_seq_k fun K60 hK60 => ?_
      refine wc_fx (t := 26) hF rfl ?_ ?_ <;> clear hF <;> intro c26 hF <;> try simp only [zb1, zb2, zb3, zb4, zb5, zb6, zb7, zb8] at c26
      ·
        have hlt : k < order.length := by omega
        refine wp_skip ?_
        refine hK60 _ _ ?_
        refine wp_seq_k fun K61 hK61 => ?_
        refine wp_block ?_
        refine ws fun K62 hK62 => ?_
        obtain ⟨g27, o27, m27, q27, hv27, hm27, hl27, hc27⟩ := Rd.atF (ho) (a := a) (X := .tmp 25) (hF.ev rfl) (by omega) (by omega)
        refine wl hF rfl rfl rfl (r_index sl24 ((hF.ev rfl).trans hv27) (hF.ev rfl) (by omega) (by first | omega | (simp at hm27; omega))) ?_; clear hF a; intro a hF
        refine wl hF rfl rfl rfl (r_load1 sc3 (hF.ev rfl) (cellB hS.old (hc27 0 _ rfl))) ?_; clear hF a; intro a hF
        refine wl_mvs (A := [_]) hF rfl ?_; clear hF a; intro a hF
        refine wl_nil (hK62 _ _ ?_)
        refine wp_seq_k fun K63 hK63 => ?_
        refine ws fun K64 hK64 => ?_
        refine wl_mvs (A := [_, _, _]) hF rfl ?_; clear hF a; intro a hF
        refine wl_call hF rfl rfl rfl (r_call3 en63 (hF.ev rfl) (hF.ev rfl) (hF.ev rfl)) (implMayGo_c (hS.rd ha) (hS.own_rd (i := 0) rfl)) ?_; clear hF a; rintro v w53 a ⟨rfl, hB_⟩ hF; replace hS := hS.ext hB_; clear hB_
        refine wl hF rfl rfl rfl (r_not (hF.ev rfl)) ?_; clear hF a; intro a hF
        refine wl_nil (hK64 _ _ ?_)
        refine wc_fx (t := 33) hF rfl ?_ ?_ <;> clear hF <;> intro c33 hF <;> try simp only [zb1, zb2, zb3, zb4, zb5, zb6, zb7, zb8] at c33
        ·
          refine ws fun K65 hK65 => ?_
          refine wl hF rfl rfl rfl (r_build (bd35) trivial) ?_; clear hF a; intro a hF
          refine wl_storew hF hS (i := 3) rfl (hF.ev rfl) (hF.ev rfl) sz35 rfl rfl ?_; intro w54 hS_; replace hS := hS_; clear hS_; dsimp only [List.set, Nat.reduceAdd] at hS
          refine wl_mvs (A := [_]) hF rfl ?_; clear hF a; intro a hF
          refine wl_nil (hK65 _ _ ?_)
          refine wp_ret ?_
          try simp only [Exit.then, Exit.inBlock, ↓reduceIte]
          first
            | (have e := ro_none (hr.symm.trans (rp_no1 (by omega) c33))
               refine ret2c rfl ag35 hF hS (i := 3) rfl sz35 rfl rfl ⟨[], ?_, ?_⟩
               · first | (rw [e]; done) | (rw [e]; rfl)
               · rw [e]; exact (Sep.nilpart (hS.pick [] (by decide) rfl) (model_inner0 _)))
        have hgo := c33
        have hin := mayGo_in hgo
        refine wp_skip ?_
        refine hK63 _ _ ?_
        refine wp_seq_k fun K66 hK66 => ?_
        refine wp_region_todo (is := [0, 1, 2, 3, 4, 5, 6, 7, 8, 9, 11, 12]) [(10, 12, [.slice none 0 0, .slice none 0 0])] [11, 12] (by kernel_rfl) hF hS ⟨⟨⟨_, _, _, rfl, zr35⟩, trivial⟩, by decide, by decide, by decide⟩ (by kernel_rfl) ?_; clear hF; intro hl_ wd hSd
        refine todo_load [6, 7, 8, 9, 11, 12] hl_ (by kernel_rfl) rfl (gw0 rfl) rfl rfl rfl (fun a w_ hF hB_ => r_loadn ag38 (hF.ev rfl) ((hSd.ext hB_).box_rd (i := 4) rfl) sz38) ?_
        refine todo_load [6, 7, 8, 9, 11, 12] hl_ (by kernel_rfl) rfl (gw0 rfl) rfl rfl rfl (fun a w_ hF hB_ => r_loadn ag35 (hF.ev rfl) ((hSd.ext hB_).box_rd (i := 1) rfl) sz35) ?_
        refine todo_pure hl_ (by kernel_rfl) rfl (gw0 rfl) rfl rfl rfl (fun a w_ hF => r_move (hF.ev rfl)) ?_
        refine todo_pure hl_ (by kernel_rfl) rfl (gw0 rfl) rfl rfl rfl (fun a w_ hF => r_move (hF.ev rfl)) ?_
        obtain ⟨g40, o40, m40, q40, hv40, hm40, hl40, hc40⟩ := Rd.idxF (ha) (at0_get (i := (at0 order (k : Int))) (by omega) (by omega))
        refine todo_pure hl_ (by kernel_rfl) rfl (gw0 rfl) rfl rfl rfl (fun a w_ hF => r_index sl52 ((hF.ev rfl).trans hv40) (hF.ev rfl) (by omega) (by first | omega | (simp at hm40; omega))) ?_
        refine todo_load [6, 7, 8, 9, 11, 12] hl_ (by kernel_rfl) rfl (gw0 rfl) rfl rfl rfl (fun a w_ hF hB_ => r_loadn ag44 (hF.ev rfl) (fun j_ u_ hu_ => cellB (hSd.ext hB_).old (hc40 j_ u_ hu_)) sz44) ?_
        refine todo_mk hl_ rfl (by kernel_rfl) rfl rfl rfl rfl rfl (fun a w_ hF => r_call3 en13 (hF.ev rfl) (hF.ev rfl) (hF.ev rfl)) (fun w_ hS => implExplains_c (hS.part_k (i := 2) rfl) (by omega)) ?_; rintro vs42
        refine todo_pure hl_ (by kernel_rfl) rfl (gw0 rfl) rfl rfl rfl (fun a w_ hF => r_move (hF.ev rfl)) ?_
        refine todo_pure hl_ (by kernel_rfl) rfl (gw0 rfl) rfl rfl rfl (fun a w_ hF => r_extract (hF.ev rfl) rfl) ?_
        refine todo_pure hl_ (by kernel_rfl) rfl (gw0 rfl) rfl rfl rfl (fun a w_ hF => r_extract (hF.ev rfl) rfl) ?_
        refine todo_fin hl_ rfl (by kernel_rfl) (tl := [_, _]) rfl ?_; clear hS a; intro a w55 hF hA_
        obtain ⟨g4, hS, he_0⟩ := hA_.open1; clear hA_
        replace hF := hF.more he_0; clear he_0
        clear hl_; try clear hSd
        try dsimp only [List.cons_append, List.nil_append, List.set] at hS
        try clear wd
        refine wl_storew hF hS (i := 0) rfl (hF.ev rfl) (hF.ev rfl) sz35 rfl rfl ?_; intro w56 hS_; replace hS := hS_; clear hS_; dsimp only [List.set, Nat.reduceAdd] at hS
        refine wl_mvs (A := [_]) hF rfl ?_; clear hF a; intro a hF
        refine wl_nil ⟨rfl, ?_⟩
        refine hK66 _ _ ?_
        refine wp_seq_k fun K67 hK67 => ?_
        refine ws fun K68 hK68 => ?_
        refine wl_mvs (A := [_]) hF rfl ?_; clear hF a; intro a hF
        refine wl hF rfl rfl rfl (r_not (hF.ev rfl)) ?_; clear hF a; intro a hF
        refine wl_nil (hK68 _ _ ?_)
        refine wc_fx (t := 46) hF rfl ?_ ?_ <;> clear hF <;> intro c46 hF <;> try simp only [zb1, zb2, zb3, zb4, zb5, zb6, zb7, zb8] at c46
        ·
          refine ws fun K69 hK69 => ?_
          refine wl hF rfl rfl rfl (r_build (bd35) trivial) ?_; clear hF a; intro a hF
          refine wl_storew hF hS (i := 5) rfl (hF.ev rfl) (hF.ev rfl) sz35 rfl rfl ?_; intro w57 hS_; replace hS := hS_; clear hS_; dsimp only [List.set, Nat.reduceAdd] at hS
          refine wl_mvs (A := [_]) hF rfl ?_; clear hF a; intro a hF
          refine wl_nil (hK69 _ _ ?_)
          refine wp_ret ?_
          try simp only [Exit.then, Exit.inBlock, ↓reduceIte]
          first
            | (have e := ro_none (hr.symm.trans (rp_no2 (by omega) c46))
               refine ret2c rfl ag35 hF hS (i := 5) rfl sz35 rfl rfl ⟨[], ?_, ?_⟩
               · first | (rw [e]; done) | (rw [e]; rfl)
               · rw [e]; exact (Sep.nilpart (hS.pick [] (by decide) rfl) (model_inner0 _)))
        have hex := c46
        refine wp_skip ?_
        refine hK67 _ _ ?_
        refine wp_region_lit ?_
        refine wl_mvs (A := [_, _]) hF rfl ?_; clear hF a; intro a hF
        refine wl hF rfl rfl rfl (r_loadn ag35 (hF.ev rfl) (hS.box_rd (i := 0) rfl) sz35) ?_; clear hF a; intro a hF
        refine wl_storew hF hS (i := 3) rfl (hF.ev rfl) (hF.ev rfl) sz35 rfl rfl ?_; intro w58 hS_; replace hS := hS_; clear hS_; dsimp only [List.set, Nat.reduceAdd] at hS
        obtain ⟨g51, o51, m51, q51, hv51, hm51, hl51, hc51⟩ := Rd.atF ((hS.own_rd (i := 2) rfl)) (a := a) (X := .tmp 49) (hF.ev rfl) (by omega) (by omega)
        refine wl hF rfl rfl rfl (r_index sl84 ((hF.ev rfl).trans hv51) (hF.ev rfl) (by omega) (by first | omega | (simp at hm51; omega))) ?_; clear hF a; intro a hF
        refine wl_tstore (q := 2) hF hS rfl hv51 (by omega) (by omega) sz4 (hF.ev rfl) rfl ec ?_; intro w59 hS_; replace hS := hS_; clear hS_; dsimp only [List.set] at hS
        refine wl_nil ?_
        simp only [Exit.then, Exit.inBlock, ↓reduceIte]
        refine hK61 _ _ ?_
        refine wp_region_lit ?_
        refine wl hF rfl rfl rfl (r_add (hF.ev rfl) ec) ?_; clear hF a; intro a hF
        refine wl_mvs (A := [_]) hF rfl ?_; clear hF a; intro a hF
        refine wl_nil ?_
        try simp only [Exit.then, Exit.inBlock, ↓reduceIte]
        refine ⟨(k + 1, used.set (at0 order (k : Int)).toNat true, (explains c m (at0 es (at0 order (k : Int)))).1, vs42), ⟨by dsimp only; omega, (rp_next (by omega) hgo hex).symm.trans hr, explains_small hex, by simp only [List.length_set]; exact hlu⟩, (hS.pick [2, 3, 1, 5, 6] (by decide) rfl), (((((((((hF.nil.keep hF (t := 24) rfl).keep hF (t := 23) rfl).keep hF (t := 9) rfl).keep hF (t := 8) rfl).keep hF (t := 7) rfl).keep hF (t := 6) rfl).keep hF (t := 3) rfl).keep hF (t := 1) rfl).keepE hF (t := 25) rfl (wk (by omega))), by dsimp only; omega⟩
      refine wp_exit ?_
      simp only [Exit.then, Exit.inBlock, ↓reduceIte]
      refine hK57 _ _ ?_
      refine wp_seq_k fun K70 hK70 => ?_
      refine ws fun K71 hK71 => ?_
      refine wl_mvs (A := [_, _]) hF rfl ?_; clear hF a; intro a hF
      refine wl_call hF rfl rfl rfl (r_call2 en64 (hF.ev rfl) (hF.ev rfl)) (complete_c (hS.rd ha) (hS.own_rd (i := 0) rfl) (by omega)) ?_; clear hF a; rintro v w60 a ⟨rfl, hB_⟩ hF; replace hS := hS.ext hB_; clear hB_
      refine wl hF rfl rfl rfl (r_not (hF.ev rfl)) ?_; clear hF a; intro a hF
      refine wl_nil (hK71 _ _ ?_)
      refine wc_fx (t := 56) hF rfl ?_ ?_ <;> clear hF <;> intro c56 hF <;> try simp only [zb1, zb2, zb3, zb4, zb5, zb6, zb7, zb8] at c56
      ·
        refine ws fun K72 hK72 => ?_
        refine wl hF rfl rfl rfl (r_build (bd35) trivial) ?_; clear hF a; intro a hF
        refine wl_storew hF hS (i := 3) rfl (hF.ev rfl) (hF.ev rfl) sz35 rfl rfl ?_; intro w61 hS_; replace hS := hS_; clear hS_; dsimp only [List.set, Nat.reduceAdd] at hS
        refine wl_mvs (A := [_]) hF rfl ?_; clear hF a; intro a hF
        refine wl_nil (hK72 _ _ ?_)
        refine wp_ret ?_
        try simp only [Exit.then, Exit.inBlock, ↓reduceIte]
        first
          | (have e := ro_not (show replay c es order (List.replicate es.length false) (newModel c) = some (used, m) from by rw [← hr, List.drop_of_length_le (by omega)]; rfl) (.inr c56)
             refine ret2c rfl ag35 hF hS (i := 3) rfl sz35 rfl rfl ⟨[], ?_, ?_⟩
             · first | (rw [e]; done) | (rw [e]; rfl)
             · rw [e]; exact (Sep.nilpart (hS.pick [] (by decide) rfl) (model_inner0 _)))
      refine wp_skip ?_
      refine hK70 _ _ ?_
      refine ws fun K73 hK73 => ?_
      refine wl hF rfl rfl rfl (r_loadn ag35 (hF.ev rfl) (hS.box_rd (i := 1) rfl) sz35) ?_; clear hF a; intro a hF
      refine wl_storew hF hS (i := 3) rfl (hF.ev rfl) (hF.ev rfl) sz35 rfl rfl ?_; intro w62 hS_; replace hS := hS_; clear hS_; dsimp only [List.set, Nat.reduceAdd] at hS
      refine wl_mvs (A := [_]) hF rfl ?_; clear hF a; intro a hF
      refine wl_nil (hK73 _ _ ?_)
      refine wp_ret ?_
      try simp only [Exit.then, Exit.inBlock, ↓reduceIte]
      have e := ro_done (show replay c es order (List.replicate es.length false) (newModel c) = some (used, m) from by rw [← hr, List.drop_of_length_le (by omega)]; rfl) c16 c56
      refine ret2c rfl ag35 hF hS (i := 3) rfl sz35 rfl rfl ⟨vs, ?_, ?_⟩
      · first | (rw [e]; done) | (rw [e]; rfl)
      · rw [e]; exact hS.pick [2] (by decide) rfl
    ·
      refine op_op rfl rfl (gw0 rfl) rfl rfl rfl (fun a w_ hF hS => r_alloc0 zr35) ?_; intro g3
      refine todo_mk hl_ rfl (by kernel_rfl) rfl rfl rfl rfl rfl (fun a w_ hF => r_call1 en60 (hF.ev rfl)) (fun w_ hS => implNewModel_c _) ?_; rintro vs19
      refine todo_fin hl_ rfl (by kernel_rfl) (tl := [_, _]) rfl ?_; clear hS a; intro a w64 hF hA_
      have hS := hA_.sep; clear hA_
      clear hl_; try clear hSd
      try dsimp only [List.cons_append, List.nil_append, List.set] at hS
      try clear wd
      refine wl_storew hF hS (i := 1) rfl (hF.ev rfl) (hF.ev rfl) sz35 rfl rfl ?_; intro w65 hS_; replace hS := hS_; clear hS_; dsimp only [List.set, Nat.reduceAdd] at hS
      refine wl_mvs (A := [_]) hF rfl ?_; clear hF a; intro a hF
      refine wl_nil ⟨rfl, ?_⟩
      refine hK5 _ _ ?_
      refine wp_seq_k fun K74 hK74 => ?_
      refine ws fun K75 hK75 => ?_
      refine wl_mvs (A := [_]) hF rfl ?_; clear hF a; intro a hF
      refine wl hF rfl rfl rfl (r_len ul24 (hF.ev rfl)) ?_; clear hF a; intro a hF
      refine wl_mvs (A := [_]) hF rfl ?_; clear hF a; intro a hF
      refine wl_nil (hK75 _ _ ?_)
      refine wp_block ?_
      replace hS := hS.pull (p := 0) rfl; dsimp only [List.eraseIdx] at hS
      replace hS := hS.pull (p := 1) rfl; dsimp only [List.eraseIdx] at hS
      replace hS := hS.pull (p := 2) rfl; dsimp only [List.eraseIdx] at hS
      have hL_ := ((((((((hF.nil.keep hF (t := 24) rfl).keep hF (t := 23) rfl).keep hF (t := 9) rfl).keep hF (t := 8) rfl).keep hF (t := 7) rfl).keep hF (t := 6) rfl).keep hF (t := 3) rfl).keep hF (t := 1) rfl)
      refine wp_loop_m (σ := Nat × List Bool × Model × List Slv) (fun z L_ => (25, vi z.1) :: L_) (fun z l_ => (Own boolEK (.slice (some ⟨gm_22, 0, none⟩) es.length es.length) z.2.1) :: (Box g3 [sv (z.2.2.2.getD 0 (none, 0, 0)), sv (z.2.2.2.getD 1 (none, 0, 0))]) :: (Part modelEK z.2.2.1 z.2.2.2) :: l_) (fun z => (z.1 ≤ order.length) ∧ (replay c es (order.drop z.1) z.2.1 z.2.2.1 = replay c es order (List.replicate es.length false) (newModel c)) ∧ (z.2.2.1.size ≤ 100) ∧ (z.2.1.length = es.length)) (fun z => order.length - z.1) (0, List.replicate es.length false, newModel c, vs19) (hS) (hL_.keepE hF (t := 25) rfl rfl) ?_ ?_
      · exact ⟨Nat.zero_le _, rfl, (newModel_cnt c).2, List.length_replicate⟩
      clear hF hS hL_ a
      rintro ⟨k, used, m, vs⟩ a w66 ⟨hk, hr, hsz, hlu⟩ hS hF; try dsimp only at hF; try dsimp only at hS; try dsimp only at hk; try dsimp only at hr; try dsimp only at hsz; try dsimp only at hlu
      refine ws fun K76 hK76 => ?_
      refine wl hF rfl rfl rfl (r_lss (hF.ev rfl) (hF.ev rfl)) ?_; clear hF a; intro a hF
      refine wl_nil (hK76 _ _ ?_)
      refine wp_seq_k fun K77 hK77 => ?_
      refine wc_fx (t := 26) hF rfl ?_ ?_ <;> clear hF <;> intro c26 hF <;> try simp only [zb1, zb2, zb3, zb4, zb5, zb6, zb7, zb8] at c26
      ·
        have hlt : k < order.length := by omega
        refine wp_skip ?_
        refine hK77 _ _ ?_
        refine wp_seq_k fun K78 hK78 => ?_
        refine wp_block ?_
        refine ws fun K79 hK79 => ?_
        obtain ⟨g27, o27, m27, q27, hv27, hm27, hl27, hc27⟩ := Rd.atF (ho) (a := a) (X := .tmp 25) (hF.ev rfl) (by omega) (by omega)
        refine wl hF rfl rfl rfl (r_index sl24 ((hF.ev rfl).trans hv27) (hF.ev rfl) (by omega) (by first | omega | (simp at hm27; omega))) ?_; clear hF a; intro a hF
        refine wl hF rfl rfl rfl (r_load1 sc3 (hF.ev rfl) (cellB hS.old (hc27 0 _ rfl))) ?_; clear hF a; intro a hF
        refine wl_mvs (A := [_]) hF rfl ?_; clear hF a; intro a hF
        refine wl_nil (hK79 _ _ ?_)
        refine wp_seq_k fun K80 hK80 => ?_
        refine ws fun K81 hK81 => ?_
        refine wl_mvs (A := [_, _, _]) hF rfl ?_; clear hF a; intro a hF
        refine wl_call hF rfl rfl rfl (r_call3 en63 (hF.ev rfl) (hF.ev rfl) (hF.ev rfl)) (implMayGo_c (hS.rd ha) (hS.own_rd (i := 0) rfl)) ?_; clear hF a; rintro v w67 a ⟨rfl, hB_⟩ hF; replace hS := hS.ext hB_; clear hB_
        refine wl hF rfl rfl rfl (r_not (hF.ev rfl)) ?_; clear hF a; intro a hF
        refine wl_nil (hK81 _ _ ?_)
        refine wc_fx (t := 33) hF rfl ?_ ?_ <;> clear hF <;> intro c33 hF <;> try simp only [zb1, zb2, zb3, zb4, zb5, zb6, zb7, zb8] at c33
        ·
          refine ws fun K82 hK82 => ?_
          refine wl hF rfl rfl rfl (r_build (bd35) trivial) ?_; clear hF a; intro a hF
          refine wl_storew hF hS (i := 3) rfl (hF.ev rfl) (hF.ev rfl) sz35 rfl rfl ?_; intro w68 hS_; replace hS := hS_; clear hS_; dsimp only [List.set, Nat.reduceAdd] at hS
          refine wl_mvs (A := [_]) hF rfl ?_; clear hF a; intro a hF
          refine wl_nil (hK82 _ _ ?_)
          refine wp_ret ?_
          try simp only [Exit.then, Exit.inBlock, ↓reduceIte]
          first
            | (have e := ro_none (hr.symm.trans (rp_no1 (by omega) c33))
               refine ret2c rfl ag35 hF hS (i := 3) rfl sz35 rfl rfl ⟨[], ?_, ?_⟩
               · first | (rw [e]; done) | (rw [e]; rfl)
               · rw [e]; exact (Sep.nilpart (hS.pick [] (by decide) rfl) (model_inner0 _)))
        have hgo := c33
        have hin := mayGo_in hgo
        refine wp_skip ?_
        refine hK80 _ _ ?_
        refine wp_seq_k fun K83 hK83 => ?_
        refine wp_region_todo (is := [0, 1, 2, 3, 4, 5, 6, 7, 8, 9, 11, 12]) [(10, 12, [.slice none 0 0, .slice none 0 0])] [11, 12] (by kernel_rfl) hF hS ⟨⟨⟨_, _, _, rfl, zr35⟩, trivial⟩, by decide, by decide, by decide⟩ (by kernel_rfl) ?_; clear hF; intro hl_ wd hSd
        refine todo_load [6, 7, 8, 9, 11, 12] hl_ (by kernel_rfl) rfl (gw0 rfl) rfl rfl rfl (fun a w_ hF hB_ => r_loadn ag38 (hF.ev rfl) ((hSd.ext hB_).box_rd (i := 4) rfl) sz38) ?_
        refine todo_load [6, 7, 8, 9, 11, 12] hl_ (by kernel_rfl) rfl (gw0 rfl) rfl rfl rfl (fun a w_ hF hB_ => r_loadn ag35 (hF.ev rfl) ((hSd.ext hB_).box_rd (i := 1) rfl) sz35) ?_
        refine todo_pure hl_ (by kernel_rfl) rfl (gw0 rfl) rfl rfl rfl (fun a w_ hF => r_move (hF.ev rfl)) ?_
        refine todo_pure hl_ (by kernel_rfl) rfl (gw0 rfl) rfl rfl rfl (fun a w_ hF => r_move (hF.ev rfl)) ?_
        obtain ⟨g40, o40, m40, q40, hv40, hm40, hl40, hc40⟩ := Rd.idxF (ha) (at0_get (i := (at0 order (k : Int))) (by omega) (by omega))
        refine todo_pure hl_ (by kernel_rfl) rfl (gw0 rfl) rfl rfl rfl (fun a w_ hF => r_index sl52 ((hF.ev rfl).trans hv40) (hF.ev rfl) (by omega) (by first | omega | (simp at hm40; omega))) ?_
        refine todo_load [6, 7, 8, 9, 11, 12] hl_ (by kernel_rfl) rfl (gw0 rfl) rfl rfl rfl (fun a w_ hF hB_ => r_loadn ag44 (hF.ev rfl) (fun j_ u_ hu_ => cellB (hSd.ext hB_).old (hc40 j_ u_ hu_)) sz44) ?_
        refine todo_mk hl_ rfl (by kernel_rfl) rfl rfl rfl rfl rfl (fun a w_ hF => r_call3 en13 (hF.ev rfl) (hF.ev rfl) (hF.ev rfl)) (fun w_ hS => implExplains_c (hS.part_k (i := 2) rfl) (by omega)) ?_; rintro vs42
        refine todo_pure hl_ (by kernel_rfl) rfl (gw0 rfl) rfl rfl rfl (fun a w_ hF => r_move (hF.ev rfl)) ?_
        refine todo_pure hl_ (by kernel_rfl) rfl (gw0 rfl) rfl rfl rfl (fun a w_ hF => r_extract (hF.ev rfl) rfl) ?_
        refine todo_pure hl_ (by kernel_rfl) rfl (gw0 rfl) rfl rfl rfl (fun a w_ hF => r_extract (hF.ev rfl) rfl) ?_
        refine todo_fin hl_ rfl (by kernel_rfl) (tl := [_, _]) rfl ?_; clear hS a; intro a w69 hF hA_
        obtain ⟨g4, hS, he_0⟩ := hA_.open1; clear hA_
        replace hF := hF.more he_0; clear he_0
        clear hl_; try clear hSd
        try dsimp only [List.cons_append, List.nil_append, List.set] at hS
        try clear wd
        refine wl_storew hF hS (i := 0) rfl (hF.ev rfl) (hF.ev rfl) sz35 rfl rfl ?_; intro w70 hS_; replace hS := hS_; clear hS_; dsimp only [List.set, Nat.reduceAdd] at hS
        refine wl_mvs (A := [_]) hF rfl ?_; clear hF a; intro a hF
        refine wl_nil ⟨rfl, ?_⟩
        refine hK83 _ _ ?_
        refine wp_seq_k fun K84 hK84 => ?_
        refine ws fun K85 hK85 => ?_
        refine wl_mvs (A := [_]) hF rfl ?_; clear hF a; intro a hF
        refine wl hF rfl rfl rfl (r_not (hF.ev rfl)) ?_; clear hF a; intro a hF
        refine wl_nil (hK85 _ _ ?_)
        refine wc_fx (t := 46) hF rfl ?_ ?_ <;> clear hF <;> intro c46 hF <;> try simp only [zb1, zb2, zb3, zb4, zb5, zb6, zb7, zb8] at c46
        ·
          refine ws fun K86 hK86 => ?_
          refine wl hF rfl rfl rfl (r_build (bd35) trivial) ?_; clear hF a; intro a hF
          refine wl_storew hF hS (i := 5) rfl (hF.ev rfl) (hF.ev rfl) sz35 rfl rfl ?_; intro w71 hS_; replace hS := hS_; clear hS_; dsimp only [List.set, Nat.reduceAdd] at hS
          refine wl_mvs (A := [_]) hF rfl ?_; clear hF a; intro a hF
          refine wl_nil (hK86 _ _ ?_)
          refine wp_ret ?_
          try simp only [Exit.then, Exit.inBlock, ↓reduceIte]
          first
            | (have e := ro_none (hr.symm.trans (rp_no2 (by omega) c46))
               refine ret2c rfl ag35 hF hS (i := 5) rfl sz35 rfl rfl ⟨[], ?_, ?_⟩
               · first | (rw [e]; done) | (rw [e]; rfl)
               · rw [e]; exact (Sep.nilpart (hS.pick [] (by decide) rfl) (model_inner0 _)))
        have hex := c46
        refine wp_skip ?_
        refine hK84 _ _ ?_
        refine wp_region_lit ?_
        refine wl_mvs (A := [_, _]) hF rfl ?_; clear hF a; intro a hF
        refine wl hF rfl rfl rfl (r_loadn ag35 (hF.ev rfl) (hS.box_rd (i := 0) rfl) sz35) ?_; clear hF a; intro a hF
        refine wl_storew hF hS (i := 3) rfl (hF.ev rfl) (hF.ev rfl) sz35 rfl rfl ?_; intro w72 hS_; replace hS := hS_; clear hS_; dsimp only [List.set, Nat.reduceAdd] at hS
        obtain ⟨g51, o51, m51, q51, hv51, hm51, hl51, hc51⟩ := Rd.atF ((hS.own_rd (i := 2) rfl)) (a := a) (X := .tmp 49) (hF.ev rfl) (by omega) (by omega)
        refine wl hF rfl rfl rfl (r_index sl84 ((hF.ev rfl).trans hv51) (hF.ev rfl) (by omega) (by first | omega | (simp at hm51; omega))) ?_; clear hF a; intro a hF
        refine wl_tstore (q := 2) hF hS rfl hv51 (by omega) (by omega) sz4 (hF.ev rfl) rfl ec ?_; intro w73 hS_; replace hS := hS_; clear hS_; dsimp only [List.set] at hS
        refine wl_nil ?_
        simp only [Exit.then, Exit.inBlock, ↓reduceIte]
        refine hK78 _ _ ?_
        refine wp_region_lit ?_
        refine wl hF rfl rfl rfl (r_add (hF.ev rfl) ec) ?_; clear hF a; intro a hF
        refine wl_mvs (A := [_]) hF rfl ?_; clear hF a; intro a hF
        refine wl_nil ?_
        try simp only [Exit.then, Exit.inBlock, ↓reduceIte]
        refine ⟨(k + 1, used.set (at0 order (k : Int)).toNat true, (explains c m (at0 es (at0 order (k : Int)))).1, vs42), ⟨by dsimp only; omega, (rp_next (by omega) hgo hex).symm.trans hr, explains_small hex, by simp only [List.length_set]; exact hlu⟩, (hS.pick [2, 3, 1, 5, 6] (by decide) rfl), (((((((((hF.nil.keep hF (t := 24) rfl).keep hF (t := 23) rfl).keep hF (t := 9) rfl).keep hF (t := 8) rfl).keep hF (t := 7) rfl).keep hF (t := 6) rfl).keep hF (t := 3) rfl).keep hF (t := 1) rfl).keepE hF (t := 25) rfl (wk (by omega))), by dsimp only; omega⟩
      refine wp_exit ?_
      simp only [Exit.then, Exit.inBlock, ↓reduceIte]
      refine hK74 _ _ ?_
      refine wp_seq_k fun K87 hK87 => ?_
      refine ws fun K88 hK88 => ?_
      refine wl_mvs (A := [_, _]) hF rfl ?_; clear hF a; intro a hF
      refine wl_call hF rfl rfl rfl (r_call2 en64 (hF.ev rfl) (hF.ev rfl)) (complete_c (hS.rd ha) (hS.own_rd (i := 0) rfl) (by omega)) ?_; clear hF a; rintro v w74 a ⟨rfl, hB_⟩ hF; replace hS := hS.ext hB_; clear hB_
      refine wl hF rfl rfl rfl (r_not (hF.ev rfl)) ?_; clear hF a; intro a hF
      refine wl_nil (hK88 _ _ ?_)
      refine wc_fx (t := 56) hF rfl ?_ ?_ <;> clear hF <;> intro c56 hF <;> try simp only [zb1, zb2, zb3, zb4, zb5, zb6, zb7, zb8] at c56
      ·
        refine ws fun K89 hK89 => ?_
        refine wl hF rfl rfl rfl (r_build (bd35) trivial) ?_; clear hF a; intro a hF
        refine wl_storew hF hS (i := 3) rfl (hF.ev rfl) (hF.ev rfl) sz35 rfl rfl ?_; intro w75 hS_; replace hS := hS_; clear hS_; dsimp only [List.set, Nat.reduceAdd] at hS
        refine wl_mvs (A := [_]) hF rfl ?_; clear hF a; intro a hF
        refine wl_nil (hK89 _ _ ?_)
        refine wp_ret ?_
        try simp only [Exit.then, Exit.inBlock, ↓reduceIte]
        first
          | (have e := ro_not (show replay c es order (List.replicate es.length false) (newModel c) = some (used, m) from by rw [← hr, List.drop_of_length_le (by omega)]; rfl) (.inr c56)
             refine ret2c rfl ag35 hF hS (i := 3) rfl sz35 rfl rfl ⟨[], ?_, ?_⟩
             · first | (rw [e]; done) | (rw [e]; rfl)
             · rw [e]; exact (Sep.nilpart (hS.pick [] (by decide) rfl) (model_inner0 _)))
      refine wp_skip ?_
      refine hK87 _ _ ?_
      refine ws fun K90 hK90 => ?_
      refine wl hF rfl rfl rfl (r_loadn ag35 (hF.ev rfl) (hS.box_rd (i := 1) rfl) sz35) ?_; clear hF a; intro a hF
      refine wl_storew hF hS (i := 3) rfl (hF.ev rfl) (hF.ev rfl) sz35 rfl rfl ?_; intro w76 hS_; replace hS := hS_; clear hS_; dsimp only [List.set, Nat.reduceAdd] at hS
      refine wl_mvs (A := [_]) hF rfl ?_; clear hF a; intro a hF
      refine wl_nil (hK90 _ _ ?_)
      refine wp_ret ?_
      try simp only [Exit.then, Exit.inBlock, ↓reduceIte]
      have e := ro_done (show replay c es order (List.replicate es.length false) (newModel c) = some (used, m) from by rw [← hr, List.drop_of_length_le (by omega)]; rfl) c16 c56
      refine ret2c rfl ag35 hF hS (i := 3) rfl sz35 rfl rfl ⟨vs, ?_, ?_⟩
      · first | (rw [e]; done) | (rw [e]; rfl)
      · rw [e]; exact hS.pick [2] (by decide) rfl
  ·
    refine op_op rfl rfl (gw0 rfl) rfl rfl rfl (fun a w_ hF hS => r_alloc0 zr35) ?_; intro g3
    refine todo_fork [(1, [4, 6, 7]), (4, [1, 6, 7])] hl_ rfl (by kernel_rfl) (List.forall_mem_cons.2 ⟨?_, List.forall_mem_cons.2 ⟨?_, fun _ h_ => nomatch h_⟩⟩)
    ·
      refine op_mk rfl rfl (gw0 rfl) rfl rfl rfl (fun a w_ hF => r_call1 en60 (hF.ev rfl)) (fun w_ hS => implNewModel_c _) ?_; rintro vs19
      refine todo_fork [(4, [6, 7]), (6, [4, 7])] hl_ rfl (by kernel_rfl) (List.forall_mem_cons.2 ⟨?_, List.forall_mem_cons.2 ⟨?_, fun _ h_ => nomatch h_⟩⟩)
      ·
        refine op_op rfl rfl (gw0 rfl) rfl rfl rfl (fun a w_ hF hS => r_make0 boolEK false [] mk84 rfl (fun _ => Sat.nil _ _) (hF.ev rfl) (by omega) (by unfold maxLen; omega)) ?_; intro gm_22
        refine todo_fin hl_ rfl (by kernel_rfl) (tl := [_, _]) rfl ?_; clear hS a; intro a w79 hF hA_
        have hS := hA_.sep; clear hA_
        clear hl_; try clear hSd
        try dsimp only [List.cons_append, List.nil_append, List.set] at hS
        try clear wd
        refine wl_storew hF hS (i := 2) rfl (hF.ev rfl) (hF.ev rfl) sz35 rfl rfl ?_; intro w80 hS_; replace hS := hS_; clear hS_; dsimp only [List.set, Nat.reduceAdd] at hS
        refine wl_mvs (A := [_]) hF rfl ?_; clear hF a; intro a hF
        refine wl_nil ⟨rfl, ?_⟩
        refine hK5 _ _ ?_
        refine wp_seq_k fun K91 hK91 => ?_
        refine ws fun K92 hK92 => ?_
        refine wl_mvs (A := [_]) hF rfl ?_; clear hF a; intro a hF
        refine wl hF rfl rfl rfl (r_len ul24 (hF.ev rfl)) ?_; clear hF a; intro a hF
        refine wl_mvs (A := [_]) hF rfl ?_; clear hF a; intro a hF
        refine wl_nil (hK92 _ _ ?_)
        refine wp_block ?_
        replace hS := hS.pull (p := 1) rfl; dsimp only [List.eraseIdx] at hS
        replace hS := hS.pull (p := 2) rfl; dsimp only [List.eraseIdx] at hS
        replace hS := hS.pull (p := 2) rfl; dsimp only [List.eraseIdx] at hS
        have hL_ := ((((((((hF.nil.keep hF (t := 24) rfl).keep hF (t := 23) rfl).keep hF (t := 9) rfl).keep hF (t := 8) rfl).keep hF (t := 7) rfl).keep hF (t := 6) rfl).keep hF (t := 3) rfl).keep hF (t := 1) rfl)
        refine wp_loop_m (σ := Nat × List Bool × Model × List Slv) (fun z L_ => (25, vi z.1) :: L_) (fun z l_ => (Own boolEK (.slice (some ⟨gm_22, 0, none⟩) es.length es.length) z.2.1) :: (Box g3 [sv (z.2.2.2.getD 0 (none, 0, 0)), sv (z.2.2.2.getD 1 (none, 0, 0))]) :: (Part modelEK z.2.2.1 z.2.2.2) :: l_) (fun z => (z.1 ≤ order.length) ∧ (replay c es (order.drop z.1) z.2.1 z.2.2.1 = replay c es order (List.replicate es.length false) (newModel c)) ∧ (z.2.2.1.size ≤ 100) ∧ (z.2.1.length = es.length)) (fun z => order.length - z.1) (0, List.replicate es.length false, newModel c, vs19) (hS) (hL_.keepE hF (t := 25) rfl rfl) ?_ ?_
        · exact ⟨Nat.zero_le _, rfl, (newModel_cnt c).2, List.length_replicate⟩
        clear hF hS hL_ a
        rintro ⟨k, used, m, vs⟩ a w81 ⟨hk, hr, hsz, hlu⟩ hS hF; try dsimp only at hF; try dsimp only at hS; try dsimp only at hk; try dsimp only at hr; try dsimp only at hsz; try dsimp only at hlu
        refine ws fun K93 hK93 => ?_
        refine wl hF rfl rfl rfl (r_lss (hF.ev rfl) (hF.ev rfl)) ?_; clear hF a; intro a hF
        refine wl_nil (hK93 _ _ ?_)
        refine wp_seq_k fun K94 hK94 => ?_
        refine wc_fx (t := 26) hF rfl ?_ ?_ <;> clear hF <;> intro c26 hF <;> try simp only [zb1, zb2, zb3, zb4, zb5, zb6, zb7, zb8] at c26
        ·
          have hlt : k < order.length := by omega
          refine wp_skip ?_
          refine hK94 _ _ ?_
          refine wp_seq_k fun K95 hK95 => ?_
          refine wp_block ?_
          refine ws fun K96 hK96 => ?_
          obtain ⟨g27, o27, m27, q27, hv27, hm27, hl27, hc27⟩ := Rd.atF (ho) (a := a) (X := .tmp 25) (hF.ev rfl) (by omega) (by omega)
          refine wl hF rfl rfl rfl (r_index sl24 ((hF.ev rfl).trans hv27) (hF.ev rfl) (by omega) (by first | omega | (simp at hm27; omega))) ?_; clear hF a; intro a hF
          refine wl hF rfl rfl rfl (r_load1 sc3 (hF.ev rfl) (cellB hS.old (hc27 0 _ rfl))) ?_; clear hF a; intro a hF
          refine wl_mvs (A := [_]) hF rfl ?_; clear hF a; intro a hF
          refine wl_nil (hK96 _ _ ?_)
          refine wp_seq_k fun K97 hK97 => ?_
          refine ws fun K98 hK98 => ?_
          refine wl_mvs (A := [_, _, _]) hF rfl ?_; clear hF a; intro a hF
          refine wl_call hF rfl rfl rfl (r_call3 en63 (hF.ev rfl) (hF.ev rfl) (hF.ev rfl)) (implMayGo_c (hS.rd ha) (hS.own_rd (i := 0) rfl)) ?_; clear hF a; rintro v w82 a ⟨rfl, hB_⟩ hF; replace hS := hS.ext hB_; clear hB_
          refine wl hF rfl rfl rfl (r_not (hF.ev rfl)) ?_; clear hF a; intro a hF
          refine wl_nil (hK98 _ _ ?_)
          refine wc_fx (t := 33) hF rfl ?_ ?_ <;> clear hF <;> intro c33 hF <;> try simp only [zb1, zb2, zb3, zb4, zb5, zb6, zb7, zb8] at c33
          ·
            refine ws fun K99 hK99 => ?_
            refine wl hF rfl rfl rfl (r_build (bd35) trivial) ?_; clear hF a; intro a hF
            refine wl_storew hF hS (i := 3) rfl (hF.ev rfl) (hF.ev rfl) sz35 rfl rfl ?_; intro w83 hS_; replace hS := hS_; clear hS_; dsimp only [List.set, Nat.reduceAdd] at hS
            refine wl_mvs (A := [_]) hF rfl ?_; clear hF a; intro a hF
            refine wl_nil (hK99 _ _ ?_)
            refine wp_ret ?_
            try simp only [Exit.then, Exit.inBlock, ↓reduceIte]
            first
              | (have e := ro_none (hr.symm.trans (rp_no1 (by omega) c33))
                 refine ret2c rfl ag35 hF hS (i := 3) rfl sz35 rfl rfl ⟨[], ?_, ?_⟩
                 · first | (rw [e]; done) | (rw [e]; rfl)
                 · rw [e]; exact (Sep.nilpart (hS.pick [] (by decide) rfl) (model_inner0 _)))
          have hgo := c33
          have hin := mayGo_in hgo
          refine wp_skip ?_
          refine hK97 _ _ ?_
          refine wp_seq_k fun K100 hK100 => ?_
          refine wp_region_todo (is := [0, 1, 2, 3, 4, 5, 6, 7, 8, 9, 11, 12]) [(10, 12, [.slice none 0 0, .slice none 0 0])] [11, 12] (by kernel_rfl) hF hS ⟨⟨⟨_, _, _, rfl, zr35⟩, trivial⟩, by decide, by decide, by decide⟩ (by kernel_rfl) ?_; clear hF; intro hl_ wd hSd
          refine todo_load [6, 7, 8, 9, 11, 12] hl_ (by kernel_rfl) rfl (gw0 rfl) rfl rfl rfl (fun a w_ hF hB_ => r_loadn ag38 (hF.ev rfl) ((hSd.ext hB_).box_rd (i := 4) rfl) sz38) ?_
          refine todo_load [6, 7, 8, 9, 11, 12] hl_ (by kernel_rfl) rfl (gw0 rfl) rfl rfl rfl (fun a w_ hF hB_ => r_loadn ag35 (hF.ev rfl) ((hSd.ext hB_).box_rd (i := 1) rfl) sz35) ?_
          refine todo_pure hl_ (by kernel_rfl) rfl (gw0 rfl) rfl rfl rfl (fun a w_ hF => r_move (hF.ev rfl)) ?_
          refine todo_pure hl_ (by kernel_rfl) rfl (gw0 rfl) rfl rfl rfl (fun a w_ hF => r_move (hF.ev rfl)) ?_
          obtain ⟨g40, o40, m40, q40, hv40, hm40, hl40, hc40⟩ := Rd.idxF (ha) (at0_get (i := (at0 order (k : Int))) (by omega) (by omega))
          refine todo_pure hl_ (by kernel_rfl) rfl (gw0 rfl) rfl rfl rfl (fun a w_ hF => r_index sl52 ((hF.ev rfl).trans hv40) (hF.ev rfl) (by omega) (by first | omega | (simp at hm40; omega))) ?_
          refine todo_load [6, 7, 8, 9, 11, 12] hl_ (by kernel_rfl) rfl (gw0 rfl) rfl rfl rfl (fun a w_ hF hB_ => r_loadn ag44 (hF.ev rfl) (fun j_ u_ hu_ => cellB (hSd.ext hB_).old (hc40 j_ u_ hu_)) sz44) ?_
          refine todo_mk hl_ rfl (by kernel_rfl) rfl rfl rfl rfl rfl (fun a w_ hF => r_call3 en13 (hF.ev rfl) (hF.ev rfl) (hF.ev rfl)) (fun w_ hS => implExplains_c (hS.part_k (i := 2) rfl) (by omega)) ?_; rintro vs42
          refine todo_pure hl_ (by kernel_rfl) rfl (gw0 rfl) rfl rfl rfl (fun a w_ hF => r_move (hF.ev rfl)) ?_
          refine todo_pure hl_ (by kernel_rfl) rfl (gw0 rfl) rfl rfl rfl (fun a w_ hF => r_extract (hF.ev rfl) rfl) ?_
          refine todo_pure hl_ (by kernel_rfl) rfl (gw0 rfl) rfl rfl rfl (fun a w_ hF => r_extract (hF.ev rfl) rfl) ?_
          refine todo_fin hl_ rfl (by kernel_rfl) (tl := [_, _]) rfl ?_; clear hS a; intro a w84 hF hA_
          obtain ⟨g4, hS, he_0⟩ := hA_.open1; clear hA_
          replace hF := hF.more he_0; clear he_0
          clear hl_; try clear hSd
          try dsimp only [List.cons_append, List.nil_append, List.set] at hS
          try clear wd
          refine wl_storew hF hS (i := 0) rfl (hF.ev rfl) (hF.ev rfl) sz35 rfl rfl ?_; intro w85 hS_; replace hS := hS_; clear hS_; dsimp only [List.set, Nat.reduceAdd] at hS
          refine wl_mvs (A := [_]) hF rfl ?_; clear hF a; intro a hF
          refine wl_nil ⟨rfl, ?_⟩
          refine hK100 _ _ ?_
          refine wp_seq_k fun K101 hK101 => ?_
          refine ws fun K102 hK102 => ?_
          refine wl_mvs (A := [_]) hF rfl ?_; clear hF a; intro a hF
          refine wl hF rfl rfl rfl (r_not (hF.ev rfl)) ?_; clear hF a; intro a hF
          refine wl_nil (hK102 _ _ ?_)
          refine wc_fx (t := 46) hF rfl ?_ ?_ <;> clear hF <;> intro c46 hF <;> try simp only [zb1, zb2, zb3, zb4, zb5, zb6, zb7, zb8] at c46
          ·
            refine ws fun K103 hK103 => ?_
            refine wl hF rfl rfl rfl (r_build (bd35) trivial) ?_; clear hF a; intro a hF
            refine wl_storew hF hS (i := 5) rfl (hF.ev rfl) (hF.ev rfl) sz35 rfl rfl ?_; intro w86 hS_; replace hS := hS_; clear hS_; dsimp only [List.set, Nat.reduceAdd] at hS
            refine wl_mvs (A := [_]) hF rfl ?_; clear hF a; intro a hF
            refine wl_nil (hK103 _ _ ?_)
            refine wp_ret ?_
            try simp only [Exit.then, Exit.inBlock, ↓reduceIte]
            first
              | (have e := ro_none (hr.symm.trans (rp_no2 (by omega) c46))
                 refine ret2c rfl ag35 hF hS (i := 5) rfl sz35 rfl rfl ⟨[], ?_, ?_⟩
                 · first | (rw [e]; done) | (rw [e]; rfl)
                 · rw [e]; exact (Sep.nilpart (hS.pick [] (by decide) rfl) (model_inner0 _)))
          have hex := c46
          refine wp_skip ?_
          refine hK101 _ _ ?_
          refine wp_region_lit ?_
          refine wl_mvs (A := [_, _]) hF rfl ?_; clear hF a; intro a hF
          refine wl hF rfl rfl rfl (r_loadn ag35 (hF.ev rfl) (hS.box_rd (i := 0) rfl) sz35) ?_; clear hF a; intro a hF
          refine wl_storew hF hS (i := 3) rfl (hF.ev rfl) (hF.ev rfl) sz35 rfl rfl ?_; intro w87 hS_; replace hS := hS_; clear hS_; dsimp only [List.set, Nat.reduceAdd] at hS
          obtain ⟨g51, o51, m51, q51, hv51, hm51, hl51, hc51⟩ := Rd.atF ((hS.own_rd (i := 2) rfl)) (a := a) (X := .tmp 49) (hF.ev rfl) (by omega) (by omega)
          refine wl hF rfl rfl rfl (r_index sl84 ((hF.ev rfl).trans hv51) (hF.ev rfl) (by omega) (by first | omega | (simp at hm51; omega))) ?_; clear hF a; intro a hF
          refine wl_tstore (q := 2) hF hS rfl hv51 (by omega) (by omega) sz4 (hF.ev rfl) rfl ec ?_; intro w88 hS_; replace hS := hS_; clear hS_; dsimp only [List.set] at hS
          refine wl_nil ?_
          simp only [Exit.then, Exit.inBlock, ↓reduceIte]
          refine hK95 _ _ ?_
          refine wp_region_lit ?_
          refine wl hF rfl rfl rfl (r_add (hF.ev rfl) ec) ?_; clear hF a; intro a hF
          refine wl_mvs (A := [_]) hF rfl ?_; clear hF a; intro a hF
          refine wl_nil ?_
          try simp only [Exit.then, Exit.inBlock, ↓reduceIte]
          refine ⟨(k + 1, used.set (at0 order (k : Int)).toNat true, (explains c m (at0 es (at0 order (k : Int)))).1, vs42), ⟨by dsimp only; omega, (rp_next (by omega) hgo hex).symm.trans hr, explains_small hex, by simp only [List.length_set]; exact hlu⟩, (hS.pick [2, 3, 1, 5, 6] (by decide) rfl), (((((((((hF.nil.keep hF (t := 24) rfl).keep hF (t := 23) rfl).keep hF (t := 9) rfl).keep hF (t := 8) rfl).keep hF (t := 7) rfl).keep hF (t := 6) rfl).keep hF (t := 3) rfl).keep hF (t := 1) rfl).keepE hF (t := 25) rfl (wk (by omega))), by dsimp only; omega⟩
        refine wp_exit ?_
        simp only [Exit.then, Exit.inBlock, ↓reduceIte]
        refine hK91 _ _ ?_
        refine wp_seq_k fun K104 hK104 => ?_
        refine ws fun K105 hK105 => ?_
        refine wl_mvs (A := [_, _]) hF rfl ?_; clear hF a; intro a hF
        refine wl_call hF rfl rfl rfl (r_call2 en64 (hF.ev rfl) (hF.ev rfl)) (complete_c (hS.rd ha) (hS.own_rd (i := 0) rfl) (by omega)) ?_; clear hF a; rintro v w89 a ⟨rfl, hB_⟩ hF; replace hS := hS.ext hB_; clear hB_
        refine wl hF rfl rfl rfl (r_not (hF.ev rfl)) ?_; clear hF a; intro a hF
        refine wl_nil (hK105 _ _ ?_)
        refine wc_fx (t := 56) hF rfl ?_ ?_ <;> clear hF <;> intro c56 hF <;> try simp only [zb1, zb2, zb3, zb4, zb5, zb6, zb7, zb8] at c56
        ·
          refine ws fun K106 hK106 => ?_
          refine wl hF rfl rfl rfl (r_build (bd35) trivial) ?_; clear hF a; intro a hF
          refine wl_storew hF hS (i := 3) rfl (hF.ev rfl) (hF.ev rfl) sz35 rfl rfl ?_; intro w90 hS_; replace hS := hS_; clear hS_; dsimp only [List.set, Nat.reduceAdd] at hS
          refine wl_mvs (A := [_]) hF rfl ?_; clear hF a; intro a hF
          refine wl_nil (hK106 _ _ ?_)
          refine wp_ret ?_
          try simp only [Exit.then, Exit.inBlock, ↓reduceIte]
          first
            | (have e := ro_not (show replay c es order (List.replicate es.length false) (newModel c) = some (used, m) from by rw [← hr, List.drop_of_length_le (by omega)]; rfl) (.inr c56)
               refine ret2c rfl ag35 hF hS (i := 3) rfl sz35 rfl rfl ⟨[], ?_, ?_⟩
               · first | (rw [e]; done) | (rw [e]; rfl)
               · rw [e]; exact (Sep.nilpart (hS.pick [] (by decide) rfl) (model_inner0 _)))
        refine wp_skip ?_
        refine hK104 _ _ ?_
        refine ws fun K107 hK107 => ?_
        refine wl hF rfl rfl rfl (r_loadn ag35 (hF.ev rfl) (hS.box_rd (i := 1) rfl) sz35) ?_; clear hF a; intro a hF
        refine wl_storew hF hS (i := 3) rfl (hF.ev rfl) (hF.ev rfl) sz35 rfl rfl ?_; intro w91 hS_; replace hS := hS_; clear hS_; dsimp only [List.set, Nat.reduceAdd] at hS
        refine wl_mvs (A := [_]) hF rfl ?_; clear hF a; intro a hF
        refine wl_nil (hK107 _ _ ?_)
        refine wp_ret ?_
        try simp only [Exit.then, Exit.inBlock, ↓reduceIte]
        have e := ro_done (show replay c es order (List.replicate es.length false) (newModel c) = some (used, m) from by rw [← hr, List.drop_of_length_le (by omega)]; rfl) c16 c56
        refine ret2c rfl ag35 hF hS (i := 3) rfl sz35 rfl rfl ⟨vs, ?_, ?_⟩
        · first | (rw [e]; done) | (rw [e]; rfl)
        · rw [e]; exact hS.pick [2] (by decide) rfl
      ·
        refine op_st (j := 1) (m' := [7]) rfl rfl (by kernel_rfl) rfl (fun a hF => (hF.ev rfl)) (fun a hF => (hF.ev rfl)) sz35 rfl rfl ?_; try clear hSd; try clear wd; intro wd hSd; try dsimp only [List.set] at hSd
        refine todo_op hl_ rfl (by kernel_rfl) rfl rfl rfl rfl rfl (fun a w_ hF hS => r_make0 boolEK false [] mk84 rfl (fun _ => Sat.nil _ _) (hF.ev rfl) (by omega) (by unfold maxLen; omega)) ?_; intro gm_22
        refine todo_fin hl_ rfl (by kernel_rfl) (tl := [_]) rfl ?_; clear hS a; intro a w93 hF hA_
        have hS := hA_.sep; clear hA_
        clear hl_; try clear hSd
        try dsimp only [List.cons_append, List.nil_append, List.set] at hS
        try clear wd
        refine wl_mvs (A := [_]) hF rfl ?_; clear hF a; intro a hF
        refine wl_nil ⟨rfl, ?_⟩
        refine hK5 _ _ ?_
        refine wp_seq_k fun K108 hK108 => ?_
        refine ws fun K109 hK109 => ?_
        refine wl_mvs (A := [_]) hF rfl ?_; clear hF a; intro a hF
        refine wl hF rfl rfl rfl (r_len ul24 (hF.ev rfl)) ?_; clear hF a; intro a hF
        refine wl_mvs (A := [_]) hF rfl ?_; clear hF a; intro a hF
        refine wl_nil (hK109 _ _ ?_)
        refine wp_block ?_
        replace hS := hS.pull (p := 1) rfl; dsimp only [List.eraseIdx] at hS
        replace hS := hS.pull (p := 2) rfl; dsimp only [List.eraseIdx] at hS
        replace hS := hS.pull (p := 2) rfl; dsimp only [List.eraseIdx] at hS
        have hL_ := ((((((((hF.nil.keep hF (t := 24) rfl).keep hF (t := 23) rfl).keep hF (t := 9) rfl).keep hF (t := 8) rfl).keep hF (t := 7) rfl).keep hF (t := 6) rfl).keep hF (t := 3) rfl).keep hF (t := 1) rfl)
        refine wp_loop_m (σ := Nat × List Bool × Model × List Slv) (fun z L_ => (25, vi z.1) :: L_) (fun z l_ => (Own boolEK (.slice (some ⟨gm_22, 0, none⟩) es.length es.length) z.2.1) :: (Box g3 [sv (z.2.2.2.getD 0 (none, 0, 0)), sv (z.2.2.2.getD 1 (none, 0, 0))]) :: (Part modelEK z.2.2.1 z.2.2.2) :: l_) (fun z => (z.1 ≤ order.length) ∧ (replay c es (order.drop z.1) z.2.1 z.2.2.1 = replay c es order (List.replicate es.length false) (newModel c)) ∧ (z.2.2.1.size ≤ 100) ∧ (z.2.1.length = es.length)) (fun z => order.length - z.1) (0, List.replicate es.length false, newModel c, vs19) (hS) (hL_.keepE hF (t := 25) rfl rfl) ?_ ?_
        · exact ⟨Nat.zero_le _, rfl, (newModel_cnt c).2, List.length_replicate⟩
        clear hF hS hL_ a
        rintro ⟨k, used, m, vs⟩ a w94 ⟨hk, hr, hsz, hlu⟩ hS hF; try dsimp only at hF; try dsimp only at hS; try dsimp only at hk; try dsimp only at hr; try dsimp only at hsz; try dsimp only at hlu
        refine ws fun K110 hK110 => ?_
        refine wl hF rfl rfl rfl (r_lss (hF.ev rfl) (hF.ev rfl)) ?_; clear hF a; intro a hF
        refine wl_nil (hK110 _ _ ?_)
        refine wp_seq_k fun K111 hK111 => ?_
        refine wc_fx (t := 26) hF rfl ?_ ?_ <;> clear hF <;> intro c26 hF <;> try simp only [zb1, zb2, zb3, zb4, zb5, zb6, zb7, zb8] at c26
        ·
          have hlt : k < order.length := by omega
          refine wp_skip ?_
          refine hK111 _ _ ?_
          refine wp_seq_k fun K112 hK112 => ?_
          refine wp_block ?_
          refine ws fun K113 hK113 => ?_
          obtain ⟨g27, o27, m27, q27, hv27, hm27, hl27, hc27⟩ := Rd.atF (ho) (a := a) (X := .tmp 25) (hF.ev rfl) (by omega) (by omega)
          refine wl hF rfl rfl rfl (r_index sl24 ((hF.ev rfl).trans hv27) (hF.ev rfl) (by omega) (by first | omega | (simp at hm27; omega))) ?_; clear hF a; intro a hF
          refine wl hF rfl rfl rfl (r_load1 sc3 (hF.ev rfl) (cellB hS.old (hc27 0 _ rfl))) ?_; clear hF a; intro a hF
          refine wl_mvs (A := [_]) hF rfl ?_; clear hF a; intro a hF
          refine wl_nil (hK113 _ _ ?_)
          refine wp_seq_k fun K114 hK114 => ?_
          refine ws fun K115 hK115 => ?_
          refine wl_mvs (A := [_, _, _]) hF rfl ?_; clear hF a; intro a hF
          refine wl_call hF rfl rfl rfl (r_call3 en63 (hF.ev rfl) (hF.ev rfl) (hF.ev rfl)) (implMayGo_c (hS.rd ha) (hS.own_rd (i := 0) rfl)) ?_; clear hF a; rintro v w95 a ⟨rfl, hB_⟩ hF; replace hS := hS.ext hB_; clear hB_
          refine wl hF rfl rfl rfl (r_not (hF.ev rfl)) ?_; clear hF a; intro a hF
          refine wl_nil (hK115 _ _ ?_)
          refine wc_fx (t := 33) hF rfl ?_ ?_ <;> clear hF <;> intro c33 hF <;> try simp only [zb1, zb2, zb3, zb4, zb5, zb6, zb7, zb8] at c33
          ·
            refine ws fun K116 hK116 => ?_
            refine wl hF rfl rfl rfl (r_build (bd35) trivial) ?_; clear hF a; intro a hF
            refine wl_storew hF hS (i := 3) rfl (hF.ev rfl) (hF.ev rfl) sz35 rfl rfl ?_; intro w96 hS_; replace hS := hS_; clear hS_; dsimp only [List.set, Nat.reduceAdd] at hS
            refine wl_mvs (A := [_]) hF rfl ?_; clear hF a; intro a hF
            refine wl_nil (hK116 _ _ ?_)
            refine wp_ret ?_
            try simp only [Exit.then, Exit.inBlock, ↓reduceIte]
            first
              | (have e := ro_none (hr.symm.trans (rp_no1 (by omega) c33))
                 refine ret2c rfl ag35 hF hS (i := 3) rfl sz35 rfl rfl ⟨[], ?_, ?_⟩
                 · first | (rw [e]; done) | (rw [e]; rfl)
                 · rw [e]; exact (Sep.nilpart (hS.pick [] (by decide) rfl) (model_inner0 _)))
          have hgo := c33
          have hin := mayGo_in hgo
          refine wp_skip ?_
          refine hK114 _ _ ?_
          refine wp_seq_k fun K117 hK117 => ?_
          refine wp_region_todo (is := [0, 1, 2, 3, 4, 5, 6, 7, 8, 9, 11, 12]) [(10, 12, [.slice none 0 0, .slice none 0 0])] [11, 12] (by kernel_rfl) hF hS ⟨⟨⟨_, _, _, rfl, zr35⟩, trivial⟩, by decide, by decide, by decide⟩ (by kernel_rfl) ?_; clear hF; intro hl_ wd hSd
          refine todo_load [6, 7, 8, 9, 11, 12] hl_ (by kernel_rfl) rfl (gw0 rfl) rfl rfl rfl (fun a w_ hF hB_ => r_loadn ag38 (hF.ev rfl) ((hSd.ext hB_).box_rd (i := 4) rfl) sz38) ?_
          refine todo_load [6, 7, 8, 9, 11, 12] hl_ (by kernel_rfl) rfl (gw0 rfl) rfl rfl rfl (fun a w_ hF hB_ => r_loadn ag35 (hF.ev rfl) ((hSd.ext hB_).box_rd (i := 1) rfl) sz35) ?_
          refine todo_pure hl_ (by kernel_rfl) rfl (gw0 rfl) rfl rfl rfl (fun a w_ hF => r_move (hF.ev rfl)) ?_
          refine todo_pure hl_ (by kernel_rfl) rfl (gw0 rfl) rfl rfl rfl (fun a w_ hF => r_move (hF.ev rfl)) ?_
          obtain ⟨g40, o40, m40, q40, hv40, hm40, hl40, hc40⟩ := Rd.idxF (ha) (at0_get (i := (at0 order (k : Int))) (by omega) (by omega))
          refine todo_pure hl_ (by kernel_rfl) rfl (gw0 rfl) rfl rfl rfl (fun a w_ hF => r_index sl52 ((hF.ev rfl).trans hv40) (hF.ev rfl) (by omega) (by first | omega | (simp at hm40; omega))) ?_
          refine todo_load [6, 7, 8, 9, 11, 12] hl_ (by kernel_rfl) rfl (gw0 rfl) rfl rfl rfl (fun a w_ hF hB_ => r_loadn ag44 (hF.ev rfl) (fun j_ u_ hu_ => cellB (hSd.ext hB_).old (hc40 j_ u_ hu_)) sz44) ?_
          refine todo_mk hl_ rfl (by kernel_rfl) rfl rfl rfl rfl rfl (fun a w_ hF => r_call3 en13 (hF.ev rfl) (hF.ev rfl) (hF.ev rfl)) (fun w_ hS => implExplains_c (hS.part_k (i := 2) rfl) (by omega)) ?_; rintro vs42
          refine todo_pure hl_ (by kernel_rfl) rfl (gw0 rfl) rfl rfl rfl (fun a w_ hF => r_move (hF.ev rfl)) ?_
          refine todo_pure hl_ (by kernel_rfl) rfl (gw0 rfl) rfl rfl rfl (fun a w_ hF => r_extract (hF.ev rfl) rfl) ?_
          refine todo_pure hl_ (by kernel_rfl) rfl (gw0 rfl) rfl rfl rfl (fun a w_ hF => r_extract (hF.ev rfl) rfl) ?_
          refine todo_fin hl_ rfl (by kernel_rfl) (tl := [_, _]) rfl ?_; clear hS a; intro a w97 hF hA_
          obtain ⟨g4, hS, he_0⟩ := hA_.open1; clear hA_
          replace hF := hF.more he_0; clear he_0
          clear hl_; try clear hSd
          try dsimp only [List.cons_append, List.nil_append, List.set] at hS
          try clear wd
          refine wl_storew hF hS (i := 0) rfl (hF.ev rfl) (hF.ev rfl) sz35 rfl rfl ?_; intro w98 hS_; replace hS := hS_; clear hS_; dsimp only [List.set, Nat.reduceAdd] at hS
          refine wl_mvs (A := [_]) hF rfl ?_; clear hF a; intro a hF
          refine wl_nil ⟨rfl, ?_⟩
          refine hK117 _ _ ?_
          refine wp_seq_k fun K118 hK118 => ?_
          refine ws fun K119 hK119 => ?_
          refine wl_mvs (A := [_]) hF rfl ?_; clear hF a; intro a hF
          refine wl hF rfl rfl rfl (r_not (hF.ev rfl)) ?_; clear hF a; intro a hF
          refine wl_nil (hK119 _ _ ?_)
          refine wc_fx (t := 46) hF rfl ?_ ?_ <;> clear hF <;> intro c46 hF <;> try simp only [zb1, zb2, zb3, zb4, zb5, zb6, zb7, zb8] at c46
          ·
            refine ws fun K120 hK120 => ?_
            refine wl hF rfl rfl rfl (r_build (bd35) trivial) ?_; clear hF a; intro a hF
            refine wl_storew hF hS (i := 5) rfl (hF.ev rfl) (hF.ev rfl) sz35 rfl rfl ?_; intro w99 hS_; replace hS := hS_; clear hS_; dsimp only [List.set, Nat.reduceAdd] at hS
            refine wl_mvs (A := [_]) hF rfl ?_; clear hF a; intro a hF
            refine wl_nil (hK120 _ _ ?_)
            refine wp_ret ?_
            try simp only [Exit.then, Exit.inBlock, ↓reduceIte]
            first
              | (have e := ro_none (hr.symm.trans (rp_no2 (by omega) c46))
                 refine ret2c rfl ag35 hF hS (i := 5) rfl sz35 rfl rfl ⟨[], ?_, ?_⟩
                 · first | (rw [e]; done) | (rw [e]; rfl)
                 · rw [e]; exact (Sep.nilpart (hS.pick [] (by decide) rfl) (model_inner0 _)))
          have hex := c46
          refine wp_skip ?_
          refine hK118 _ _ ?_
          refine wp_region_lit ?_
          refine wl_mvs (A := [_, _]) hF rfl ?_; clear hF a; intro a hF
          refine wl hF rfl rfl rfl (r_loadn ag35 (hF.ev rfl) (hS.box_rd (i := 0) rfl) sz35) ?_; clear hF a; intro a hF
          refine wl_storew hF hS (i := 3) rfl (hF.ev rfl) (hF.ev rfl) sz35 rfl rfl ?_; intro w100 hS_; replace hS := hS_; clear hS_; dsimp only [List.set, Nat.reduceAdd] at hS
          obtain ⟨g51, o51, m51, q51, hv51, hm51, hl51, hc51⟩ := Rd.atF ((hS.own_rd (i := 2) rfl)) (a := a) (X := .tmp 49) (hF.ev rfl) (by omega) (by omega)
          refine wl hF rfl rfl rfl (r_index sl84 ((hF.ev rfl).trans hv51) (hF.ev rfl) (by omega) (by first | omega | (simp at hm51; omega))) ?_; clear hF a; intro a hF
          refine wl_tstore (q := 2) hF hS rfl hv51 (by omega) (by omega) sz4 (hF.ev rfl) rfl ec ?_; intro w101 hS_; replace hS := hS_; clear hS_; dsimp only [List.set] at hS
          refine wl_nil ?_
          simp only [Exit.then, Exit.inBlock, ↓reduceIte]
          refine hK112 _ _ ?_
          refine wp_region_lit ?_
          refine wl hF rfl rfl rfl (r_add (hF.ev rfl) ec) ?_; clear hF a; intro a hF
          refine wl_mvs (A := [_]) hF rfl ?_; clear hF a; intro a hF
          refine wl_nil ?_
          try simp only [Exit.then, Exit.inBlock, ↓reduceIte]
          refine ⟨(k + 1, used.set (at0 order (k : Int)).toNat true, (explains c m (at0 es (at0 order (k : Int)))).1, vs42), ⟨by dsimp only; omega, (rp_next (by omega) hgo hex).symm.trans hr, explains_small hex, by simp only [List.length_set]; exact hlu⟩, (hS.pick [2, 3, 1, 5, 6] (by decide) rfl), (((((((((hF.nil.keep hF (t := 24) rfl).keep hF (t := 23) rfl).keep hF (t := 9) rfl).keep hF (t := 8) rfl).keep hF (t := 7) rfl).keep hF (t := 6) rfl).keep hF (t := 3) rfl).keep hF (t := 1) rfl).keepE hF (t := 25) rfl (wk (by omega))), by dsimp only; omega⟩
        refine wp_exit ?_
        simp only [Exit.then, Exit.inBlock, ↓reduceIte]
        refine hK108 _ _ ?_
        refine wp_seq_k fun K121 hK121 => ?_
        refine ws fun K122 hK122 => ?_
        refine wl_mvs (A := [_, _]) hF rfl ?_; clear hF a; intro a hF
        refine wl_call hF rfl rfl rfl (r_call2 en64 (hF.ev rfl) (hF.ev rfl)) (complete_c (hS.rd ha) (hS.own_rd (i := 0) rfl) (by omega)) ?_; clear hF a; rintro v w102 a ⟨rfl, hB_⟩ hF; replace hS := hS.ext hB_; clear hB_
        refine wl hF rfl rfl rfl (r_not (hF.ev rfl)) ?_; clear hF a; intro a hF
        refine wl_nil (hK122 _ _ ?_)
        refine wc_fx (t := 56) hF rfl ?_ ?_ <;> clear hF <;> intro c56 hF <;> try simp only [zb1, zb2, zb3, zb4, zb5, zb6, zb7, zb8] at c56
        ·
          refine ws fun K123 hK123 => ?_
          refine wl hF rfl rfl rfl (r_build (bd35) trivial) ?_; clear hF a; intro a hF
          refine wl_storew hF hS (i := 3) rfl (hF.ev rfl) (hF.ev rfl) sz35 rfl rfl ?_; intro w103 hS_; replace hS := hS_; clear hS_; dsimp only [List.set, Nat.reduceAdd] at hS
          refine wl_mvs (A := [_]) hF rfl ?_; clear hF a; intro a hF
          refine wl_nil (hK123 _ _ ?_)
          refine wp_ret ?_
          try simp only [Exit.then, Exit.inBlock, ↓reduceIte]
          first
            | (have e := ro_not (show replay c es order (List.replicate es.length false) (newModel c) = some (used, m) from by rw [← hr, List.drop_of_length_le (by omega)]; rfl) (.inr c56)
               refine ret2c rfl ag35 hF hS (i := 3) rfl sz35 rfl rfl ⟨[], ?_, ?_⟩
               · first | (rw [e]; done) | (rw [e]; rfl)
               · rw [e]; exact (Sep.nilpart (hS.pick [] (by decide) rfl) (model_inner0 _)))
        refine wp_skip ?_
        refine hK121 _ _ ?_
        refine ws fun K124 hK124 => ?_
        refine wl hF rfl rfl rfl (r_loadn ag35 (hF.ev rfl) (hS.box_rd (i := 1) rfl) sz35) ?_; clear hF a; intro a hF
        refine wl_storew hF hS (i := 3) rfl (hF.ev rfl) (hF.ev rfl) sz35 rfl rfl ?_; intro w104 hS_; replace hS := hS_; clear hS_; dsimp only [List.set, Nat.reduceAdd] at hS
        refine wl_mvs (A := [_]) hF rfl ?_; clear hF a; intro a hF
        refine wl_nil (hK124 _ _ ?_)
        refine wp_ret ?_
        try simp only [Exit.then, Exit.inBlock, ↓reduceIte]
        have e := ro_done (show replay c es order (List.replicate es.length false) (newModel c) = some (used, m) from by rw [← hr, List.drop_of_length_le (by omega)]; rfl) c16 c56
        refine ret2c rfl ag35 hF hS (i := 3) rfl sz35 rfl rfl ⟨vs, ?_, ?_⟩
        · first | (rw [e]; done) | (rw [e]; rfl)
        · rw [e]; exact hS.pick [2] (by decide) rfl
    ·
      refine op_op rfl rfl (gw0 rfl) rfl rfl rfl (fun a w_ hF hS => r_make0 boolEK false [] mk84 rfl (fun _ => Sat.nil _ _) (hF.ev rfl) (by omega) (by unfold maxLen; omega)) ?_; intro gm_22
      refine todo_mk hl_ rfl (by kernel_rfl) rfl rfl rfl rfl rfl (fun a w_ hF => r_call1 en60 (hF.ev rfl)) (fun w_ hS => implNewModel_c _) ?_; rintro vs19
      refine todo_fin hl_ rfl (by kernel_rfl) (tl := [_, _]) rfl ?_; clear hS a; intro a w106 hF hA_
      have hS := hA_.sep; clear hA_
      clear hl_; try clear hSd
      try dsimp only [List.cons_append, List.nil_append, List.set] at hS
      try clear wd
      refine wl_storew hF hS (i := 2) rfl (hF.ev rfl) (hF.ev rfl) sz35 rfl rfl ?_; intro w107 hS_; replace hS := hS_; clear hS_; dsimp only [List.set, Nat.reduceAdd] at hS
      refine wl_mvs (A := [_]) hF rfl ?_; clear hF a; intro a hF
      refine wl_nil ⟨rfl, ?_⟩
      refine hK5 _ _ ?_
      refine wp_seq_k fun K125 hK125 => ?_
      refine ws fun K126 hK126 => ?_
      refine wl_mvs (A := [_]) hF rfl ?_; clear hF a; intro a hF
      refine wl hF rfl rfl rfl (r_len ul24 (hF.ev rfl)) ?_; clear hF a; intro a hF
      refine wl_mvs (A := [_]) hF rfl ?_; clear hF a; intro a hF
      refine wl_nil (hK126 _ _ ?_)
      refine wp_block ?_
      replace hS := hS.pull (p := 0) rfl; dsimp only [List.eraseIdx] at hS
      replace hS := hS.pull (p := 2) rfl; dsimp only [List.eraseIdx] at hS
      replace hS := hS.pull (p := 2) rfl; dsimp only [List.eraseIdx] at hS
      have hL_ := ((((((((hF.nil.keep hF (t := 24) rfl).keep hF (t := 23) rfl).keep hF (t := 9) rfl).keep hF (t := 8) rfl).keep hF (t := 7) rfl).keep hF (t := 6) rfl).keep hF (t := 3) rfl).keep hF (t := 1) rfl)
      refine wp_loop_m (σ := Nat × List Bool × Model × List Slv) (fun z L_ => (25, vi z.1) :: L_) (fun z l_ => (Own boolEK (.slice (some ⟨gm_22, 0, none⟩) es.length es.length) z.2.1) :: (Box g3 [sv (z.2.2.2.getD 0 (none, 0, 0)), sv (z.2.2.2.getD 1 (none, 0, 0))]) :: (Part modelEK z.2.2.1 z.2.2.2) :: l_) (fun z => (z.1 ≤ order.length) ∧ (replay c es (order.drop z.1) z.2.1 z.2.2.1 = replay c es order (List.replicate es.length false) (newModel c)) ∧ (z.2.2.1.size ≤ 100) ∧ (z.2.1.length = es.length)) (fun z => order.length - z.1) (0, List.replicate es.length false, newModel c, vs19) (hS) (hL_.keepE hF (t := 25) rfl rfl) ?_ ?_
      · exact ⟨Nat.zero_le _, rfl, (newModel_cnt c).2, List.length_replicate⟩
      clear hF hS hL_ a
      rintro ⟨k, used, m, vs⟩ a w108 ⟨hk, hr, hsz, hlu⟩ hS hF; try dsimp only at hF; try dsimp only at hS; try dsimp only at hk; try dsimp only at hr; try dsimp only at hsz; try dsimp only at hlu
      refine ws fun K127 hK127 => ?_
      refine wl hF rfl rfl rfl (r_lss (hF.ev rfl) (hF.ev rfl)) ?_; clear hF a; intro a hF
      refine wl_nil (hK127 _ _ ?_)
      refine wp_seq_k fun K128 hK128 => ?_
      refine wc_fx (t := 26) hF rfl ?_ ?_ <;> clear hF <;> intro c26 hF <;> try simp only [zb1, zb2, zb3, zb4, zb5, zb6, zb7, zb8] at c26
      ·
        have hlt : k < order.length := by omega
        refine wp_skip ?_
        refine hK128 _ _ ?_
        refine wp_seq_k fun K129 hK129 => ?_
        refine wp_block ?_
        refine ws fun K130 hK130 => ?_
        obtain ⟨g27, o27, m27, q27, hv27, hm27, hl27, hc27⟩ := Rd.atF (ho) (a := a) (X := .tmp 25) (hF.ev rfl) (by omega) (by omega)
        refine wl hF rfl rfl rfl (r_index sl24 ((hF.ev rfl).trans hv27) (hF.ev rfl) (by omega) (by first | omega | (simp at hm27; omega))) ?_; clear hF a; intro a hF
        refine wl hF rfl rfl rfl (r_load1 sc3 (hF.ev rfl) (cellB hS.old (hc27 0 _ rfl))) ?_; clear hF a; intro a hF
        refine wl_mvs (A := [_]) hF rfl ?_; clear hF a; intro a hF
        refine wl_nil (hK130 _ _ ?_)
        refine wp_seq_k fun K131 hK131 => ?_
        refine ws fun K132 hK132 => ?_
        refine wl_mvs (A := [_, _, _]) hF rfl ?_; clear hF a; intro a hF
        refine wl_call hF rfl rfl rfl (r_call3 en63 (hF.ev rfl) (hF.ev rfl) (hF.ev rfl)) (implMayGo_c (hS.rd ha) (hS.own_rd (i := 0) rfl)) ?_; clear hF a; rintro v w109 a ⟨rfl, hB_⟩ hF; replace hS := hS.ext hB_; clear hB_
        refine wl hF rfl rfl rfl (r_not (hF.ev rfl)) ?_; clear hF a; intro a hF
        refine wl_nil (hK132 _ _ ?_)
        refine wc_fx (t := 33) hF rfl ?_ ?_ <;> clear hF <;> intro c33 hF <;> try simp only [zb1, zb2, zb3, zb4, zb5, zb6, zb7, zb8] at c33
        ·
          refine ws fun K133 hK133 => ?_
          refine wl hF rfl rfl rfl (r_build (bd35) trivial) ?_; clear hF a; intro a hF
          refine wl_storew hF hS (i := 3) rfl (hF.ev rfl) (hF.ev rfl) sz35 rfl rfl ?_; intro w110 hS_; replace hS := hS_; clear hS_; dsimp only [List.set, Nat.reduceAdd] at hS
          refine wl_mvs (A := [_]) hF rfl ?_; clear hF a; intro a hF
          refine wl_nil (hK133 _ _ ?_)
          refine wp_ret ?_
          try simp only [Exit.then, Exit.inBlock, ↓reduceIte]
          first
            | (have e := ro_none (hr.symm.trans (rp_no1 (by omega) c33))
               refine ret2c rfl ag35 hF hS (i := 3) rfl sz35 rfl rfl ⟨[], ?_, ?_⟩
               · first | (rw [e]; done) | (rw [e]; rfl)
               · rw [e]; exact (Sep.nilpart (hS.pick [] (by decide) rfl) (model_inner0 _)))
        have hgo := c33
        have hin := mayGo_in hgo
        refine wp_skip ?_
        refine hK131 _ _ ?_
        refine wp_seq_k fun K134 hK134 => ?_
        refine wp_region_todo (is := [0, 1, 2, 3, 4, 5, 6, 7, 8, 9, 11, 12]) [(10, 12, [.slice none 0 0, .slice none 0 0])] [11, 12] (by kernel_rfl) hF hS ⟨⟨⟨_, _, _, rfl, zr35⟩, trivial⟩, by decide, by decide, by decide⟩ (by kernel_rfl) ?_; clear hF; intro hl_ wd hSd
        refine todo_load [6, 7, 8, 9, 11, 12] hl_ (by kernel_rfl) rfl (gw0 rfl) rfl rfl rfl (fun a w_ hF hB_ => r_loadn ag38 (hF.ev rfl) ((hSd.ext hB_).box_rd (i := 4) rfl) sz38) ?_
        refine todo_load [6, 7, 8, 9, 11, 12] hl_ (by kernel_rfl) rfl (gw0 rfl) rfl rfl rfl (fun a w_ hF hB_ => r_loadn ag35 (hF.ev rfl) ((hSd.ext hB_).box_rd (i := 1) rfl) sz35) ?_
        refine todo_pure hl_ (by kernel_rfl) rfl (gw0 rfl) rfl rfl rfl (fun a w_ hF => r_move (hF.ev rfl)) ?_
        refine todo_pure hl_ (by kernel_rfl) rfl (gw0 rfl) rfl rfl rfl (fun a w_ hF => r_move (hF.ev rfl)) ?_
        obtain ⟨g40, o40, m40, q40, hv40, hm40, hl40, hc40⟩ := Rd.idxF (ha) (at0_get (i := (at0 order (k : Int))) (by omega) (by omega))
        refine todo_pure hl_ (by kernel_rfl) rfl (gw0 rfl) rfl rfl rfl (fun a w_ hF => r_index sl52 ((hF.ev rfl).trans hv40) (hF.ev rfl) (by omega) (by first | omega | (simp at hm40; omega))) ?_
        refine todo_load [6, 7, 8, 9, 11, 12] hl_ (by kernel_rfl) rfl (gw0 rfl) rfl rfl rfl (fun a w_ hF hB_ => r_loadn ag44 (hF.ev rfl) (fun j_ u_ hu_ => cellB (hSd.ext hB_).old (hc40 j_ u_ hu_)) sz44) ?_
        refine todo_mk hl_ rfl (by kernel_rfl) rfl rfl rfl rfl rfl (fun a w_ hF => r_call3 en13 (hF.ev rfl) (hF.ev rfl) (hF.ev rfl)) (fun w_ hS => implExplains_c (hS.part_k (i := 2) rfl) (by omega)) ?_; rintro vs42
        refine todo_pure hl_ (by kernel_rfl) rfl (gw0 rfl) rfl rfl rfl (fun a w_ hF => r_move (hF.ev rfl)) ?_
        refine todo_pure hl_ (by kernel_rfl) rfl (gw0 rfl) rfl rfl rfl (fun a w_ hF => r_extract (hF.ev rfl) rfl) ?_
        refine todo_pure hl_ (by kernel_rfl) rfl (gw0 rfl) rfl rfl rfl (fun a w_ hF => r_extract (hF.ev rfl) rfl) ?_
        refine todo_fin hl_ rfl (by kernel_rfl) (tl := [_, _]) rfl ?_; clear hS a; intro a w111 hF hA_
        obtain ⟨g4, hS, he_0⟩ := hA_.open1; clear hA_
        replace hF := hF.more he_0; clear he_0
        clear hl_; try clear hSd
        try dsimp only [List.cons_append, List.nil_append, List.set] at hS
        try clear wd
        refine wl_storew hF hS (i := 0) rfl (hF.ev rfl) (hF.ev rfl) sz35 rfl rfl ?_; intro w112 hS_; replace hS := hS_; clear hS_; dsimp only [List.set, Nat.reduceAdd] at hS
        refine wl_mvs (A := [_]) hF rfl ?_; clear hF a; intro a hF
        refine wl_nil ⟨rfl, ?_⟩
        refine hK134 _ _ ?_
        refine wp_seq_k fun K135 hK135 => ?_
        refine ws fun K136 hK136 => ?_
        refine wl_mvs (A := [_]) hF rfl ?_; clear hF a; intro a hF
        refine wl hF rfl rfl rfl (r_not (hF.ev rfl)) ?_; clear hF a; intro a hF
        refine wl_nil (hK136 _ _ ?_)
        refine wc_fx (t := 46) hF rfl ?_ ?_ <;> clear hF <;> intro c46 hF <;> try simp only [zb1, zb2, zb3, zb4, zb5, zb6, zb7, zb8] at c46
        ·
          refine ws fun K137 hK137 => ?_
          refine wl hF rfl rfl rfl (r_build (bd35) trivial) ?_; clear hF a; intro a hF
          refine wl_storew hF hS (i := 5) rfl (hF.ev rfl) (hF.ev rfl) sz35 rfl rfl ?_; intro w113 hS_; replace hS := hS_; clear hS_; dsimp only [List.set, Nat.reduceAdd] at hS
          refine wl_mvs (A := [_]) hF rfl ?_; clear hF a; intro a hF
          refine wl_nil (hK137 _ _ ?_)
          refine wp_ret ?_
          try simp only [Exit.then, Exit.inBlock, ↓reduceIte]
          first
            | (have e := ro_none (hr.symm.trans (rp_no2 (by omega) c46))
               refine ret2c rfl ag35 hF hS (i := 5) rfl sz35 rfl rfl ⟨[], ?_, ?_⟩
               · first | (rw [e]; done) | (rw [e]; rfl)
               · rw [e]; exact (Sep.nilpart (hS.pick [] (by decide) rfl) (model_inner0 _)))
        have hex := c46
        refine wp_skip ?_
        refine hK135 _ _ ?_
        refine wp_region_lit ?_
        refine wl_mvs (A := [_, _]) hF rfl ?_; clear hF a; intro a hF
        refine wl hF rfl rfl rfl (r_loadn ag35 (hF.ev rfl) (hS.box_rd (i := 0) rfl) sz35) ?_; clear hF a; intro a hF
        refine wl_storew hF hS (i := 3) rfl (hF.ev rfl) (hF.ev rfl) sz35 rfl rfl ?_; intro w114 hS_; replace hS := hS_; clear hS_; dsimp only [List.set, Nat.reduceAdd] at hS
        obtain ⟨g51, o51, m51, q51, hv51, hm51, hl51, hc51⟩ := Rd.atF ((hS.own_rd (i := 2) rfl)) (a := a) (X := .tmp 49) (hF.ev rfl) (by omega) (by omega)
        refine wl hF rfl rfl rfl (r_index sl84 ((hF.ev rfl).trans hv51) (hF.ev rfl) (by omega) (by first | omega | (simp at hm51; omega))) ?_; clear hF a; intro a hF
        refine wl_tstore (q := 2) hF hS rfl hv51 (by omega) (by omega) sz4 (hF.ev rfl) rfl ec ?_; intro w115 hS_; replace hS := hS_; clear hS_; dsimp only [List.set] at hS
        refine wl_nil ?_
        simp only [Exit.then, Exit.inBlock, ↓reduceIte]
        refine hK129 _ _ ?_
        refine wp_region_lit ?_
        refine wl hF rfl rfl rfl (r_add (hF.ev rfl) ec) ?_; clear hF a; intro a hF
        refine wl_mvs (A := [_]) hF rfl ?_; clear hF a; intro a hF
        refine wl_nil ?_
        try simp only [Exit.then, Exit.inBlock, ↓reduceIte]
        refine ⟨(k + 1, used.set (at0 order (k : Int)).toNat true, (explains c m (at0 es (at0 order (k : Int)))).1, vs42), ⟨by dsimp only; omega, (rp_next (by omega) hgo hex).symm.trans hr, explains_small hex, by simp only [List.length_set]; exact hlu⟩, (hS.pick [2, 3, 1, 5, 6] (by decide) rfl), (((((((((hF.nil.keep hF (t := 24) rfl).keep hF (t := 23) rfl).keep hF (t := 9) rfl).keep hF (t := 8) rfl).keep hF (t := 7) rfl).keep hF (t := 6) rfl).keep hF (t := 3) rfl).keep hF (t := 1) rfl).keepE hF (t := 25) rfl (wk (by omega))), by dsimp only; omega⟩
      refine wp_exit ?_
      simp only [Exit.then, Exit.inBlock, ↓reduceIte]
      refine hK125 _ _ ?_
      refine wp_seq_k fun K138 hK138 => ?_
      refine ws fun K139 hK139 => ?_
      refine wl_mvs (A := [_, _]) hF rfl ?_; clear hF a; intro a hF
      refine wl_call hF rfl rfl rfl (r_call2 en64 (hF.ev rfl) (hF.ev rfl)) (complete_c (hS.rd ha) (hS.own_rd (i := 0) rfl) (by omega)) ?_; clear hF a; rintro v w116 a ⟨rfl, hB_⟩ hF; replace hS := hS.ext hB_; clear hB_
      refine wl hF rfl rfl rfl (r_not (hF.ev rfl)) ?_; clear hF a; intro a hF
      refine wl_nil (hK139 _ _ ?_)
      refine wc_fx (t := 56) hF rfl ?_ ?_ <;> clear hF <;> intro c56 hF <;> try simp only [zb1, zb2, zb3, zb4, zb5, zb6, zb7, zb8] at c56
      ·
        refine ws fun K140 hK140 => ?_
        refine wl hF rfl rfl rfl (r_build (bd35) trivial) ?_; clear hF a; intro a hF
        refine wl_storew hF hS (i := 3) rfl (hF.ev rfl) (hF.ev rfl) sz35 rfl rfl ?_; intro w117 hS_; replace hS := hS_; clear hS_; dsimp only [List.set, Nat.reduceAdd] at hS
        refine wl_mvs (A := [_]) hF rfl ?_; clear hF a; intro a hF
        refine wl_nil (hK140 _ _ ?_)
        refine wp_ret ?_
        try simp only [Exit.then, Exit.inBlock, ↓reduceIte]
        first
          | (have e := ro_not (show replay c es order (List.replicate es.length false) (newModel c) = some (used, m) from by rw [← hr, List.drop_of_length_le (by omega)]; rfl) (.inr c56)
             refine ret2c rfl ag35 hF hS (i := 3) rfl sz35 rfl rfl ⟨[], ?_, ?_⟩
             · first | (rw [e]; done) | (rw [e]; rfl)
             · rw [e]; exact (Sep.nilpart (hS.pick [] (by decide) rfl) (model_inner0 _)))
      refine wp_skip ?_
      refine hK138 _ _ ?_
      refine ws fun K141 hK141 => ?_
      refine wl hF rfl rfl rfl (r_loadn ag35 (hF.ev rfl) (hS.box_rd (i := 1) rfl) sz35) ?_; clear hF a; intro a hF
      refine wl_storew hF hS (i := 3) rfl (hF.ev rfl) (hF.ev rfl) sz35 rfl rfl ?_; intro w118 hS_; replace hS := hS_; clear hS_; dsimp only [List.set, Nat.reduceAdd] at hS
      refine wl_mvs (A := [_]) hF rfl ?_; clear hF a; intro a hF
      refine wl_nil (hK141 _ _ ?_)
      refine wp_ret ?_
      try simp only [Exit.then, Exit.inBlock, ↓reduceIte]
      have e := ro_done (show replay c es order (List.replicate es.length false) (newModel c) = some (used, m) from by rw [← hr, List.drop_of_length_le (by omega)]; rfl) c16 c56
      refine ret2c rfl ag35 hF hS (i := 3) rfl sz35 rfl rfl ⟨vs, ?_, ?_⟩
      · first | (rw [e]; done) | (rw [e]; rfl)
      · rw [e]; exact hS.pick [2] (by decide) rfl

end Go.Proofs.Yteldnoimmjihoaa.Wk
