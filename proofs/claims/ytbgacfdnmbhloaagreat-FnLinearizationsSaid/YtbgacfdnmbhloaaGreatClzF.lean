/- FnLinearizations, for all byte strings: of the events drawn, the program's Linearize, IsLinearizable, ReplayOrder and MayGoNext answer what the reference's answer; an order that is found can be replayed, its model is a model, it holds every event that has ended, and where an order can be replayed one is found. Condition: the law's own guard on size. -/
import Derived.Test.YtbgacfdnmbhloaaGreatClzE
import Derived.Test.YtbgacfdnmbhloaaGreatRows
set_option maxHeartbeats 4000000
set_option maxRecDepth 20000
namespace Go.Proofs.YtbgacfdnmbhloaaGreat.Wk
open Go Go.RowKit Sl
set_option linter.unusedVariables false
set_option linter.unusedSimpArgs false
set_option maxRecDepth 20000
def replay (c : Config) (es : List Sl.Event) : List Int → List Bool → Model → Option (List Bool × Model)
  | [], used, m => some (used, m)
  | i :: l, used, m => if mayGo es used i = true then if (explains c m (at0 es i)).2 = true then replay c es l (used.set i.toNat true) (explains c m (at0 es i)).1 else none else none
def replayOrder (c : Config) (es : List Sl.Event) (order : List Int) : Model × Bool :=
  if c.ok then match replay c es order (List.replicate es.length false) (newModel c) with
    | some (u, m) => if allUsed es u = true then (m, true) else (⟨[], []⟩, false)
    | none => (⟨[], []⟩, false)
  else (⟨[], []⟩, false)
section
variable {c : Config} {es : List Sl.Event} {order : List Int} {used : List Bool} {m : Model} {k : Nat}
theorem mayGo_in {i : Int} (h : mayGo es used i = true) : 0 ≤ i ∧ i < es.length ∧ used.length = es.length := by
 unfold mayGo at h
 split at h
 · rename_i e he
   simp only [Bool.and_eq_true, decide_eq_true_eq] at h
   have := (List.getElem?_eq_some_iff.1 he).1
   exact ⟨h.1.1.2, by omega, h.1.1.1⟩
 · cases h
theorem drop_cons {α : Type} [Inhabited α] {xs : List α} (h : k < xs.length) : xs.drop k = at0 xs (k : Int) :: xs.drop (k + 1) := by
 rw [List.drop_eq_getElem_cons h]
 congr 1
 exact (at0_of (List.getElem?_eq_getElem h)).symm
theorem rp_next (h : k < order.length) (h1 : mayGo es used (at0 order (k : Int)) = true) (h2 : (explains c m (at0 es (at0 order (k : Int)))).2 = true) :
    replay c es (order.drop k) used m = replay c es (order.drop (k + 1)) (used.set (at0 order (k : Int)).toNat true) (explains c m (at0 es (at0 order (k : Int)))).1 := by
  rw [drop_cons h]; simp only [replay]; rw [if_pos h1, if_pos h2]
theorem rp_no1 (h : k < order.length) (h1 : mayGo es used (at0 order (k : Int)) = false) : replay c es (order.drop k) used m = none := by
 rw [drop_cons h]; simp only [replay]; exact if_neg (by rw [h1]; decide)
theorem rp_no2 (h : k < order.length) (h2 : (explains c m (at0 es (at0 order (k : Int)))).2 = false) : replay c es (order.drop k) used m = none := by
 rw [drop_cons h]; simp only [replay]
 split
 · exact if_neg (by rw [h2]; decide)
 · rfl
theorem ro_none (h : replay c es order (List.replicate es.length false) (newModel c) = none) : replayOrder c es order = (⟨[], []⟩, false) := by
 unfold replayOrder; rw [h]; simp
theorem ro_done {u : List Bool} (h : replay c es order (List.replicate es.length false) (newModel c) = some (u, m)) (h2 : c.ok) (h3 : allUsed es u = true) : replayOrder c es order = (m, true) := by
 unfold replayOrder; rw [if_pos h2, h]; simp [h3]
theorem ro_not {u : List Bool} (h : replay c es order (List.replicate es.length false) (newModel c) = some (u, m)) (h3 : ¬ c.ok ∨ allUsed es u = false) : replayOrder c es order = (⟨[], []⟩, false) := by
 unfold replayOrder
 rw [h]
 rcases h3 with h3 | h3
 · exact if_neg h3
 · simp [h3]
theorem model_inner0 (w : World) : Sat (modelEK.inner ⟨[], []⟩ []) (fun _ => False) w := by
 have h := Sat.nil (fun _ => False) w
 have c := fun {α : Type} (ek : EK α) {l : List Res} (h : Sat l (fun _ => False) w) => Sat.cons (S1 := fun _ => False) (S' := fun _ => False) h (own_nil ek _ w) (fun k hk => hk) (fun k hk => hk) (fun k hk _ => hk)
 exact c intEK (c (sliceEK intEK) h)
theorem crow_bound {xs : List (List Int)} {B : Nat} (h : ∀ x ∈ xs, x.length ≤ B) : crow List.length xs ≤ B * xs.length := by
 induction xs with
 | nil => simp [crow]
 | cons x xs ih =>
   have h1 := h x (by simp)
   have h2 := ih (fun y hy => h y (by simp [hy]))
   simp only [crow, List.length_cons, Nat.mul_add]; omega
theorem isModel_size (h : isModel c m = true) : m.size ≤ 24 ∧ m.values.length ≤ 4 := by
 obtain ⟨hok, hth⟩ := isModel_thr h
 have hv := isModel_vals h
 unfold Config.ok at hok
 have hb := crow_bound (xs := m.snapshots) (B := 4) (fun x hx => by
   by_cases h0 : (0 : Int) < x.length
   · have := isModel_snap h hx h0; omega
   · omega)
 unfold Model.size
 omega
theorem explains_small {e : Sl.Event} (h : (explains c m e).2 = true) : (explains c m e).1.size ≤ 100 := by
 have hm : isModel c m = true := by
   cases hc : isModel c m with
   | true => rfl
   | false => rw [ex_no (fun hh => by rw [hc] at hh; cases hh.1)] at h; cases h
 have h1 := isModel_size hm
 have h2 := (explains_cnt (c := c) (m := m) (e := e)).2
 omega
theorem ro_cfg (h : ¬ c.ok) : replayOrder c es order = (⟨[], []⟩, false) := if_neg h
end
theorem specReplay_c {W : World} {c : Config} {va vo : Value} {es : List Sl.Event} {order : List Int} (ha : eventEK.Rd W va es) (ho : intEK.Rd W vo order) (hze : es.length ≤ 1048576) : Calls Tryz.prog 11 #[.agg c.enc.toArray, va, vo] W (Ret (Mk W (fun vs => .tuple #[.agg (modelEK.cells (replayOrder c es order).1 vs).toArray, .bool (replayOrder c es order).2]) (fun vs => [Part modelEK (replayOrder c es order).1 vs]))) := by
 refine cfr Tryz.func11 Tryz.ntmps11 fun a hF => ?_
 have hS := Sep.refl W
 obtain ⟨A_e, q_e, rfl, hq_e, hn_e⟩ := ha.sl; unfold maxLen at hn_e
 obtain ⟨A_o, q_o, rfl, hq_o, hn_o⟩ := ho.sl; unfold maxLen at hn_o
 have hnm := (newModel_cnt c).2
 refine ws fun K1 hK1 => wl_box (cs := [_, _, _, _, _, _]) hF hS rfl (hF.ev rfl) rfl fun g1 w1 a hS _ hF => wl_alloc hF hS rfl zr36 fun g2 w2 a hS _ hF => ge hK1 hF rfl fun a hF => ws fun K2 hK2 => gB 1 1 hF hS rfl rfl rfl fun a hF => ?_
 refine wl_mk hF hS rfl rfl rfl (r_call1 en28 (hF.ev rfl)) (specNewModel_c _) ?_; rintro vs14 w3 a hS_ hF; replace hS := hS_; clear hS_; dsimp only [List.cons_append, List.nil_append] at hS
 refine wl_alloc hF hS rfl zr36 fun g3 w4 a hS _ hF => ww 0 hF hS rfl rfl rfl rfl rfl rfl fun w5 hS => wl_nil <| hK2 _ _ <| ws fun K3 hK3 => ga 2 hF rfl fun a hF => ?_
 refine wl_make boolEK false [] hF hS rfl mk50 rfl (fun _ => Sat.nil _ _) (hF.ev rfl) (by omega) (by unfold maxLen; omega) fun gm_17 w6 a hS hF => ?_
 refine ge hK3 hF rfl fun a hF => wp_seq_k fun K4 hK4 => rg hF rfl fun a hF => wp_block ?_
 replace hS := hS.pull (p := 2) rfl; dsimp only [List.eraseIdx] at hS
 replace hS := hS.pull (p := 2) rfl; dsimp only [List.eraseIdx] at hS
 replace hS := hS.pull (p := 2) rfl; dsimp only [List.eraseIdx] at hS
 have hL_ := (((((((hF.nil.keep hF (t := 9) rfl).keep hF (t := 8) rfl).keep hF (t := 7) rfl).keep hF (t := 6) rfl).keep hF (t := 3) rfl).keep hF (t := 2) rfl).keep hF (t := 1) rfl)
 refine wp_loop_m (σ := Nat × List Bool × Model × List Slv) (fun z L_ => (10, vi z.1) :: L_) (fun z l_ => (Own boolEK (.slice (some ⟨gm_17, 0, none⟩) es.length es.length) z.2.1) :: (Box g3 [sv (z.2.2.2.getD 0 (none, 0, 0)), sv (z.2.2.2.getD 1 (none, 0, 0))]) :: (Part modelEK z.2.2.1 z.2.2.2) :: l_) (fun z => (z.1 ≤ order.length) ∧ (replay c es (order.drop z.1) z.2.1 z.2.2.1 = replay c es order (List.replicate es.length false) (newModel c)) ∧ (z.2.2.1.size ≤ 100) ∧ (z.2.1.length = es.length)) (fun z => order.length - z.1) (0, List.replicate es.length false, newModel c, vs14) (hS) (hL_.keepE hF (t := 10) rfl rfl) ?_ ?_
 · exact ⟨Nat.zero_le _, rfl, (newModel_cnt c).2, List.length_replicate⟩
 rintro ⟨k, used, m, vs⟩ a w7 ⟨hk, hr, hsz, hlu⟩ hS hF; try dsimp only at hF; try dsimp only at hS; try dsimp only at hk; try dsimp only at hr; try dsimp only at hsz; try dsimp only at hlu
 refine wp_seq_k fun K6 hK6 => rg hF rfl fun a hF => cx 21 hF rfl (fun c21 hF => ?_) fun c21 hF => ?_
 ·
  have hlt : k < order.length := by omega
  refine wp_skip <| hK6 _ _ <| wp_seq_k fun K8 hK8 => wp_block <| wp_seq_k fun K9 hK9 => ws fun K10 hK10 => ga 4 hF rfl fun a hF => ?_
  obtain ⟨g28, o28, m28, q28, hv28, hm28, hl28, hc28⟩ := Rd.atF (ho) (a := a) (X := .tmp 27) (hF.ev rfl) (by omega) (by omega)
  refine wl hF rfl rfl rfl (r_index sl29 ((hF.ev rfl).trans hv28) (hF.ev rfl) (by omega) (by first | omega | (simp at hm28; omega))) fun a hF => ?_
  refine wl hF rfl rfl rfl (r_load1 sc3 (hF.ev rfl) (cellB hS.old (hc28 0 _ rfl))) fun a hF => ckr hF hS rfl (specMayGo_c (hS.rd ha) (hS.own_rd (i := 0) rfl)) fun w8 a hS hF => ge hK10 hF rfl fun a hF => cx 31 hF rfl (fun c31 hF => ?_) fun c31 hF => ?_
  ·
   refine ws fun K11 hK11 => wl hF rfl rfl rfl (r_build (bd36) trivial) fun a hF => ww 3 hF hS rfl rfl rfl rfl rfl rfl fun w9 hS => ge hK11 hF rfl fun a hF => ?_
   refine xr ?_
   first
     | (have e := ro_none (hr.symm.trans (rp_no1 (by omega) c31))
        refine ret2c rfl ag36 hF hS (i := 3) rfl sz36 rfl rfl ⟨[], ?_, ?_⟩
        · first | (rw [e]; done) | (rw [e]; rfl)
        · rw [e]; exact (Sep.nilpart (hS.pick [] (by decide) rfl) (model_inner0 _)))
  have hgo := c31
  have hin := mayGo_in hgo
  refine wp_skip <| hK9 _ _ <| wp_seq_k fun K12 hK12 => ?_
  refine wp_region_todo (is := [0, 1, 2, 3, 4, 5, 6, 7, 8, 9, 10, 11, 12, 14, 15]) [(13, 11, [.slice none 0 0, .slice none 0 0])] [14, 15] (by kernel_rfl) hF hS ⟨⟨⟨_, _, _, rfl, zr36⟩, trivial⟩, by decide, by decide, by decide⟩ (by kernel_rfl) ?_; intro hl_ wd hSd
  refine todo_load [9, 10, 11, 12, 14, 15] hl_ (by kernel_rfl) rfl (gw0 rfl) rfl rfl rfl (fun a w_ hF hB_ => r_loadn ag25 (hF.ev rfl) ((hSd.ext hB_).box_rd (i := 4) rfl) sz25) <| todo_load [9, 10, 11, 12, 14, 15] hl_ (by kernel_rfl) rfl (gw0 rfl) rfl rfl rfl (fun a w_ hF hB_ => r_loadn ag36 (hF.ev rfl) ((hSd.ext hB_).box_rd (i := 1) rfl) sz36) <| tp 3 hl_ rfl ?_
  obtain ⟨g39, o39, m39, q39, hv39, hm39, hl39, hc39⟩ := Rd.idxF (ho) (at0_get (i := (k : Int)) (by omega) (by omega))
  refine todo_pure hl_ (by kernel_rfl) rfl (gw0 rfl) rfl rfl rfl (fun a w_ hF => r_index sl29 ((hF.ev rfl).trans hv39) (hF.ev rfl) (by omega) (by first | omega | (simp at hm39; omega))) ?_
  refine todo_load [7, 8, 9, 10, 11, 12, 14, 15] hl_ (by kernel_rfl) rfl (gw0 rfl) rfl rfl rfl (fun a w_ hF hB_ => r_load1 sc3 (hF.ev rfl) (cellB (hSd.ext hB_).old (hc39 0 _ rfl))) ?_
  obtain ⟨g41, o41, m41, q41, hv41, hm41, hl41, hc41⟩ := Rd.idxF (ha) (at0_get (i := (at0 order (k : Int))) (by omega) (by omega))
  refine todo_pure hl_ (by kernel_rfl) rfl (gw0 rfl) rfl rfl rfl (fun a w_ hF => r_index sl26 ((hF.ev rfl).trans hv41) (hF.ev rfl) (by omega) (by first | omega | (simp at hm41; omega))) ?_
  refine todo_load [9, 10, 11, 12, 14, 15] hl_ (by kernel_rfl) rfl (gw0 rfl) rfl rfl rfl (fun a w_ hF hB_ => r_loadn ag46 (hF.ev rfl) (fun j_ u_ hu_ => cellB (hSd.ext hB_).old (hc41 j_ u_ hu_)) sz46) ?_
  refine todo_mk hl_ rfl (by kernel_rfl) rfl rfl rfl rfl rfl (fun a w_ hF => r_call3 en31 (hF.ev rfl) (hF.ev rfl) (hF.ev rfl)) (fun w_ hS => specExplains_c (hS.part_k (i := 2) rfl) (by omega)) ?_; rintro vs43
  refine tp 3 hl_ rfl ?_
  refine todo_fin hl_ rfl (by kernel_rfl) (tl := [_, _]) rfl ?_; intro a w10 hF hA_
  obtain ⟨g4, hS, he_0⟩ := hA_.open1; clear hA_
  replace hF := hF.more he_0; clear he_0
  clear hl_; try clear hSd
  try dsimp only [List.cons_append, List.nil_append, List.set] at hS
  try clear wd
  refine ww 0 hF hS rfl rfl rfl rfl rfl rfl fun w11 hS => ga 1 hF rfl fun a hF => wl_nil ⟨rfl, ?_⟩
  refine hK12 _ _ <| wp_seq_k fun K13 hK13 => rg hF rfl fun a hF => cx 47 hF rfl (fun c47 hF => ?_) fun c47 hF => ?_
  ·
   refine ws fun K15 hK15 => wl hF rfl rfl rfl (r_build (bd36) trivial) fun a hF => ww 5 hF hS rfl rfl rfl rfl rfl rfl fun w12 hS => ge hK15 hF rfl fun a hF => ?_
   refine xr ?_
   first
     | (have e := ro_none (hr.symm.trans (rp_no2 (by omega) c47))
        refine ret2c rfl ag36 hF hS (i := 5) rfl sz36 rfl rfl ⟨[], ?_, ?_⟩
        · first | (rw [e]; done) | (rw [e]; rfl)
        · rw [e]; exact (Sep.nilpart (hS.pick [] (by decide) rfl) (model_inner0 _)))
  have hex := c47
  refine wp_skip <| hK13 _ _ <| ws fun K16 hK16 => ga 3 hF rfl fun a hF => ?_
  obtain ⟨g52, o52, m52, q52, hv52, hm52, hl52, hc52⟩ := Rd.atF (ho) (a := a) (X := .tmp 51) (hF.ev rfl) (by omega) (by omega)
  refine wl hF rfl rfl rfl (r_index sl29 ((hF.ev rfl).trans hv52) (hF.ev rfl) (by omega) (by first | omega | (simp at hm52; omega))) fun a hF => ?_
  refine wl hF rfl rfl rfl (r_load1 sc3 (hF.ev rfl) (cellB hS.old (hc52 0 _ rfl))) fun a hF => ?_
  obtain ⟨g54, o54, m54, q54, hv54, hm54, hl54, hc54⟩ := Rd.atF ((hS.own_rd (i := 2) rfl)) (a := a) (X := .tmp 53) (hF.ev rfl) (by omega) (by omega)
  refine wl hF rfl rfl rfl (r_index sl50 ((hF.ev rfl).trans hv54) (hF.ev rfl) (by omega) (by first | omega | (simp at hm54; omega))) fun a hF => ?_
  refine wl_tstore (q := 2) hF hS rfl hv54 (by omega) (by omega) sz4 (hF.ev rfl) rfl ec fun w13 hS => ?_; dsimp only [List.set] at hS
  refine wl_nil <| hK16 _ _ <| wp_region_lit <| gB 1 0 hF hS rfl rfl rfl fun a hF => ww 3 hF hS rfl rfl rfl rfl rfl rfl fun w14 hS => wl_nil ?_
  refine xt ?_
  refine hK8 _ _ <| rl hF rfl fun a hF => ?_
  refine xt ?_
  refine ⟨(k + 1, used.set (at0 order (k : Int)).toNat true, (explains c m (at0 es (at0 order (k : Int)))).1, vs43), ⟨by dsimp only; omega, (rp_next (by omega) hgo hex).symm.trans hr, explains_small hex, by simp only [List.length_set]; exact hlu⟩, (hS.pick [2, 3, 1, 5, 6] (by decide) rfl), ((((((((hF.nil.keep hF (t := 9) rfl).keep hF (t := 8) rfl).keep hF (t := 7) rfl).keep hF (t := 6) rfl).keep hF (t := 3) rfl).keep hF (t := 2) rfl).keep hF (t := 1) rfl).keepE hF (t := 10) rfl (wk (by omega))), by dsimp only; omega⟩
 refine wp_exit ?_
 refine xt ?_
 refine hK4 _ _ <| wp_seq_k fun K17 hK17 => ws fun K18 hK18 => gB 1 4 hF hS rfl rfl rfl fun a hF => ckr hF hS rfl (specIsConfig_c _) fun w15 a hS hF => ga 2 hF rfl fun a hF => ?_
 apply wo 5 59 64 hF hS
 ·
  intro hg59 a hF
  refine ga 2 hF rfl fun a hF => ckr hF hS rfl (l20All_c (hS.rd ha) (hS.own_rd (i := 0) rfl) (by omega)) fun w16 a hS hF => ?_
  exact je 5 hF hS rfl rfl rfl rfl
 intro a w17 hF hS
 refine wl_nil <| hK18 _ _ <| cx 64 hF rfl (fun c64 hF => ?_) fun c64 hF => ?_
 ·
  refine ws fun K19 hK19 => wl hF rfl rfl rfl (r_build (bd36) trivial) fun a hF => ww 3 hF hS rfl rfl rfl rfl rfl rfl fun w18 hS => ge hK19 hF rfl fun a hF => ?_
  refine xr ?_
  first
    | (have e := ro_not (show replay c es order (List.replicate es.length false) (newModel c) = some (used, m) from by rw [← hr, List.drop_of_length_le (by omega)]; rfl) c64
       refine ret2c rfl ag36 hF hS (i := 3) rfl sz36 rfl rfl ⟨[], ?_, ?_⟩
       · first | (rw [e]; done) | (rw [e]; rfl)
       · rw [e]; exact (Sep.nilpart (hS.pick [] (by decide) rfl) (model_inner0 _)))
 refine wp_skip <| hK17 _ _ <| ws fun K20 hK20 => gB 1 1 hF hS rfl rfl rfl fun a hF => ww 3 hF hS rfl rfl rfl rfl rfl rfl fun w19 hS => ge hK20 hF rfl fun a hF => ?_
 refine xr ?_
 have e := ro_done (show replay c es order (List.replicate es.length false) (newModel c) = some (used, m) from by rw [← hr, List.drop_of_length_le (by omega)]; rfl) c64.1 c64.2
 refine ret2c rfl ag36 hF hS (i := 3) rfl sz36 rfl rfl ⟨vs, ?_, ?_⟩
 · first | (rw [e]; done) | (rw [e]; rfl)
 · rw [e]; exact hS.pick [2] (by decide) rfl
theorem implReplay_c {W : World} {c : Config} {va vo : Value} {es : List Sl.Event} {order : List Int} (ha : eventEK.Rd W va es) (ho : intEK.Rd W vo order) (hze : es.length ≤ 1048576) : Calls Tryz.prog 10 #[.agg c.enc.toArray, va, vo] W (Ret (Mk W (fun vs => .tuple #[.agg (modelEK.cells (replayOrder c es order).1 vs).toArray, .bool (replayOrder c es order).2]) (fun vs => [Part modelEK (replayOrder c es order).1 vs]))) := by
 refine cfr Tryz.func10 Tryz.ntmps10 fun a hF => ?_
 have hS := Sep.refl W
 obtain ⟨A_e, q_e, rfl, hq_e, hn_e⟩ := ha.sl; unfold maxLen at hn_e
 obtain ⟨A_o, q_o, rfl, hq_o, hn_o⟩ := ho.sl; unfold maxLen at hn_o
 have hnm := (newModel_cnt c).2
 refine ws fun K1 hK1 => wl_box (cs := [_, _, _, _, _, _]) hF hS rfl (hF.ev rfl) rfl fun g1 w1 a hS _ hF => wl_alloc hF hS rfl zr36 fun g2 w2 a hS _ hF => ge hK1 hF rfl fun a hF => wp_seq_k fun K2 hK2 => ws fun K3 hK3 => gB 1 1 hF hS rfl rfl rfl fun a hF => ?_
 refine ckr hF hS rfl (implIsConfig_c _) fun w3 a hS hF => ge hK3 hF rfl fun a hF => cx 16 hF rfl (fun c16 hF => ?_) fun c16 hF => ?_
 ·
  refine ws fun K4 hK4 => wl hF rfl rfl rfl (r_build (bd36) trivial) fun a hF => ww 0 hF hS rfl rfl rfl rfl rfl rfl fun w4 hS => ge hK4 hF rfl fun a hF => ?_
  refine xr ?_
  first
    | (have e := ro_cfg (es := es) (order := order) c16
       refine ret2c rfl ag36 hF hS (i := 0) rfl sz36 rfl rfl ⟨[], ?_, ?_⟩
       · first | (rw [e]; done) | (rw [e]; rfl)
       · rw [e]; exact (Sep.nilpart (hS.pick [] (by decide) rfl) (model_inner0 _)))
 refine wp_skip <| hK2 _ _ <| wp_seq_k fun K5 hK5 => ?_
 refine wp_region_todo (is := [0, 2, 3, 1, 4, 5, 6, 7]) [] [6, 7] (by kernel_rfl) hF hS ⟨trivial, by decide, by decide, by decide⟩ (by kernel_rfl) ?_; intro hl_ wd hSd
 refine todo_load [1, 6, 7] hl_ (by kernel_rfl) rfl (gw0 rfl) rfl rfl rfl (fun a w_ hF hB_ => r_loadn ag25 (hF.ev rfl) ((hSd.ext hB_).box_rd (i := 1) rfl) sz25) <| tp 2 hl_ rfl <| todo_fork [(1, [4, 5, 6, 7]), (4, [1, 5, 6, 7]), (5, [1, 4, 6, 7])] hl_ rfl (by kernel_rfl) (List.forall_mem_cons.2 ⟨?_, List.forall_mem_cons.2 ⟨?_, List.forall_mem_cons.2 ⟨?_, fun _ h_ => nomatch h_⟩⟩⟩)
 ·
  refine op_mk rfl rfl (gw0 rfl) rfl rfl rfl (fun a w_ hF => r_call1 en25 (hF.ev rfl)) (fun w_ hS => implNewModel_c _) ?_; rintro vs19
  refine todo_fork [(4, [5, 6, 7]), (5, [4, 6, 7])] hl_ rfl (by kernel_rfl) (List.forall_mem_cons.2 ⟨?_, List.forall_mem_cons.2 ⟨?_, fun _ h_ => nomatch h_⟩⟩)
  ·
   refine op_op rfl rfl (gw0 rfl) rfl rfl rfl (fun a w_ hF hS => r_make0 boolEK false [] mk50 rfl (fun _ => Sat.nil _ _) (hF.ev rfl) (by omega) (by unfold maxLen; omega)) ?_; intro gm_22
   refine todo_op hl_ rfl (by kernel_rfl) rfl rfl rfl rfl rfl (fun a w_ hF hS => r_alloc0 zr36) ?_; intro g3
   refine todo_fin hl_ rfl (by kernel_rfl) (tl := [_, _]) rfl ?_; intro a w7 hF hA_
   have hS := hA_.sep; clear hA_
   clear hl_; try clear hSd
   try dsimp only [List.cons_append, List.nil_append, List.set] at hS
   try clear wd
   refine ww 0 hF hS rfl rfl rfl rfl rfl rfl fun w8 hS => ga 1 hF rfl fun a hF => wl_nil ⟨rfl, ?_⟩
   refine hK5 _ _ <| wp_seq_k fun K6 hK6 => rg hF rfl fun a hF => wp_block ?_
   replace hS := hS.pull (p := 2) rfl; dsimp only [List.eraseIdx] at hS
   replace hS := hS.pull (p := 1) rfl; dsimp only [List.eraseIdx] at hS
   replace hS := hS.pull (p := 2) rfl; dsimp only [List.eraseIdx] at hS
   have hL_ := ((((((((hF.nil.keep hF (t := 24) rfl).keep hF (t := 23) rfl).keep hF (t := 9) rfl).keep hF (t := 8) rfl).keep hF (t := 7) rfl).keep hF (t := 6) rfl).keep hF (t := 3) rfl).keep hF (t := 1) rfl)
   refine wp_loop_m (σ := Nat × List Bool × Model × List Slv) (fun z L_ => (25, vi z.1) :: L_) (fun z l_ => (Own boolEK (.slice (some ⟨gm_22, 0, none⟩) es.length es.length) z.2.1) :: (Box g3 [sv (z.2.2.2.getD 0 (none, 0, 0)), sv (z.2.2.2.getD 1 (none, 0, 0))]) :: (Part modelEK z.2.2.1 z.2.2.2) :: l_) (fun z => (z.1 ≤ order.length) ∧ (replay c es (order.drop z.1) z.2.1 z.2.2.1 = replay c es order (List.replicate es.length false) (newModel c)) ∧ (z.2.2.1.size ≤ 100) ∧ (z.2.1.length = es.length)) (fun z => order.length - z.1) (0, List.replicate es.length false, newModel c, vs19) (hS) (hL_.keepE hF (t := 25) rfl rfl) ?_ ?_
   · exact ⟨Nat.zero_le _, rfl, (newModel_cnt c).2, List.length_replicate⟩
   rintro ⟨k, used, m, vs⟩ a w9 ⟨hk, hr, hsz, hlu⟩ hS hF; try dsimp only at hF; try dsimp only at hS; try dsimp only at hk; try dsimp only at hr; try dsimp only at hsz; try dsimp only at hlu
   refine rg hF rfl fun a hF => wp_seq_k fun K9 hK9 => cx 26 hF rfl (fun c26 hF => ?_) fun c26 hF => ?_
   ·
    have hlt : k < order.length := by omega
    refine wp_skip <| hK9 _ _ <| wp_seq_k fun K10 hK10 => wp_block <| ws fun K11 hK11 => ?_
    obtain ⟨g27, o27, m27, q27, hv27, hm27, hl27, hc27⟩ := Rd.atF (ho) (a := a) (X := .tmp 25) (hF.ev rfl) (by omega) (by omega)
    refine wl hF rfl rfl rfl (r_index sl29 ((hF.ev rfl).trans hv27) (hF.ev rfl) (by omega) (by first | omega | (simp at hm27; omega))) fun a hF => ?_
    refine wl hF rfl rfl rfl (r_load1 sc3 (hF.ev rfl) (cellB hS.old (hc27 0 _ rfl))) fun a hF => ge hK11 hF rfl fun a hF => wp_seq_k fun K12 hK12 => ws fun K13 hK13 => ga 3 hF rfl fun a hF => ckr hF hS rfl (implMayGo_c (hS.rd ha) (hS.own_rd (i := 0) rfl)) fun w10 a hS hF => ge hK13 hF rfl fun a hF => ?_
    refine cx 33 hF rfl (fun c33 hF => ?_) fun c33 hF => ?_
    ·
     refine ws fun K14 hK14 => wl hF rfl rfl rfl (r_build (bd36) trivial) fun a hF => ww 3 hF hS rfl rfl rfl rfl rfl rfl fun w11 hS => ge hK14 hF rfl fun a hF => ?_
     refine xr ?_
     first
       | (have e := ro_none (hr.symm.trans (rp_no1 (by omega) c33))
          refine ret2c rfl ag36 hF hS (i := 3) rfl sz36 rfl rfl ⟨[], ?_, ?_⟩
          · first | (rw [e]; done) | (rw [e]; rfl)
          · rw [e]; exact (Sep.nilpart (hS.pick [] (by decide) rfl) (model_inner0 _)))
    have hgo := c33
    have hin := mayGo_in hgo
    refine wp_skip <| hK12 _ _ <| wp_seq_k fun K15 hK15 => ?_
    refine wp_region_todo (is := [0, 1, 2, 3, 4, 5, 6, 7, 8, 9, 11, 12]) [(10, 12, [.slice none 0 0, .slice none 0 0])] [11, 12] (by kernel_rfl) hF hS ⟨⟨⟨_, _, _, rfl, zr36⟩, trivial⟩, by decide, by decide, by decide⟩ (by kernel_rfl) ?_; intro hl_ wd hSd
    refine todo_load [6, 7, 8, 9, 11, 12] hl_ (by kernel_rfl) rfl (gw0 rfl) rfl rfl rfl (fun a w_ hF hB_ => r_loadn ag25 (hF.ev rfl) ((hSd.ext hB_).box_rd (i := 4) rfl) sz25) <| todo_load [6, 7, 8, 9, 11, 12] hl_ (by kernel_rfl) rfl (gw0 rfl) rfl rfl rfl (fun a w_ hF hB_ => r_loadn ag36 (hF.ev rfl) ((hSd.ext hB_).box_rd (i := 1) rfl) sz36) <| tp 2 hl_ rfl ?_
    obtain ⟨g40, o40, m40, q40, hv40, hm40, hl40, hc40⟩ := Rd.idxF (ha) (at0_get (i := (at0 order (k : Int))) (by omega) (by omega))
    refine todo_pure hl_ (by kernel_rfl) rfl (gw0 rfl) rfl rfl rfl (fun a w_ hF => r_index sl26 ((hF.ev rfl).trans hv40) (hF.ev rfl) (by omega) (by first | omega | (simp at hm40; omega))) ?_
    refine todo_load [6, 7, 8, 9, 11, 12] hl_ (by kernel_rfl) rfl (gw0 rfl) rfl rfl rfl (fun a w_ hF hB_ => r_loadn ag46 (hF.ev rfl) (fun j_ u_ hu_ => cellB (hSd.ext hB_).old (hc40 j_ u_ hu_)) sz46) ?_
    refine todo_mk hl_ rfl (by kernel_rfl) rfl rfl rfl rfl rfl (fun a w_ hF => r_call3 en29 (hF.ev rfl) (hF.ev rfl) (hF.ev rfl)) (fun w_ hS => implExplains_c (hS.part_k (i := 2) rfl) (by omega)) ?_; rintro vs42
    refine tp 3 hl_ rfl ?_
    refine todo_fin hl_ rfl (by kernel_rfl) (tl := [_, _]) rfl ?_; intro a w12 hF hA_
    obtain ⟨g4, hS, he_0⟩ := hA_.open1; clear hA_
    replace hF := hF.more he_0; clear he_0
    clear hl_; try clear hSd
    try dsimp only [List.cons_append, List.nil_append, List.set] at hS
    try clear wd
    refine ww 0 hF hS rfl rfl rfl rfl rfl rfl fun w13 hS => ga 1 hF rfl fun a hF => wl_nil ⟨rfl, ?_⟩
    refine hK15 _ _ <| wp_seq_k fun K16 hK16 => rg hF rfl fun a hF => cx 46 hF rfl (fun c46 hF => ?_) fun c46 hF => ?_
    ·
     refine ws fun K18 hK18 => wl hF rfl rfl rfl (r_build (bd36) trivial) fun a hF => ww 5 hF hS rfl rfl rfl rfl rfl rfl fun w14 hS => ge hK18 hF rfl fun a hF => ?_
     refine xr ?_
     first
       | (have e := ro_none (hr.symm.trans (rp_no2 (by omega) c46))
          refine ret2c rfl ag36 hF hS (i := 5) rfl sz36 rfl rfl ⟨[], ?_, ?_⟩
          · first | (rw [e]; done) | (rw [e]; rfl)
          · rw [e]; exact (Sep.nilpart (hS.pick [] (by decide) rfl) (model_inner0 _)))
    have hex := c46
    refine wp_skip <| hK16 _ _ <| wp_region_lit <| gB 3 0 hF hS rfl rfl rfl fun a hF => ww 3 hF hS rfl rfl rfl rfl rfl rfl fun w15 hS => ?_
    obtain ⟨g51, o51, m51, q51, hv51, hm51, hl51, hc51⟩ := Rd.atF ((hS.own_rd (i := 2) rfl)) (a := a) (X := .tmp 49) (hF.ev rfl) (by omega) (by omega)
    refine wl hF rfl rfl rfl (r_index sl50 ((hF.ev rfl).trans hv51) (hF.ev rfl) (by omega) (by first | omega | (simp at hm51; omega))) fun a hF => ?_
    refine wl_tstore (q := 2) hF hS rfl hv51 (by omega) (by omega) sz4 (hF.ev rfl) rfl ec fun w16 hS => ?_; dsimp only [List.set] at hS
    refine wl_nil ?_
    refine xt ?_
    refine hK10 _ _ <| rl hF rfl fun a hF => ?_
    refine xt ?_
    refine ⟨(k + 1, used.set (at0 order (k : Int)).toNat true, (explains c m (at0 es (at0 order (k : Int)))).1, vs42), ⟨by dsimp only; omega, (rp_next (by omega) hgo hex).symm.trans hr, explains_small hex, by simp only [List.length_set]; exact hlu⟩, (hS.pick [2, 3, 1, 5, 6] (by decide) rfl), (((((((((hF.nil.keep hF (t := 24) rfl).keep hF (t := 23) rfl).keep hF (t := 9) rfl).keep hF (t := 8) rfl).keep hF (t := 7) rfl).keep hF (t := 6) rfl).keep hF (t := 3) rfl).keep hF (t := 1) rfl).keepE hF (t := 25) rfl (wk (by omega))), by dsimp only; omega⟩
   refine wp_exit ?_
   refine xt ?_
   refine hK6 _ _ <| wp_seq_k fun K19 hK19 => ws fun K20 hK20 => ga 2 hF rfl fun a hF => ckr hF hS rfl (complete_c (hS.rd ha) (hS.own_rd (i := 0) rfl) (by omega)) fun w17 a hS hF => ge hK20 hF rfl fun a hF => cx 56 hF rfl (fun c56 hF => ?_) fun c56 hF => ?_
   ·
    refine ws fun K21 hK21 => wl hF rfl rfl rfl (r_build (bd36) trivial) fun a hF => ww 3 hF hS rfl rfl rfl rfl rfl rfl fun w18 hS => ge hK21 hF rfl fun a hF => ?_
    refine xr ?_
    first
      | (have e := ro_not (show replay c es order (List.replicate es.length false) (newModel c) = some (used, m) from by rw [← hr, List.drop_of_length_le (by omega)]; rfl) (.inr c56)
         refine ret2c rfl ag36 hF hS (i := 3) rfl sz36 rfl rfl ⟨[], ?_, ?_⟩
         · first | (rw [e]; done) | (rw [e]; rfl)
         · rw [e]; exact (Sep.nilpart (hS.pick [] (by decide) rfl) (model_inner0 _)))
   refine wp_skip <| hK19 _ _ <| ws fun K22 hK22 => gB 1 1 hF hS rfl rfl rfl fun a hF => ww 3 hF hS rfl rfl rfl rfl rfl rfl fun w19 hS => ge hK22 hF rfl fun a hF => ?_
   refine xr ?_
   have e := ro_done (show replay c es order (List.replicate es.length false) (newModel c) = some (used, m) from by rw [← hr, List.drop_of_length_le (by omega)]; rfl) c16 c56
   refine ret2c rfl ag36 hF hS (i := 3) rfl sz36 rfl rfl ⟨vs, ?_, ?_⟩
   · first | (rw [e]; done) | (rw [e]; rfl)
   · rw [e]; exact hS.pick [2] (by decide) rfl
  ·
   refine op_op rfl rfl (gw0 rfl) rfl rfl rfl (fun a w_ hF hS => r_alloc0 zr36) ?_; intro g3
   refine todo_fork [(4, [6, 7]), (6, [4, 7])] hl_ rfl (by kernel_rfl) (List.forall_mem_cons.2 ⟨?_, List.forall_mem_cons.2 ⟨?_, fun _ h_ => nomatch h_⟩⟩)
   ·
    refine op_op rfl rfl (gw0 rfl) rfl rfl rfl (fun a w_ hF hS => r_make0 boolEK false [] mk50 rfl (fun _ => Sat.nil _ _) (hF.ev rfl) (by omega) (by unfold maxLen; omega)) ?_; intro gm_22
    refine todo_fin hl_ rfl (by kernel_rfl) (tl := [_, _]) rfl ?_; intro a w22 hF hA_
    have hS := hA_.sep; clear hA_
    clear hl_; try clear hSd
    try dsimp only [List.cons_append, List.nil_append, List.set] at hS
    try clear wd
    refine ww 1 hF hS rfl rfl rfl rfl rfl rfl fun w23 hS => ga 1 hF rfl fun a hF => wl_nil ⟨rfl, ?_⟩
    refine hK5 _ _ <| wp_seq_k fun K23 hK23 => rg hF rfl fun a hF => wp_block ?_
    replace hS := hS.pull (p := 2) rfl; dsimp only [List.eraseIdx] at hS
    replace hS := hS.pull (p := 2) rfl; dsimp only [List.eraseIdx] at hS
    replace hS := hS.pull (p := 2) rfl; dsimp only [List.eraseIdx] at hS
    have hL_ := ((((((((hF.nil.keep hF (t := 24) rfl).keep hF (t := 23) rfl).keep hF (t := 9) rfl).keep hF (t := 8) rfl).keep hF (t := 7) rfl).keep hF (t := 6) rfl).keep hF (t := 3) rfl).keep hF (t := 1) rfl)
    refine wp_loop_m (σ := Nat × List Bool × Model × List Slv) (fun z L_ => (25, vi z.1) :: L_) (fun z l_ => (Own boolEK (.slice (some ⟨gm_22, 0, none⟩) es.length es.length) z.2.1) :: (Box g3 [sv (z.2.2.2.getD 0 (none, 0, 0)), sv (z.2.2.2.getD 1 (none, 0, 0))]) :: (Part modelEK z.2.2.1 z.2.2.2) :: l_) (fun z => (z.1 ≤ order.length) ∧ (replay c es (order.drop z.1) z.2.1 z.2.2.1 = replay c es order (List.replicate es.length false) (newModel c)) ∧ (z.2.2.1.size ≤ 100) ∧ (z.2.1.length = es.length)) (fun z => order.length - z.1) (0, List.replicate es.length false, newModel c, vs19) (hS) (hL_.keepE hF (t := 25) rfl rfl) ?_ ?_
    · exact ⟨Nat.zero_le _, rfl, (newModel_cnt c).2, List.length_replicate⟩
    rintro ⟨k, used, m, vs⟩ a w24 ⟨hk, hr, hsz, hlu⟩ hS hF; try dsimp only at hF; try dsimp only at hS; try dsimp only at hk; try dsimp only at hr; try dsimp only at hsz; try dsimp only at hlu
    refine rg hF rfl fun a hF => wp_seq_k fun K26 hK26 => cx 26 hF rfl (fun c26 hF => ?_) fun c26 hF => ?_
    ·
     have hlt : k < order.length := by omega
     refine wp_skip <| hK26 _ _ <| wp_seq_k fun K27 hK27 => wp_block <| ws fun K28 hK28 => ?_
     obtain ⟨g27, o27, m27, q27, hv27, hm27, hl27, hc27⟩ := Rd.atF (ho) (a := a) (X := .tmp 25) (hF.ev rfl) (by omega) (by omega)
     refine wl hF rfl rfl rfl (r_index sl29 ((hF.ev rfl).trans hv27) (hF.ev rfl) (by omega) (by first | omega | (simp at hm27; omega))) fun a hF => ?_
     refine wl hF rfl rfl rfl (r_load1 sc3 (hF.ev rfl) (cellB hS.old (hc27 0 _ rfl))) fun a hF => ge hK28 hF rfl fun a hF => wp_seq_k fun K29 hK29 => ws fun K30 hK30 => ga 3 hF rfl fun a hF => ckr hF hS rfl (implMayGo_c (hS.rd ha) (hS.own_rd (i := 0) rfl)) fun w25 a hS hF => ge hK30 hF rfl fun a hF => ?_
     refine cx 33 hF rfl (fun c33 hF => ?_) fun c33 hF => ?_
     ·
      refine ws fun K31 hK31 => wl hF rfl rfl rfl (r_build (bd36) trivial) fun a hF => ww 3 hF hS rfl rfl rfl rfl rfl rfl fun w26 hS => ge hK31 hF rfl fun a hF => ?_
      refine xr ?_
      first
        | (have e := ro_none (hr.symm.trans (rp_no1 (by omega) c33))
           refine ret2c rfl ag36 hF hS (i := 3) rfl sz36 rfl rfl ⟨[], ?_, ?_⟩
           · first | (rw [e]; done) | (rw [e]; rfl)
           · rw [e]; exact (Sep.nilpart (hS.pick [] (by decide) rfl) (model_inner0 _)))
     have hgo := c33
     have hin := mayGo_in hgo
     refine wp_skip <| hK29 _ _ <| wp_seq_k fun K32 hK32 => ?_
     refine wp_region_todo (is := [0, 1, 2, 3, 4, 5, 6, 7, 8, 9, 11, 12]) [(10, 12, [.slice none 0 0, .slice none 0 0])] [11, 12] (by kernel_rfl) hF hS ⟨⟨⟨_, _, _, rfl, zr36⟩, trivial⟩, by decide, by decide, by decide⟩ (by kernel_rfl) ?_; intro hl_ wd hSd
     refine todo_load [6, 7, 8, 9, 11, 12] hl_ (by kernel_rfl) rfl (gw0 rfl) rfl rfl rfl (fun a w_ hF hB_ => r_loadn ag25 (hF.ev rfl) ((hSd.ext hB_).box_rd (i := 4) rfl) sz25) <| todo_load [6, 7, 8, 9, 11, 12] hl_ (by kernel_rfl) rfl (gw0 rfl) rfl rfl rfl (fun a w_ hF hB_ => r_loadn ag36 (hF.ev rfl) ((hSd.ext hB_).box_rd (i := 1) rfl) sz36) <| tp 2 hl_ rfl ?_
     obtain ⟨g40, o40, m40, q40, hv40, hm40, hl40, hc40⟩ := Rd.idxF (ha) (at0_get (i := (at0 order (k : Int))) (by omega) (by omega))
     refine todo_pure hl_ (by kernel_rfl) rfl (gw0 rfl) rfl rfl rfl (fun a w_ hF => r_index sl26 ((hF.ev rfl).trans hv40) (hF.ev rfl) (by omega) (by first | omega | (simp at hm40; omega))) ?_
     refine todo_load [6, 7, 8, 9, 11, 12] hl_ (by kernel_rfl) rfl (gw0 rfl) rfl rfl rfl (fun a w_ hF hB_ => r_loadn ag46 (hF.ev rfl) (fun j_ u_ hu_ => cellB (hSd.ext hB_).old (hc40 j_ u_ hu_)) sz46) ?_
     refine todo_mk hl_ rfl (by kernel_rfl) rfl rfl rfl rfl rfl (fun a w_ hF => r_call3 en29 (hF.ev rfl) (hF.ev rfl) (hF.ev rfl)) (fun w_ hS => implExplains_c (hS.part_k (i := 2) rfl) (by omega)) ?_; rintro vs42
     refine tp 3 hl_ rfl ?_
     refine todo_fin hl_ rfl (by kernel_rfl) (tl := [_, _]) rfl ?_; intro a w27 hF hA_
     obtain ⟨g4, hS, he_0⟩ := hA_.open1; clear hA_
     replace hF := hF.more he_0; clear he_0
     clear hl_; try clear hSd
     try dsimp only [List.cons_append, List.nil_append, List.set] at hS
     try clear wd
     refine ww 0 hF hS rfl rfl rfl rfl rfl rfl fun w28 hS => ga 1 hF rfl fun a hF => wl_nil ⟨rfl, ?_⟩
     refine hK32 _ _ <| wp_seq_k fun K33 hK33 => rg hF rfl fun a hF => cx 46 hF rfl (fun c46 hF => ?_) fun c46 hF => ?_
     ·
      refine ws fun K35 hK35 => wl hF rfl rfl rfl (r_build (bd36) trivial) fun a hF => ww 5 hF hS rfl rfl rfl rfl rfl rfl fun w29 hS => ge hK35 hF rfl fun a hF => ?_
      refine xr ?_
      first
        | (have e := ro_none (hr.symm.trans (rp_no2 (by omega) c46))
           refine ret2c rfl ag36 hF hS (i := 5) rfl sz36 rfl rfl ⟨[], ?_, ?_⟩
           · first | (rw [e]; done) | (rw [e]; rfl)
           · rw [e]; exact (Sep.nilpart (hS.pick [] (by decide) rfl) (model_inner0 _)))
     have hex := c46
     refine wp_skip <| hK33 _ _ <| wp_region_lit <| gB 3 0 hF hS rfl rfl rfl fun a hF => ww 3 hF hS rfl rfl rfl rfl rfl rfl fun w30 hS => ?_
     obtain ⟨g51, o51, m51, q51, hv51, hm51, hl51, hc51⟩ := Rd.atF ((hS.own_rd (i := 2) rfl)) (a := a) (X := .tmp 49) (hF.ev rfl) (by omega) (by omega)
     refine wl hF rfl rfl rfl (r_index sl50 ((hF.ev rfl).trans hv51) (hF.ev rfl) (by omega) (by first | omega | (simp at hm51; omega))) fun a hF => ?_
     refine wl_tstore (q := 2) hF hS rfl hv51 (by omega) (by omega) sz4 (hF.ev rfl) rfl ec fun w31 hS => ?_; dsimp only [List.set] at hS
     refine wl_nil ?_
     refine xt ?_
     refine hK27 _ _ <| rl hF rfl fun a hF => ?_
     refine xt ?_
     refine ⟨(k + 1, used.set (at0 order (k : Int)).toNat true, (explains c m (at0 es (at0 order (k : Int)))).1, vs42), ⟨by dsimp only; omega, (rp_next (by omega) hgo hex).symm.trans hr, explains_small hex, by simp only [List.length_set]; exact hlu⟩, (hS.pick [2, 3, 1, 5, 6] (by decide) rfl), (((((((((hF.nil.keep hF (t := 24) rfl).keep hF (t := 23) rfl).keep hF (t := 9) rfl).keep hF (t := 8) rfl).keep hF (t := 7) rfl).keep hF (t := 6) rfl).keep hF (t := 3) rfl).keep hF (t := 1) rfl).keepE hF (t := 25) rfl (wk (by omega))), by dsimp only; omega⟩
    refine wp_exit ?_
    refine xt ?_
    refine hK23 _ _ <| wp_seq_k fun K36 hK36 => ws fun K37 hK37 => ga 2 hF rfl fun a hF => ckr hF hS rfl (complete_c (hS.rd ha) (hS.own_rd (i := 0) rfl) (by omega)) fun w32 a hS hF => ge hK37 hF rfl fun a hF => cx 56 hF rfl (fun c56 hF => ?_) fun c56 hF => ?_
    ·
     refine ws fun K38 hK38 => wl hF rfl rfl rfl (r_build (bd36) trivial) fun a hF => ww 3 hF hS rfl rfl rfl rfl rfl rfl fun w33 hS => ge hK38 hF rfl fun a hF => ?_
     refine xr ?_
     first
       | (have e := ro_not (show replay c es order (List.replicate es.length false) (newModel c) = some (used, m) from by rw [← hr, List.drop_of_length_le (by omega)]; rfl) (.inr c56)
          refine ret2c rfl ag36 hF hS (i := 3) rfl sz36 rfl rfl ⟨[], ?_, ?_⟩
          · first | (rw [e]; done) | (rw [e]; rfl)
          · rw [e]; exact (Sep.nilpart (hS.pick [] (by decide) rfl) (model_inner0 _)))
    refine wp_skip <| hK36 _ _ <| ws fun K39 hK39 => gB 1 1 hF hS rfl rfl rfl fun a hF => ww 3 hF hS rfl rfl rfl rfl rfl rfl fun w34 hS => ge hK39 hF rfl fun a hF => ?_
    refine xr ?_
    have e := ro_done (show replay c es order (List.replicate es.length false) (newModel c) = some (used, m) from by rw [← hr, List.drop_of_length_le (by omega)]; rfl) c16 c56
    refine ret2c rfl ag36 hF hS (i := 3) rfl sz36 rfl rfl ⟨vs, ?_, ?_⟩
    · first | (rw [e]; done) | (rw [e]; rfl)
    · rw [e]; exact hS.pick [2] (by decide) rfl
   ·
    refine op_st (j := 0) (m' := [7]) rfl rfl (by kernel_rfl) rfl (fun a hF => (hF.ev rfl)) (fun a hF => (hF.ev rfl)) sz36 rfl rfl ?_; try clear hSd; try clear wd; intro wd hSd; try dsimp only [List.set] at hSd
    refine todo_op hl_ rfl (by kernel_rfl) rfl rfl rfl rfl rfl (fun a w_ hF hS => r_make0 boolEK false [] mk50 rfl (fun _ => Sat.nil _ _) (hF.ev rfl) (by omega) (by unfold maxLen; omega)) ?_; intro gm_22
    refine todo_fin hl_ rfl (by kernel_rfl) (tl := [_]) rfl ?_; intro a w36 hF hA_
    have hS := hA_.sep; clear hA_
    clear hl_; try clear hSd
    try dsimp only [List.cons_append, List.nil_append, List.set] at hS
    try clear wd
    refine ga 1 hF rfl fun a hF => wl_nil ⟨rfl, ?_⟩
    refine hK5 _ _ <| wp_seq_k fun K40 hK40 => rg hF rfl fun a hF => wp_block ?_
    replace hS := hS.pull (p := 2) rfl; dsimp only [List.eraseIdx] at hS
    replace hS := hS.pull (p := 2) rfl; dsimp only [List.eraseIdx] at hS
    replace hS := hS.pull (p := 2) rfl; dsimp only [List.eraseIdx] at hS
    have hL_ := ((((((((hF.nil.keep hF (t := 24) rfl).keep hF (t := 23) rfl).keep hF (t := 9) rfl).keep hF (t := 8) rfl).keep hF (t := 7) rfl).keep hF (t := 6) rfl).keep hF (t := 3) rfl).keep hF (t := 1) rfl)
    refine wp_loop_m (σ := Nat × List Bool × Model × List Slv) (fun z L_ => (25, vi z.1) :: L_) (fun z l_ => (Own boolEK (.slice (some ⟨gm_22, 0, none⟩) es.length es.length) z.2.1) :: (Box g3 [sv (z.2.2.2.getD 0 (none, 0, 0)), sv (z.2.2.2.getD 1 (none, 0, 0))]) :: (Part modelEK z.2.2.1 z.2.2.2) :: l_) (fun z => (z.1 ≤ order.length) ∧ (replay c es (order.drop z.1) z.2.1 z.2.2.1 = replay c es order (List.replicate es.length false) (newModel c)) ∧ (z.2.2.1.size ≤ 100) ∧ (z.2.1.length = es.length)) (fun z => order.length - z.1) (0, List.replicate es.length false, newModel c, vs19) (hS) (hL_.keepE hF (t := 25) rfl rfl) ?_ ?_
    · exact ⟨Nat.zero_le _, rfl, (newModel_cnt c).2, List.length_replicate⟩
    rintro ⟨k, used, m, vs⟩ a w37 ⟨hk, hr, hsz, hlu⟩ hS hF; try dsimp only at hF; try dsimp only at hS; try dsimp only at hk; try dsimp only at hr; try dsimp only at hsz; try dsimp only at hlu
    refine rg hF rfl fun a hF => wp_seq_k fun K43 hK43 => cx 26 hF rfl (fun c26 hF => ?_) fun c26 hF => ?_
    ·
     have hlt : k < order.length := by omega
     refine wp_skip <| hK43 _ _ <| wp_seq_k fun K44 hK44 => wp_block <| ws fun K45 hK45 => ?_
     obtain ⟨g27, o27, m27, q27, hv27, hm27, hl27, hc27⟩ := Rd.atF (ho) (a := a) (X := .tmp 25) (hF.ev rfl) (by omega) (by omega)
     refine wl hF rfl rfl rfl (r_index sl29 ((hF.ev rfl).trans hv27) (hF.ev rfl) (by omega) (by first | omega | (simp at hm27; omega))) fun a hF => ?_
     refine wl hF rfl rfl rfl (r_load1 sc3 (hF.ev rfl) (cellB hS.old (hc27 0 _ rfl))) fun a hF => ge hK45 hF rfl fun a hF => wp_seq_k fun K46 hK46 => ws fun K47 hK47 => ga 3 hF rfl fun a hF => ckr hF hS rfl (implMayGo_c (hS.rd ha) (hS.own_rd (i := 0) rfl)) fun w38 a hS hF => ge hK47 hF rfl fun a hF => ?_
     refine cx 33 hF rfl (fun c33 hF => ?_) fun c33 hF => ?_
     ·
      refine ws fun K48 hK48 => wl hF rfl rfl rfl (r_build (bd36) trivial) fun a hF => ww 3 hF hS rfl rfl rfl rfl rfl rfl fun w39 hS => ge hK48 hF rfl fun a hF => ?_
      refine xr ?_
      first
        | (have e := ro_none (hr.symm.trans (rp_no1 (by omega) c33))
           refine ret2c rfl ag36 hF hS (i := 3) rfl sz36 rfl rfl ⟨[], ?_, ?_⟩
           · first | (rw [e]; done) | (rw [e]; rfl)
           · rw [e]; exact (Sep.nilpart (hS.pick [] (by decide) rfl) (model_inner0 _)))
     have hgo := c33
     have hin := mayGo_in hgo
     refine wp_skip <| hK46 _ _ <| wp_seq_k fun K49 hK49 => ?_
     refine wp_region_todo (is := [0, 1, 2, 3, 4, 5, 6, 7, 8, 9, 11, 12]) [(10, 12, [.slice none 0 0, .slice none 0 0])] [11, 12] (by kernel_rfl) hF hS ⟨⟨⟨_, _, _, rfl, zr36⟩, trivial⟩, by decide, by decide, by decide⟩ (by kernel_rfl) ?_; intro hl_ wd hSd
     refine todo_load [6, 7, 8, 9, 11, 12] hl_ (by kernel_rfl) rfl (gw0 rfl) rfl rfl rfl (fun a w_ hF hB_ => r_loadn ag25 (hF.ev rfl) ((hSd.ext hB_).box_rd (i := 4) rfl) sz25) <| todo_load [6, 7, 8, 9, 11, 12] hl_ (by kernel_rfl) rfl (gw0 rfl) rfl rfl rfl (fun a w_ hF hB_ => r_loadn ag36 (hF.ev rfl) ((hSd.ext hB_).box_rd (i := 1) rfl) sz36) <| tp 2 hl_ rfl ?_
     obtain ⟨g40, o40, m40, q40, hv40, hm40, hl40, hc40⟩ := Rd.idxF (ha) (at0_get (i := (at0 order (k : Int))) (by omega) (by omega))
     refine todo_pure hl_ (by kernel_rfl) rfl (gw0 rfl) rfl rfl rfl (fun a w_ hF => r_index sl26 ((hF.ev rfl).trans hv40) (hF.ev rfl) (by omega) (by first | omega | (simp at hm40; omega))) ?_
     refine todo_load [6, 7, 8, 9, 11, 12] hl_ (by kernel_rfl) rfl (gw0 rfl) rfl rfl rfl (fun a w_ hF hB_ => r_loadn ag46 (hF.ev rfl) (fun j_ u_ hu_ => cellB (hSd.ext hB_).old (hc40 j_ u_ hu_)) sz46) ?_
     refine todo_mk hl_ rfl (by kernel_rfl) rfl rfl rfl rfl rfl (fun a w_ hF => r_call3 en29 (hF.ev rfl) (hF.ev rfl) (hF.ev rfl)) (fun w_ hS => implExplains_c (hS.part_k (i := 2) rfl) (by omega)) ?_; rintro vs42
     refine tp 3 hl_ rfl ?_
     refine todo_fin hl_ rfl (by kernel_rfl) (tl := [_, _]) rfl ?_; intro a w40 hF hA_
     obtain ⟨g4, hS, he_0⟩ := hA_.open1; clear hA_
     replace hF := hF.more he_0; clear he_0
     clear hl_; try clear hSd
     try dsimp only [List.cons_append, List.nil_append, List.set] at hS
     try clear wd
     refine ww 0 hF hS rfl rfl rfl rfl rfl rfl fun w41 hS => ga 1 hF rfl fun a hF => wl_nil ⟨rfl, ?_⟩
     refine hK49 _ _ <| wp_seq_k fun K50 hK50 => rg hF rfl fun a hF => cx 46 hF rfl (fun c46 hF => ?_) fun c46 hF => ?_
     ·
      refine ws fun K52 hK52 => wl hF rfl rfl rfl (r_build (bd36) trivial) fun a hF => ww 5 hF hS rfl rfl rfl rfl rfl rfl fun w42 hS => ge hK52 hF rfl fun a hF => ?_
      refine xr ?_
      first
        | (have e := ro_none (hr.symm.trans (rp_no2 (by omega) c46))
           refine ret2c rfl ag36 hF hS (i := 5) rfl sz36 rfl rfl ⟨[], ?_, ?_⟩
           · first | (rw [e]; done) | (rw [e]; rfl)
           · rw [e]; exact (Sep.nilpart (hS.pick [] (by decide) rfl) (model_inner0 _)))
     have hex := c46
     refine wp_skip <| hK50 _ _ <| wp_region_lit <| gB 3 0 hF hS rfl rfl rfl fun a hF => ww 3 hF hS rfl rfl rfl rfl rfl rfl fun w43 hS => ?_
     obtain ⟨g51, o51, m51, q51, hv51, hm51, hl51, hc51⟩ := Rd.atF ((hS.own_rd (i := 2) rfl)) (a := a) (X := .tmp 49) (hF.ev rfl) (by omega) (by omega)
     refine wl hF rfl rfl rfl (r_index sl50 ((hF.ev rfl).trans hv51) (hF.ev rfl) (by omega) (by first | omega | (simp at hm51; omega))) fun a hF => ?_
     refine wl_tstore (q := 2) hF hS rfl hv51 (by omega) (by omega) sz4 (hF.ev rfl) rfl ec fun w44 hS => ?_; dsimp only [List.set] at hS
     refine wl_nil ?_
     refine xt ?_
     refine hK44 _ _ <| rl hF rfl fun a hF => ?_
     refine xt ?_
     refine ⟨(k + 1, used.set (at0 order (k : Int)).toNat true, (explains c m (at0 es (at0 order (k : Int)))).1, vs42), ⟨by dsimp only; omega, (rp_next (by omega) hgo hex).symm.trans hr, explains_small hex, by simp only [List.length_set]; exact hlu⟩, (hS.pick [2, 3, 1, 5, 6] (by decide) rfl), (((((((((hF.nil.keep hF (t := 24) rfl).keep hF (t := 23) rfl).keep hF (t := 9) rfl).keep hF (t := 8) rfl).keep hF (t := 7) rfl).keep hF (t := 6) rfl).keep hF (t := 3) rfl).keep hF (t := 1) rfl).keepE hF (t := 25) rfl (wk (by omega))), by dsimp only; omega⟩
    refine wp_exit ?_
    refine xt ?_
    refine hK40 _ _ <| wp_seq_k fun K53 hK53 => ws fun K54 hK54 => ga 2 hF rfl fun a hF => ckr hF hS rfl (complete_c (hS.rd ha) (hS.own_rd (i := 0) rfl) (by omega)) fun w45 a hS hF => ge hK54 hF rfl fun a hF => cx 56 hF rfl (fun c56 hF => ?_) fun c56 hF => ?_
    ·
     refine ws fun K55 hK55 => wl hF rfl rfl rfl (r_build (bd36) trivial) fun a hF => ww 3 hF hS rfl rfl rfl rfl rfl rfl fun w46 hS => ge hK55 hF rfl fun a hF => ?_
     refine xr ?_
     first
       | (have e := ro_not (show replay c es order (List.replicate es.length false) (newModel c) = some (used, m) from by rw [← hr, List.drop_of_length_le (by omega)]; rfl) (.inr c56)
          refine ret2c rfl ag36 hF hS (i := 3) rfl sz36 rfl rfl ⟨[], ?_, ?_⟩
          · first | (rw [e]; done) | (rw [e]; rfl)
          · rw [e]; exact (Sep.nilpart (hS.pick [] (by decide) rfl) (model_inner0 _)))
    refine wp_skip <| hK53 _ _ <| ws fun K56 hK56 => gB 1 1 hF hS rfl rfl rfl fun a hF => ww 3 hF hS rfl rfl rfl rfl rfl rfl fun w47 hS => ge hK56 hF rfl fun a hF => ?_
    refine xr ?_
    have e := ro_done (show replay c es order (List.replicate es.length false) (newModel c) = some (used, m) from by rw [← hr, List.drop_of_length_le (by omega)]; rfl) c16 c56
    refine ret2c rfl ag36 hF hS (i := 3) rfl sz36 rfl rfl ⟨vs, ?_, ?_⟩
    · first | (rw [e]; done) | (rw [e]; rfl)
    · rw [e]; exact hS.pick [2] (by decide) rfl
 ·
  refine op_op rfl rfl (gw0 rfl) rfl rfl rfl (fun a w_ hF hS => r_make0 boolEK false [] mk50 rfl (fun _ => Sat.nil _ _) (hF.ev rfl) (by omega) (by unfold maxLen; omega)) ?_; intro gm_22
  refine todo_fork [(1, [5, 6, 7]), (5, [1, 6, 7])] hl_ rfl (by kernel_rfl) (List.forall_mem_cons.2 ⟨?_, List.forall_mem_cons.2 ⟨?_, fun _ h_ => nomatch h_⟩⟩)
  ·
   refine op_mk rfl rfl (gw0 rfl) rfl rfl rfl (fun a w_ hF => r_call1 en25 (hF.ev rfl)) (fun w_ hS => implNewModel_c _) ?_; rintro vs19
   refine todo_op hl_ rfl (by kernel_rfl) rfl rfl rfl rfl rfl (fun a w_ hF hS => r_alloc0 zr36) ?_; intro g3
   refine todo_fin hl_ rfl (by kernel_rfl) (tl := [_, _]) rfl ?_; intro a w50 hF hA_
   have hS := hA_.sep; clear hA_
   clear hl_; try clear hSd
   try dsimp only [List.cons_append, List.nil_append, List.set] at hS
   try clear wd
   refine ww 0 hF hS rfl rfl rfl rfl rfl rfl fun w51 hS => ga 1 hF rfl fun a hF => wl_nil ⟨rfl, ?_⟩
   refine hK5 _ _ <| wp_seq_k fun K57 hK57 => rg hF rfl fun a hF => wp_block ?_
   replace hS := hS.pull (p := 1) rfl; dsimp only [List.eraseIdx] at hS
   replace hS := hS.pull (p := 1) rfl; dsimp only [List.eraseIdx] at hS
   replace hS := hS.pull (p := 2) rfl; dsimp only [List.eraseIdx] at hS
   have hL_ := ((((((((hF.nil.keep hF (t := 24) rfl).keep hF (t := 23) rfl).keep hF (t := 9) rfl).keep hF (t := 8) rfl).keep hF (t := 7) rfl).keep hF (t := 6) rfl).keep hF (t := 3) rfl).keep hF (t := 1) rfl)
   refine wp_loop_m (σ := Nat × List Bool × Model × List Slv) (fun z L_ => (25, vi z.1) :: L_) (fun z l_ => (Own boolEK (.slice (some ⟨gm_22, 0, none⟩) es.length es.length) z.2.1) :: (Box g3 [sv (z.2.2.2.getD 0 (none, 0, 0)), sv (z.2.2.2.getD 1 (none, 0, 0))]) :: (Part modelEK z.2.2.1 z.2.2.2) :: l_) (fun z => (z.1 ≤ order.length) ∧ (replay c es (order.drop z.1) z.2.1 z.2.2.1 = replay c es order (List.replicate es.length false) (newModel c)) ∧ (z.2.2.1.size ≤ 100) ∧ (z.2.1.length = es.length)) (fun z => order.length - z.1) (0, List.replicate es.length false, newModel c, vs19) (hS) (hL_.keepE hF (t := 25) rfl rfl) ?_ ?_
   · exact ⟨Nat.zero_le _, rfl, (newModel_cnt c).2, List.length_replicate⟩
   rintro ⟨k, used, m, vs⟩ a w52 ⟨hk, hr, hsz, hlu⟩ hS hF; try dsimp only at hF; try dsimp only at hS; try dsimp only at hk; try dsimp only at hr; try dsimp only at hsz; try dsimp only at hlu
   refine rg hF rfl fun a hF => wp_seq_k fun K60 hK60 => cx 26 hF rfl (fun c26 hF => ?_) fun c26 hF => ?_
   ·
    have hlt : k < order.length := by omega
    refine wp_skip <| hK60 _ _ <| wp_seq_k fun K61 hK61 => wp_block <| ws fun K62 hK62 => ?_
    obtain ⟨g27, o27, m27, q27, hv27, hm27, hl27, hc27⟩ := Rd.atF (ho) (a := a) (X := .tmp 25) (hF.ev rfl) (by omega) (by omega)
    refine wl hF rfl rfl rfl (r_index sl29 ((hF.ev rfl).trans hv27) (hF.ev rfl) (by omega) (by first | omega | (simp at hm27; omega))) fun a hF => ?_
    refine wl hF rfl rfl rfl (r_load1 sc3 (hF.ev rfl) (cellB hS.old (hc27 0 _ rfl))) fun a hF => ge hK62 hF rfl fun a hF => wp_seq_k fun K63 hK63 => ws fun K64 hK64 => ga 3 hF rfl fun a hF => ckr hF hS rfl (implMayGo_c (hS.rd ha) (hS.own_rd (i := 0) rfl)) fun w53 a hS hF => ge hK64 hF rfl fun a hF => ?_
    refine cx 33 hF rfl (fun c33 hF => ?_) fun c33 hF => ?_
    ·
     refine ws fun K65 hK65 => wl hF rfl rfl rfl (r_build (bd36) trivial) fun a hF => ww 3 hF hS rfl rfl rfl rfl rfl rfl fun w54 hS => ge hK65 hF rfl fun a hF => ?_
     refine xr ?_
     first
       | (have e := ro_none (hr.symm.trans (rp_no1 (by omega) c33))
          refine ret2c rfl ag36 hF hS (i := 3) rfl sz36 rfl rfl ⟨[], ?_, ?_⟩
          · first | (rw [e]; done) | (rw [e]; rfl)
          · rw [e]; exact (Sep.nilpart (hS.pick [] (by decide) rfl) (model_inner0 _)))
    have hgo := c33
    have hin := mayGo_in hgo
    refine wp_skip <| hK63 _ _ <| wp_seq_k fun K66 hK66 => ?_
    refine wp_region_todo (is := [0, 1, 2, 3, 4, 5, 6, 7, 8, 9, 11, 12]) [(10, 12, [.slice none 0 0, .slice none 0 0])] [11, 12] (by kernel_rfl) hF hS ⟨⟨⟨_, _, _, rfl, zr36⟩, trivial⟩, by decide, by decide, by decide⟩ (by kernel_rfl) ?_; intro hl_ wd hSd
    refine todo_load [6, 7, 8, 9, 11, 12] hl_ (by kernel_rfl) rfl (gw0 rfl) rfl rfl rfl (fun a w_ hF hB_ => r_loadn ag25 (hF.ev rfl) ((hSd.ext hB_).box_rd (i := 4) rfl) sz25) <| todo_load [6, 7, 8, 9, 11, 12] hl_ (by kernel_rfl) rfl (gw0 rfl) rfl rfl rfl (fun a w_ hF hB_ => r_loadn ag36 (hF.ev rfl) ((hSd.ext hB_).box_rd (i := 1) rfl) sz36) <| tp 2 hl_ rfl ?_
    obtain ⟨g40, o40, m40, q40, hv40, hm40, hl40, hc40⟩ := Rd.idxF (ha) (at0_get (i := (at0 order (k : Int))) (by omega) (by omega))
    refine todo_pure hl_ (by kernel_rfl) rfl (gw0 rfl) rfl rfl rfl (fun a w_ hF => r_index sl26 ((hF.ev rfl).trans hv40) (hF.ev rfl) (by omega) (by first | omega | (simp at hm40; omega))) ?_
    refine todo_load [6, 7, 8, 9, 11, 12] hl_ (by kernel_rfl) rfl (gw0 rfl) rfl rfl rfl (fun a w_ hF hB_ => r_loadn ag46 (hF.ev rfl) (fun j_ u_ hu_ => cellB (hSd.ext hB_).old (hc40 j_ u_ hu_)) sz46) ?_
    refine todo_mk hl_ rfl (by kernel_rfl) rfl rfl rfl rfl rfl (fun a w_ hF => r_call3 en29 (hF.ev rfl) (hF.ev rfl) (hF.ev rfl)) (fun w_ hS => implExplains_c (hS.part_k (i := 2) rfl) (by omega)) ?_; rintro vs42
    refine tp 3 hl_ rfl ?_
    refine todo_fin hl_ rfl (by kernel_rfl) (tl := [_, _]) rfl ?_; intro a w55 hF hA_
    obtain ⟨g4, hS, he_0⟩ := hA_.open1; clear hA_
    replace hF := hF.more he_0; clear he_0
    clear hl_; try clear hSd
    try dsimp only [List.cons_append, List.nil_append, List.set] at hS
    try clear wd
    refine ww 0 hF hS rfl rfl rfl rfl rfl rfl fun w56 hS => ga 1 hF rfl fun a hF => wl_nil ⟨rfl, ?_⟩
    refine hK66 _ _ <| wp_seq_k fun K67 hK67 => rg hF rfl fun a hF => cx 46 hF rfl (fun c46 hF => ?_) fun c46 hF => ?_
    ·
     refine ws fun K69 hK69 => wl hF rfl rfl rfl (r_build (bd36) trivial) fun a hF => ww 5 hF hS rfl rfl rfl rfl rfl rfl fun w57 hS => ge hK69 hF rfl fun a hF => ?_
     refine xr ?_
     first
       | (have e := ro_none (hr.symm.trans (rp_no2 (by omega) c46))
          refine ret2c rfl ag36 hF hS (i := 5) rfl sz36 rfl rfl ⟨[], ?_, ?_⟩
          · first | (rw [e]; done) | (rw [e]; rfl)
          · rw [e]; exact (Sep.nilpart (hS.pick [] (by decide) rfl) (model_inner0 _)))
    have hex := c46
    refine wp_skip <| hK67 _ _ <| wp_region_lit <| gB 3 0 hF hS rfl rfl rfl fun a hF => ww 3 hF hS rfl rfl rfl rfl rfl rfl fun w58 hS => ?_
    obtain ⟨g51, o51, m51, q51, hv51, hm51, hl51, hc51⟩ := Rd.atF ((hS.own_rd (i := 2) rfl)) (a := a) (X := .tmp 49) (hF.ev rfl) (by omega) (by omega)
    refine wl hF rfl rfl rfl (r_index sl50 ((hF.ev rfl).trans hv51) (hF.ev rfl) (by omega) (by first | omega | (simp at hm51; omega))) fun a hF => ?_
    refine wl_tstore (q := 2) hF hS rfl hv51 (by omega) (by omega) sz4 (hF.ev rfl) rfl ec fun w59 hS => ?_; dsimp only [List.set] at hS
    refine wl_nil ?_
    refine xt ?_
    refine hK61 _ _ <| rl hF rfl fun a hF => ?_
    refine xt ?_
    refine ⟨(k + 1, used.set (at0 order (k : Int)).toNat true, (explains c m (at0 es (at0 order (k : Int)))).1, vs42), ⟨by dsimp only; omega, (rp_next (by omega) hgo hex).symm.trans hr, explains_small hex, by simp only [List.length_set]; exact hlu⟩, (hS.pick [2, 3, 1, 5, 6] (by decide) rfl), (((((((((hF.nil.keep hF (t := 24) rfl).keep hF (t := 23) rfl).keep hF (t := 9) rfl).keep hF (t := 8) rfl).keep hF (t := 7) rfl).keep hF (t := 6) rfl).keep hF (t := 3) rfl).keep hF (t := 1) rfl).keepE hF (t := 25) rfl (wk (by omega))), by dsimp only; omega⟩
   refine wp_exit ?_
   refine xt ?_
   refine hK57 _ _ <| wp_seq_k fun K70 hK70 => ws fun K71 hK71 => ga 2 hF rfl fun a hF => ckr hF hS rfl (complete_c (hS.rd ha) (hS.own_rd (i := 0) rfl) (by omega)) fun w60 a hS hF => ge hK71 hF rfl fun a hF => cx 56 hF rfl (fun c56 hF => ?_) fun c56 hF => ?_
   ·
    refine ws fun K72 hK72 => wl hF rfl rfl rfl (r_build (bd36) trivial) fun a hF => ww 3 hF hS rfl rfl rfl rfl rfl rfl fun w61 hS => ge hK72 hF rfl fun a hF => ?_
    refine xr ?_
    first
      | (have e := ro_not (show replay c es order (List.replicate es.length false) (newModel c) = some (used, m) from by rw [← hr, List.drop_of_length_le (by omega)]; rfl) (.inr c56)
         refine ret2c rfl ag36 hF hS (i := 3) rfl sz36 rfl rfl ⟨[], ?_, ?_⟩
         · first | (rw [e]; done) | (rw [e]; rfl)
         · rw [e]; exact (Sep.nilpart (hS.pick [] (by decide) rfl) (model_inner0 _)))
   refine wp_skip <| hK70 _ _ <| ws fun K73 hK73 => gB 1 1 hF hS rfl rfl rfl fun a hF => ww 3 hF hS rfl rfl rfl rfl rfl rfl fun w62 hS => ge hK73 hF rfl fun a hF => ?_
   refine xr ?_
   have e := ro_done (show replay c es order (List.replicate es.length false) (newModel c) = some (used, m) from by rw [← hr, List.drop_of_length_le (by omega)]; rfl) c16 c56
   refine ret2c rfl ag36 hF hS (i := 3) rfl sz36 rfl rfl ⟨vs, ?_, ?_⟩
   · first | (rw [e]; done) | (rw [e]; rfl)
   · rw [e]; exact hS.pick [2] (by decide) rfl
  ·
   refine op_op rfl rfl (gw0 rfl) rfl rfl rfl (fun a w_ hF hS => r_alloc0 zr36) ?_; intro g3
   refine todo_mk hl_ rfl (by kernel_rfl) rfl rfl rfl rfl rfl (fun a w_ hF => r_call1 en25 (hF.ev rfl)) (fun w_ hS => implNewModel_c _) ?_; rintro vs19
   refine todo_fin hl_ rfl (by kernel_rfl) (tl := [_, _]) rfl ?_; intro a w64 hF hA_
   have hS := hA_.sep; clear hA_
   clear hl_; try clear hSd
   try dsimp only [List.cons_append, List.nil_append, List.set] at hS
   try clear wd
   refine ww 1 hF hS rfl rfl rfl rfl rfl rfl fun w65 hS => ga 1 hF rfl fun a hF => wl_nil ⟨rfl, ?_⟩
   refine hK5 _ _ <| wp_seq_k fun K74 hK74 => rg hF rfl fun a hF => wp_block ?_
   replace hS := hS.pull (p := 0) rfl; dsimp only [List.eraseIdx] at hS
   replace hS := hS.pull (p := 1) rfl; dsimp only [List.eraseIdx] at hS
   replace hS := hS.pull (p := 2) rfl; dsimp only [List.eraseIdx] at hS
   have hL_ := ((((((((hF.nil.keep hF (t := 24) rfl).keep hF (t := 23) rfl).keep hF (t := 9) rfl).keep hF (t := 8) rfl).keep hF (t := 7) rfl).keep hF (t := 6) rfl).keep hF (t := 3) rfl).keep hF (t := 1) rfl)
   refine wp_loop_m (σ := Nat × List Bool × Model × List Slv) (fun z L_ => (25, vi z.1) :: L_) (fun z l_ => (Own boolEK (.slice (some ⟨gm_22, 0, none⟩) es.length es.length) z.2.1) :: (Box g3 [sv (z.2.2.2.getD 0 (none, 0, 0)), sv (z.2.2.2.getD 1 (none, 0, 0))]) :: (Part modelEK z.2.2.1 z.2.2.2) :: l_) (fun z => (z.1 ≤ order.length) ∧ (replay c es (order.drop z.1) z.2.1 z.2.2.1 = replay c es order (List.replicate es.length false) (newModel c)) ∧ (z.2.2.1.size ≤ 100) ∧ (z.2.1.length = es.length)) (fun z => order.length - z.1) (0, List.replicate es.length false, newModel c, vs19) (hS) (hL_.keepE hF (t := 25) rfl rfl) ?_ ?_
   · exact ⟨Nat.zero_le _, rfl, (newModel_cnt c).2, List.length_replicate⟩
   rintro ⟨k, used, m, vs⟩ a w66 ⟨hk, hr, hsz, hlu⟩ hS hF; try dsimp only at hF; try dsimp only at hS; try dsimp only at hk; try dsimp only at hr; try dsimp only at hsz; try dsimp only at hlu
   refine rg hF rfl fun a hF => wp_seq_k fun K77 hK77 => cx 26 hF rfl (fun c26 hF => ?_) fun c26 hF => ?_
   ·
    have hlt : k < order.length := by omega
    refine wp_skip <| hK77 _ _ <| wp_seq_k fun K78 hK78 => wp_block <| ws fun K79 hK79 => ?_
    obtain ⟨g27, o27, m27, q27, hv27, hm27, hl27, hc27⟩ := Rd.atF (ho) (a := a) (X := .tmp 25) (hF.ev rfl) (by omega) (by omega)
    refine wl hF rfl rfl rfl (r_index sl29 ((hF.ev rfl).trans hv27) (hF.ev rfl) (by omega) (by first | omega | (simp at hm27; omega))) fun a hF => ?_
    refine wl hF rfl rfl rfl (r_load1 sc3 (hF.ev rfl) (cellB hS.old (hc27 0 _ rfl))) fun a hF => ge hK79 hF rfl fun a hF => wp_seq_k fun K80 hK80 => ws fun K81 hK81 => ga 3 hF rfl fun a hF => ckr hF hS rfl (implMayGo_c (hS.rd ha) (hS.own_rd (i := 0) rfl)) fun w67 a hS hF => ge hK81 hF rfl fun a hF => ?_
    refine cx 33 hF rfl (fun c33 hF => ?_) fun c33 hF => ?_
    ·
     refine ws fun K82 hK82 => wl hF rfl rfl rfl (r_build (bd36) trivial) fun a hF => ww 3 hF hS rfl rfl rfl rfl rfl rfl fun w68 hS => ge hK82 hF rfl fun a hF => ?_
     refine xr ?_
     first
       | (have e := ro_none (hr.symm.trans (rp_no1 (by omega) c33))
          refine ret2c rfl ag36 hF hS (i := 3) rfl sz36 rfl rfl ⟨[], ?_, ?_⟩
          · first | (rw [e]; done) | (rw [e]; rfl)
          · rw [e]; exact (Sep.nilpart (hS.pick [] (by decide) rfl) (model_inner0 _)))
    have hgo := c33
    have hin := mayGo_in hgo
    refine wp_skip <| hK80 _ _ <| wp_seq_k fun K83 hK83 => ?_
    refine wp_region_todo (is := [0, 1, 2, 3, 4, 5, 6, 7, 8, 9, 11, 12]) [(10, 12, [.slice none 0 0, .slice none 0 0])] [11, 12] (by kernel_rfl) hF hS ⟨⟨⟨_, _, _, rfl, zr36⟩, trivial⟩, by decide, by decide, by decide⟩ (by kernel_rfl) ?_; intro hl_ wd hSd
    refine todo_load [6, 7, 8, 9, 11, 12] hl_ (by kernel_rfl) rfl (gw0 rfl) rfl rfl rfl (fun a w_ hF hB_ => r_loadn ag25 (hF.ev rfl) ((hSd.ext hB_).box_rd (i := 4) rfl) sz25) <| todo_load [6, 7, 8, 9, 11, 12] hl_ (by kernel_rfl) rfl (gw0 rfl) rfl rfl rfl (fun a w_ hF hB_ => r_loadn ag36 (hF.ev rfl) ((hSd.ext hB_).box_rd (i := 1) rfl) sz36) <| tp 2 hl_ rfl ?_
    obtain ⟨g40, o40, m40, q40, hv40, hm40, hl40, hc40⟩ := Rd.idxF (ha) (at0_get (i := (at0 order (k : Int))) (by omega) (by omega))
    refine todo_pure hl_ (by kernel_rfl) rfl (gw0 rfl) rfl rfl rfl (fun a w_ hF => r_index sl26 ((hF.ev rfl).trans hv40) (hF.ev rfl) (by omega) (by first | omega | (simp at hm40; omega))) ?_
    refine todo_load [6, 7, 8, 9, 11, 12] hl_ (by kernel_rfl) rfl (gw0 rfl) rfl rfl rfl (fun a w_ hF hB_ => r_loadn ag46 (hF.ev rfl) (fun j_ u_ hu_ => cellB (hSd.ext hB_).old (hc40 j_ u_ hu_)) sz46) ?_
    refine todo_mk hl_ rfl (by kernel_rfl) rfl rfl rfl rfl rfl (fun a w_ hF => r_call3 en29 (hF.ev rfl) (hF.ev rfl) (hF.ev rfl)) (fun w_ hS => implExplains_c (hS.part_k (i := 2) rfl) (by omega)) ?_; rintro vs42
    refine tp 3 hl_ rfl ?_
    refine todo_fin hl_ rfl (by kernel_rfl) (tl := [_, _]) rfl ?_; intro a w69 hF hA_
    obtain ⟨g4, hS, he_0⟩ := hA_.open1; clear hA_
    replace hF := hF.more he_0; clear he_0
    clear hl_; try clear hSd
    try dsimp only [List.cons_append, List.nil_append, List.set] at hS
    try clear wd
    refine ww 0 hF hS rfl rfl rfl rfl rfl rfl fun w70 hS => ga 1 hF rfl fun a hF => wl_nil ⟨rfl, ?_⟩
    refine hK83 _ _ <| wp_seq_k fun K84 hK84 => rg hF rfl fun a hF => cx 46 hF rfl (fun c46 hF => ?_) fun c46 hF => ?_
    ·
     refine ws fun K86 hK86 => wl hF rfl rfl rfl (r_build (bd36) trivial) fun a hF => ww 5 hF hS rfl rfl rfl rfl rfl rfl fun w71 hS => ge hK86 hF rfl fun a hF => ?_
     refine xr ?_
     first
       | (have e := ro_none (hr.symm.trans (rp_no2 (by omega) c46))
          refine ret2c rfl ag36 hF hS (i := 5) rfl sz36 rfl rfl ⟨[], ?_, ?_⟩
          · first | (rw [e]; done) | (rw [e]; rfl)
          · rw [e]; exact (Sep.nilpart (hS.pick [] (by decide) rfl) (model_inner0 _)))
    have hex := c46
    refine wp_skip <| hK84 _ _ <| wp_region_lit <| gB 3 0 hF hS rfl rfl rfl fun a hF => ww 3 hF hS rfl rfl rfl rfl rfl rfl fun w72 hS => ?_
    obtain ⟨g51, o51, m51, q51, hv51, hm51, hl51, hc51⟩ := Rd.atF ((hS.own_rd (i := 2) rfl)) (a := a) (X := .tmp 49) (hF.ev rfl) (by omega) (by omega)
    refine wl hF rfl rfl rfl (r_index sl50 ((hF.ev rfl).trans hv51) (hF.ev rfl) (by omega) (by first | omega | (simp at hm51; omega))) fun a hF => ?_
    refine wl_tstore (q := 2) hF hS rfl hv51 (by omega) (by omega) sz4 (hF.ev rfl) rfl ec fun w73 hS => ?_; dsimp only [List.set] at hS
    refine wl_nil ?_
    refine xt ?_
    refine hK78 _ _ <| rl hF rfl fun a hF => ?_
    refine xt ?_
    refine ⟨(k + 1, used.set (at0 order (k : Int)).toNat true, (explains c m (at0 es (at0 order (k : Int)))).1, vs42), ⟨by dsimp only; omega, (rp_next (by omega) hgo hex).symm.trans hr, explains_small hex, by simp only [List.length_set]; exact hlu⟩, (hS.pick [2, 3, 1, 5, 6] (by decide) rfl), (((((((((hF.nil.keep hF (t := 24) rfl).keep hF (t := 23) rfl).keep hF (t := 9) rfl).keep hF (t := 8) rfl).keep hF (t := 7) rfl).keep hF (t := 6) rfl).keep hF (t := 3) rfl).keep hF (t := 1) rfl).keepE hF (t := 25) rfl (wk (by omega))), by dsimp only; omega⟩
   refine wp_exit ?_
   refine xt ?_
   refine hK74 _ _ <| wp_seq_k fun K87 hK87 => ws fun K88 hK88 => ga 2 hF rfl fun a hF => ckr hF hS rfl (complete_c (hS.rd ha) (hS.own_rd (i := 0) rfl) (by omega)) fun w74 a hS hF => ge hK88 hF rfl fun a hF => cx 56 hF rfl (fun c56 hF => ?_) fun c56 hF => ?_
   ·
    refine ws fun K89 hK89 => wl hF rfl rfl rfl (r_build (bd36) trivial) fun a hF => ww 3 hF hS rfl rfl rfl rfl rfl rfl fun w75 hS => ge hK89 hF rfl fun a hF => ?_
    refine xr ?_
    first
      | (have e := ro_not (show replay c es order (List.replicate es.length false) (newModel c) = some (used, m) from by rw [← hr, List.drop_of_length_le (by omega)]; rfl) (.inr c56)
         refine ret2c rfl ag36 hF hS (i := 3) rfl sz36 rfl rfl ⟨[], ?_, ?_⟩
         · first | (rw [e]; done) | (rw [e]; rfl)
         · rw [e]; exact (Sep.nilpart (hS.pick [] (by decide) rfl) (model_inner0 _)))
   refine wp_skip <| hK87 _ _ <| ws fun K90 hK90 => gB 1 1 hF hS rfl rfl rfl fun a hF => ww 3 hF hS rfl rfl rfl rfl rfl rfl fun w76 hS => ge hK90 hF rfl fun a hF => ?_
   refine xr ?_
   have e := ro_done (show replay c es order (List.replicate es.length false) (newModel c) = some (used, m) from by rw [← hr, List.drop_of_length_le (by omega)]; rfl) c16 c56
   refine ret2c rfl ag36 hF hS (i := 3) rfl sz36 rfl rfl ⟨vs, ?_, ?_⟩
   · first | (rw [e]; done) | (rw [e]; rfl)
   · rw [e]; exact hS.pick [2] (by decide) rfl
 ·
  refine op_op rfl rfl (gw0 rfl) rfl rfl rfl (fun a w_ hF hS => r_alloc0 zr36) ?_; intro g3
  refine todo_fork [(1, [4, 6, 7]), (4, [1, 6, 7])] hl_ rfl (by kernel_rfl) (List.forall_mem_cons.2 ⟨?_, List.forall_mem_cons.2 ⟨?_, fun _ h_ => nomatch h_⟩⟩)
  ·
   refine op_mk rfl rfl (gw0 rfl) rfl rfl rfl (fun a w_ hF => r_call1 en25 (hF.ev rfl)) (fun w_ hS => implNewModel_c _) ?_; rintro vs19
   refine todo_fork [(4, [6, 7]), (6, [4, 7])] hl_ rfl (by kernel_rfl) (List.forall_mem_cons.2 ⟨?_, List.forall_mem_cons.2 ⟨?_, fun _ h_ => nomatch h_⟩⟩)
   ·
    refine op_op rfl rfl (gw0 rfl) rfl rfl rfl (fun a w_ hF hS => r_make0 boolEK false [] mk50 rfl (fun _ => Sat.nil _ _) (hF.ev rfl) (by omega) (by unfold maxLen; omega)) ?_; intro gm_22
    refine todo_fin hl_ rfl (by kernel_rfl) (tl := [_, _]) rfl ?_; intro a w79 hF hA_
    have hS := hA_.sep; clear hA_
    clear hl_; try clear hSd
    try dsimp only [List.cons_append, List.nil_append, List.set] at hS
    try clear wd
    refine ww 2 hF hS rfl rfl rfl rfl rfl rfl fun w80 hS => ga 1 hF rfl fun a hF => wl_nil ⟨rfl, ?_⟩
    refine hK5 _ _ <| wp_seq_k fun K91 hK91 => rg hF rfl fun a hF => wp_block ?_
    replace hS := hS.pull (p := 1) rfl; dsimp only [List.eraseIdx] at hS
    replace hS := hS.pull (p := 2) rfl; dsimp only [List.eraseIdx] at hS
    replace hS := hS.pull (p := 2) rfl; dsimp only [List.eraseIdx] at hS
    have hL_ := ((((((((hF.nil.keep hF (t := 24) rfl).keep hF (t := 23) rfl).keep hF (t := 9) rfl).keep hF (t := 8) rfl).keep hF (t := 7) rfl).keep hF (t := 6) rfl).keep hF (t := 3) rfl).keep hF (t := 1) rfl)
    refine wp_loop_m (σ := Nat × List Bool × Model × List Slv) (fun z L_ => (25, vi z.1) :: L_) (fun z l_ => (Own boolEK (.slice (some ⟨gm_22, 0, none⟩) es.length es.length) z.2.1) :: (Box g3 [sv (z.2.2.2.getD 0 (none, 0, 0)), sv (z.2.2.2.getD 1 (none, 0, 0))]) :: (Part modelEK z.2.2.1 z.2.2.2) :: l_) (fun z => (z.1 ≤ order.length) ∧ (replay c es (order.drop z.1) z.2.1 z.2.2.1 = replay c es order (List.replicate es.length false) (newModel c)) ∧ (z.2.2.1.size ≤ 100) ∧ (z.2.1.length = es.length)) (fun z => order.length - z.1) (0, List.replicate es.length false, newModel c, vs19) (hS) (hL_.keepE hF (t := 25) rfl rfl) ?_ ?_
    · exact ⟨Nat.zero_le _, rfl, (newModel_cnt c).2, List.length_replicate⟩
    rintro ⟨k, used, m, vs⟩ a w81 ⟨hk, hr, hsz, hlu⟩ hS hF; try dsimp only at hF; try dsimp only at hS; try dsimp only at hk; try dsimp only at hr; try dsimp only at hsz; try dsimp only at hlu
    refine rg hF rfl fun a hF => wp_seq_k fun K94 hK94 => cx 26 hF rfl (fun c26 hF => ?_) fun c26 hF => ?_
    ·
     have hlt : k < order.length := by omega
     refine wp_skip <| hK94 _ _ <| wp_seq_k fun K95 hK95 => wp_block <| ws fun K96 hK96 => ?_
     obtain ⟨g27, o27, m27, q27, hv27, hm27, hl27, hc27⟩ := Rd.atF (ho) (a := a) (X := .tmp 25) (hF.ev rfl) (by omega) (by omega)
     refine wl hF rfl rfl rfl (r_index sl29 ((hF.ev rfl).trans hv27) (hF.ev rfl) (by omega) (by first | omega | (simp at hm27; omega))) fun a hF => ?_
     refine wl hF rfl rfl rfl (r_load1 sc3 (hF.ev rfl) (cellB hS.old (hc27 0 _ rfl))) fun a hF => ge hK96 hF rfl fun a hF => wp_seq_k fun K97 hK97 => ws fun K98 hK98 => ga 3 hF rfl fun a hF => ckr hF hS rfl (implMayGo_c (hS.rd ha) (hS.own_rd (i := 0) rfl)) fun w82 a hS hF => ge hK98 hF rfl fun a hF => ?_
     refine cx 33 hF rfl (fun c33 hF => ?_) fun c33 hF => ?_
     ·
      refine ws fun K99 hK99 => wl hF rfl rfl rfl (r_build (bd36) trivial) fun a hF => ww 3 hF hS rfl rfl rfl rfl rfl rfl fun w83 hS => ge hK99 hF rfl fun a hF => ?_
      refine xr ?_
      first
        | (have e := ro_none (hr.symm.trans (rp_no1 (by omega) c33))
           refine ret2c rfl ag36 hF hS (i := 3) rfl sz36 rfl rfl ⟨[], ?_, ?_⟩
           · first | (rw [e]; done) | (rw [e]; rfl)
           · rw [e]; exact (Sep.nilpart (hS.pick [] (by decide) rfl) (model_inner0 _)))
     have hgo := c33
     have hin := mayGo_in hgo
     refine wp_skip <| hK97 _ _ <| wp_seq_k fun K100 hK100 => ?_
     refine wp_region_todo (is := [0, 1, 2, 3, 4, 5, 6, 7, 8, 9, 11, 12]) [(10, 12, [.slice none 0 0, .slice none 0 0])] [11, 12] (by kernel_rfl) hF hS ⟨⟨⟨_, _, _, rfl, zr36⟩, trivial⟩, by decide, by decide, by decide⟩ (by kernel_rfl) ?_; intro hl_ wd hSd
     refine todo_load [6, 7, 8, 9, 11, 12] hl_ (by kernel_rfl) rfl (gw0 rfl) rfl rfl rfl (fun a w_ hF hB_ => r_loadn ag25 (hF.ev rfl) ((hSd.ext hB_).box_rd (i := 4) rfl) sz25) <| todo_load [6, 7, 8, 9, 11, 12] hl_ (by kernel_rfl) rfl (gw0 rfl) rfl rfl rfl (fun a w_ hF hB_ => r_loadn ag36 (hF.ev rfl) ((hSd.ext hB_).box_rd (i := 1) rfl) sz36) <| tp 2 hl_ rfl ?_
     obtain ⟨g40, o40, m40, q40, hv40, hm40, hl40, hc40⟩ := Rd.idxF (ha) (at0_get (i := (at0 order (k : Int))) (by omega) (by omega))
     refine todo_pure hl_ (by kernel_rfl) rfl (gw0 rfl) rfl rfl rfl (fun a w_ hF => r_index sl26 ((hF.ev rfl).trans hv40) (hF.ev rfl) (by omega) (by first | omega | (simp at hm40; omega))) ?_
     refine todo_load [6, 7, 8, 9, 11, 12] hl_ (by kernel_rfl) rfl (gw0 rfl) rfl rfl rfl (fun a w_ hF hB_ => r_loadn ag46 (hF.ev rfl) (fun j_ u_ hu_ => cellB (hSd.ext hB_).old (hc40 j_ u_ hu_)) sz46) ?_
     refine todo_mk hl_ rfl (by kernel_rfl) rfl rfl rfl rfl rfl (fun a w_ hF => r_call3 en29 (hF.ev rfl) (hF.ev rfl) (hF.ev rfl)) (fun w_ hS => implExplains_c (hS.part_k (i := 2) rfl) (by omega)) ?_; rintro vs42
     refine tp 3 hl_ rfl ?_
     refine todo_fin hl_ rfl (by kernel_rfl) (tl := [_, _]) rfl ?_; intro a w84 hF hA_
     obtain ⟨g4, hS, he_0⟩ := hA_.open1; clear hA_
     replace hF := hF.more he_0; clear he_0
     clear hl_; try clear hSd
     try dsimp only [List.cons_append, List.nil_append, List.set] at hS
     try clear wd
     refine ww 0 hF hS rfl rfl rfl rfl rfl rfl fun w85 hS => ga 1 hF rfl fun a hF => wl_nil ⟨rfl, ?_⟩
     refine hK100 _ _ <| wp_seq_k fun K101 hK101 => rg hF rfl fun a hF => cx 46 hF rfl (fun c46 hF => ?_) fun c46 hF => ?_
     ·
      refine ws fun K103 hK103 => wl hF rfl rfl rfl (r_build (bd36) trivial) fun a hF => ww 5 hF hS rfl rfl rfl rfl rfl rfl fun w86 hS => ge hK103 hF rfl fun a hF => ?_
      refine xr ?_
      first
        | (have e := ro_none (hr.symm.trans (rp_no2 (by omega) c46))
           refine ret2c rfl ag36 hF hS (i := 5) rfl sz36 rfl rfl ⟨[], ?_, ?_⟩
           · first | (rw [e]; done) | (rw [e]; rfl)
           · rw [e]; exact (Sep.nilpart (hS.pick [] (by decide) rfl) (model_inner0 _)))
     have hex := c46
     refine wp_skip <| hK101 _ _ <| wp_region_lit <| gB 3 0 hF hS rfl rfl rfl fun a hF => ww 3 hF hS rfl rfl rfl rfl rfl rfl fun w87 hS => ?_
     obtain ⟨g51, o51, m51, q51, hv51, hm51, hl51, hc51⟩ := Rd.atF ((hS.own_rd (i := 2) rfl)) (a := a) (X := .tmp 49) (hF.ev rfl) (by omega) (by omega)
     refine wl hF rfl rfl rfl (r_index sl50 ((hF.ev rfl).trans hv51) (hF.ev rfl) (by omega) (by first | omega | (simp at hm51; omega))) fun a hF => ?_
     refine wl_tstore (q := 2) hF hS rfl hv51 (by omega) (by omega) sz4 (hF.ev rfl) rfl ec fun w88 hS => ?_; dsimp only [List.set] at hS
     refine wl_nil ?_
     refine xt ?_
     refine hK95 _ _ <| rl hF rfl fun a hF => ?_
     refine xt ?_
     refine ⟨(k + 1, used.set (at0 order (k : Int)).toNat true, (explains c m (at0 es (at0 order (k : Int)))).1, vs42), ⟨by dsimp only; omega, (rp_next (by omega) hgo hex).symm.trans hr, explains_small hex, by simp only [List.length_set]; exact hlu⟩, (hS.pick [2, 3, 1, 5, 6] (by decide) rfl), (((((((((hF.nil.keep hF (t := 24) rfl).keep hF (t := 23) rfl).keep hF (t := 9) rfl).keep hF (t := 8) rfl).keep hF (t := 7) rfl).keep hF (t := 6) rfl).keep hF (t := 3) rfl).keep hF (t := 1) rfl).keepE hF (t := 25) rfl (wk (by omega))), by dsimp only; omega⟩
    refine wp_exit ?_
    refine xt ?_
    refine hK91 _ _ <| wp_seq_k fun K104 hK104 => ws fun K105 hK105 => ga 2 hF rfl fun a hF => ckr hF hS rfl (complete_c (hS.rd ha) (hS.own_rd (i := 0) rfl) (by omega)) fun w89 a hS hF => ge hK105 hF rfl fun a hF => cx 56 hF rfl (fun c56 hF => ?_) fun c56 hF => ?_
    ·
     refine ws fun K106 hK106 => wl hF rfl rfl rfl (r_build (bd36) trivial) fun a hF => ww 3 hF hS rfl rfl rfl rfl rfl rfl fun w90 hS => ge hK106 hF rfl fun a hF => ?_
     refine xr ?_
     first
       | (have e := ro_not (show replay c es order (List.replicate es.length false) (newModel c) = some (used, m) from by rw [← hr, List.drop_of_length_le (by omega)]; rfl) (.inr c56)
          refine ret2c rfl ag36 hF hS (i := 3) rfl sz36 rfl rfl ⟨[], ?_, ?_⟩
          · first | (rw [e]; done) | (rw [e]; rfl)
          · rw [e]; exact (Sep.nilpart (hS.pick [] (by decide) rfl) (model_inner0 _)))
    refine wp_skip <| hK104 _ _ <| ws fun K107 hK107 => gB 1 1 hF hS rfl rfl rfl fun a hF => ww 3 hF hS rfl rfl rfl rfl rfl rfl fun w91 hS => ge hK107 hF rfl fun a hF => ?_
    refine xr ?_
    have e := ro_done (show replay c es order (List.replicate es.length false) (newModel c) = some (used, m) from by rw [← hr, List.drop_of_length_le (by omega)]; rfl) c16 c56
    refine ret2c rfl ag36 hF hS (i := 3) rfl sz36 rfl rfl ⟨vs, ?_, ?_⟩
    · first | (rw [e]; done) | (rw [e]; rfl)
    · rw [e]; exact hS.pick [2] (by decide) rfl
   ·
    refine op_st (j := 1) (m' := [7]) rfl rfl (by kernel_rfl) rfl (fun a hF => (hF.ev rfl)) (fun a hF => (hF.ev rfl)) sz36 rfl rfl ?_; try clear hSd; try clear wd; intro wd hSd; try dsimp only [List.set] at hSd
    refine todo_op hl_ rfl (by kernel_rfl) rfl rfl rfl rfl rfl (fun a w_ hF hS => r_make0 boolEK false [] mk50 rfl (fun _ => Sat.nil _ _) (hF.ev rfl) (by omega) (by unfold maxLen; omega)) ?_; intro gm_22
    refine todo_fin hl_ rfl (by kernel_rfl) (tl := [_]) rfl ?_; intro a w93 hF hA_
    have hS := hA_.sep; clear hA_
    clear hl_; try clear hSd
    try dsimp only [List.cons_append, List.nil_append, List.set] at hS
    try clear wd
    refine ga 1 hF rfl fun a hF => wl_nil ⟨rfl, ?_⟩
    refine hK5 _ _ <| wp_seq_k fun K108 hK108 => rg hF rfl fun a hF => wp_block ?_
    replace hS := hS.pull (p := 1) rfl; dsimp only [List.eraseIdx] at hS
    replace hS := hS.pull (p := 2) rfl; dsimp only [List.eraseIdx] at hS
    replace hS := hS.pull (p := 2) rfl; dsimp only [List.eraseIdx] at hS
    have hL_ := ((((((((hF.nil.keep hF (t := 24) rfl).keep hF (t := 23) rfl).keep hF (t := 9) rfl).keep hF (t := 8) rfl).keep hF (t := 7) rfl).keep hF (t := 6) rfl).keep hF (t := 3) rfl).keep hF (t := 1) rfl)
    refine wp_loop_m (σ := Nat × List Bool × Model × List Slv) (fun z L_ => (25, vi z.1) :: L_) (fun z l_ => (Own boolEK (.slice (some ⟨gm_22, 0, none⟩) es.length es.length) z.2.1) :: (Box g3 [sv (z.2.2.2.getD 0 (none, 0, 0)), sv (z.2.2.2.getD 1 (none, 0, 0))]) :: (Part modelEK z.2.2.1 z.2.2.2) :: l_) (fun z => (z.1 ≤ order.length) ∧ (replay c es (order.drop z.1) z.2.1 z.2.2.1 = replay c es order (List.replicate es.length false) (newModel c)) ∧ (z.2.2.1.size ≤ 100) ∧ (z.2.1.length = es.length)) (fun z => order.length - z.1) (0, List.replicate es.length false, newModel c, vs19) (hS) (hL_.keepE hF (t := 25) rfl rfl) ?_ ?_
    · exact ⟨Nat.zero_le _, rfl, (newModel_cnt c).2, List.length_replicate⟩
    rintro ⟨k, used, m, vs⟩ a w94 ⟨hk, hr, hsz, hlu⟩ hS hF; try dsimp only at hF; try dsimp only at hS; try dsimp only at hk; try dsimp only at hr; try dsimp only at hsz; try dsimp only at hlu
    refine rg hF rfl fun a hF => wp_seq_k fun K111 hK111 => cx 26 hF rfl (fun c26 hF => ?_) fun c26 hF => ?_
    ·
     have hlt : k < order.length := by omega
     refine wp_skip <| hK111 _ _ <| wp_seq_k fun K112 hK112 => wp_block <| ws fun K113 hK113 => ?_
     obtain ⟨g27, o27, m27, q27, hv27, hm27, hl27, hc27⟩ := Rd.atF (ho) (a := a) (X := .tmp 25) (hF.ev rfl) (by omega) (by omega)
     refine wl hF rfl rfl rfl (r_index sl29 ((hF.ev rfl).trans hv27) (hF.ev rfl) (by omega) (by first | omega | (simp at hm27; omega))) fun a hF => ?_
     refine wl hF rfl rfl rfl (r_load1 sc3 (hF.ev rfl) (cellB hS.old (hc27 0 _ rfl))) fun a hF => ge hK113 hF rfl fun a hF => wp_seq_k fun K114 hK114 => ws fun K115 hK115 => ga 3 hF rfl fun a hF => ckr hF hS rfl (implMayGo_c (hS.rd ha) (hS.own_rd (i := 0) rfl)) fun w95 a hS hF => ge hK115 hF rfl fun a hF => ?_
     refine cx 33 hF rfl (fun c33 hF => ?_) fun c33 hF => ?_
     ·
      refine ws fun K116 hK116 => wl hF rfl rfl rfl (r_build (bd36) trivial) fun a hF => ww 3 hF hS rfl rfl rfl rfl rfl rfl fun w96 hS => ge hK116 hF rfl fun a hF => ?_
      refine xr ?_
      first
        | (have e := ro_none (hr.symm.trans (rp_no1 (by omega) c33))
           refine ret2c rfl ag36 hF hS (i := 3) rfl sz36 rfl rfl ⟨[], ?_, ?_⟩
           · first | (rw [e]; done) | (rw [e]; rfl)
           · rw [e]; exact (Sep.nilpart (hS.pick [] (by decide) rfl) (model_inner0 _)))
     have hgo := c33
     have hin := mayGo_in hgo
     refine wp_skip <| hK114 _ _ <| wp_seq_k fun K117 hK117 => ?_
     refine wp_region_todo (is := [0, 1, 2, 3, 4, 5, 6, 7, 8, 9, 11, 12]) [(10, 12, [.slice none 0 0, .slice none 0 0])] [11, 12] (by kernel_rfl) hF hS ⟨⟨⟨_, _, _, rfl, zr36⟩, trivial⟩, by decide, by decide, by decide⟩ (by kernel_rfl) ?_; intro hl_ wd hSd
     refine todo_load [6, 7, 8, 9, 11, 12] hl_ (by kernel_rfl) rfl (gw0 rfl) rfl rfl rfl (fun a w_ hF hB_ => r_loadn ag25 (hF.ev rfl) ((hSd.ext hB_).box_rd (i := 4) rfl) sz25) <| todo_load [6, 7, 8, 9, 11, 12] hl_ (by kernel_rfl) rfl (gw0 rfl) rfl rfl rfl (fun a w_ hF hB_ => r_loadn ag36 (hF.ev rfl) ((hSd.ext hB_).box_rd (i := 1) rfl) sz36) <| tp 2 hl_ rfl ?_
     obtain ⟨g40, o40, m40, q40, hv40, hm40, hl40, hc40⟩ := Rd.idxF (ha) (at0_get (i := (at0 order (k : Int))) (by omega) (by omega))
     refine todo_pure hl_ (by kernel_rfl) rfl (gw0 rfl) rfl rfl rfl (fun a w_ hF => r_index sl26 ((hF.ev rfl).trans hv40) (hF.ev rfl) (by omega) (by first | omega | (simp at hm40; omega))) ?_
     refine todo_load [6, 7, 8, 9, 11, 12] hl_ (by kernel_rfl) rfl (gw0 rfl) rfl rfl rfl (fun a w_ hF hB_ => r_loadn ag46 (hF.ev rfl) (fun j_ u_ hu_ => cellB (hSd.ext hB_).old (hc40 j_ u_ hu_)) sz46) ?_
     refine todo_mk hl_ rfl (by kernel_rfl) rfl rfl rfl rfl rfl (fun a w_ hF => r_call3 en29 (hF.ev rfl) (hF.ev rfl) (hF.ev rfl)) (fun w_ hS => implExplains_c (hS.part_k (i := 2) rfl) (by omega)) ?_; rintro vs42
     refine tp 3 hl_ rfl ?_
     refine todo_fin hl_ rfl (by kernel_rfl) (tl := [_, _]) rfl ?_; intro a w97 hF hA_
     obtain ⟨g4, hS, he_0⟩ := hA_.open1; clear hA_
     replace hF := hF.more he_0; clear he_0
     clear hl_; try clear hSd
     try dsimp only [List.cons_append, List.nil_append, List.set] at hS
     try clear wd
     refine ww 0 hF hS rfl rfl rfl rfl rfl rfl fun w98 hS => ga 1 hF rfl fun a hF => wl_nil ⟨rfl, ?_⟩
     refine hK117 _ _ <| wp_seq_k fun K118 hK118 => rg hF rfl fun a hF => cx 46 hF rfl (fun c46 hF => ?_) fun c46 hF => ?_
     ·
      refine ws fun K120 hK120 => wl hF rfl rfl rfl (r_build (bd36) trivial) fun a hF => ww 5 hF hS rfl rfl rfl rfl rfl rfl fun w99 hS => ge hK120 hF rfl fun a hF => ?_
      refine xr ?_
      first
        | (have e := ro_none (hr.symm.trans (rp_no2 (by omega) c46))
           refine ret2c rfl ag36 hF hS (i := 5) rfl sz36 rfl rfl ⟨[], ?_, ?_⟩
           · first | (rw [e]; done) | (rw [e]; rfl)
           · rw [e]; exact (Sep.nilpart (hS.pick [] (by decide) rfl) (model_inner0 _)))
     have hex := c46
     refine wp_skip <| hK118 _ _ <| wp_region_lit <| gB 3 0 hF hS rfl rfl rfl fun a hF => ww 3 hF hS rfl rfl rfl rfl rfl rfl fun w100 hS => ?_
     obtain ⟨g51, o51, m51, q51, hv51, hm51, hl51, hc51⟩ := Rd.atF ((hS.own_rd (i := 2) rfl)) (a := a) (X := .tmp 49) (hF.ev rfl) (by omega) (by omega)
     refine wl hF rfl rfl rfl (r_index sl50 ((hF.ev rfl).trans hv51) (hF.ev rfl) (by omega) (by first | omega | (simp at hm51; omega))) fun a hF => ?_
     refine wl_tstore (q := 2) hF hS rfl hv51 (by omega) (by omega) sz4 (hF.ev rfl) rfl ec fun w101 hS => ?_; dsimp only [List.set] at hS
     refine wl_nil ?_
     refine xt ?_
     refine hK112 _ _ <| rl hF rfl fun a hF => ?_
     refine xt ?_
     refine ⟨(k + 1, used.set (at0 order (k : Int)).toNat true, (explains c m (at0 es (at0 order (k : Int)))).1, vs42), ⟨by dsimp only; omega, (rp_next (by omega) hgo hex).symm.trans hr, explains_small hex, by simp only [List.length_set]; exact hlu⟩, (hS.pick [2, 3, 1, 5, 6] (by decide) rfl), (((((((((hF.nil.keep hF (t := 24) rfl).keep hF (t := 23) rfl).keep hF (t := 9) rfl).keep hF (t := 8) rfl).keep hF (t := 7) rfl).keep hF (t := 6) rfl).keep hF (t := 3) rfl).keep hF (t := 1) rfl).keepE hF (t := 25) rfl (wk (by omega))), by dsimp only; omega⟩
    refine wp_exit ?_
    refine xt ?_
    refine hK108 _ _ <| wp_seq_k fun K121 hK121 => ws fun K122 hK122 => ga 2 hF rfl fun a hF => ckr hF hS rfl (complete_c (hS.rd ha) (hS.own_rd (i := 0) rfl) (by omega)) fun w102 a hS hF => ge hK122 hF rfl fun a hF => cx 56 hF rfl (fun c56 hF => ?_) fun c56 hF => ?_
    ·
     refine ws fun K123 hK123 => wl hF rfl rfl rfl (r_build (bd36) trivial) fun a hF => ww 3 hF hS rfl rfl rfl rfl rfl rfl fun w103 hS => ge hK123 hF rfl fun a hF => ?_
     refine xr ?_
     first
       | (have e := ro_not (show replay c es order (List.replicate es.length false) (newModel c) = some (used, m) from by rw [← hr, List.drop_of_length_le (by omega)]; rfl) (.inr c56)
          refine ret2c rfl ag36 hF hS (i := 3) rfl sz36 rfl rfl ⟨[], ?_, ?_⟩
          · first | (rw [e]; done) | (rw [e]; rfl)
          · rw [e]; exact (Sep.nilpart (hS.pick [] (by decide) rfl) (model_inner0 _)))
    refine wp_skip <| hK121 _ _ <| ws fun K124 hK124 => gB 1 1 hF hS rfl rfl rfl fun a hF => ww 3 hF hS rfl rfl rfl rfl rfl rfl fun w104 hS => ge hK124 hF rfl fun a hF => ?_
    refine xr ?_
    have e := ro_done (show replay c es order (List.replicate es.length false) (newModel c) = some (used, m) from by rw [← hr, List.drop_of_length_le (by omega)]; rfl) c16 c56
    refine ret2c rfl ag36 hF hS (i := 3) rfl sz36 rfl rfl ⟨vs, ?_, ?_⟩
    · first | (rw [e]; done) | (rw [e]; rfl)
    · rw [e]; exact hS.pick [2] (by decide) rfl
  ·
   refine op_op rfl rfl (gw0 rfl) rfl rfl rfl (fun a w_ hF hS => r_make0 boolEK false [] mk50 rfl (fun _ => Sat.nil _ _) (hF.ev rfl) (by omega) (by unfold maxLen; omega)) ?_; intro gm_22
   refine todo_mk hl_ rfl (by kernel_rfl) rfl rfl rfl rfl rfl (fun a w_ hF => r_call1 en25 (hF.ev rfl)) (fun w_ hS => implNewModel_c _) ?_; rintro vs19
   refine todo_fin hl_ rfl (by kernel_rfl) (tl := [_, _]) rfl ?_; intro a w106 hF hA_
   have hS := hA_.sep; clear hA_
   clear hl_; try clear hSd
   try dsimp only [List.cons_append, List.nil_append, List.set] at hS
   try clear wd
   refine ww 2 hF hS rfl rfl rfl rfl rfl rfl fun w107 hS => ga 1 hF rfl fun a hF => wl_nil ⟨rfl, ?_⟩
   refine hK5 _ _ <| wp_seq_k fun K125 hK125 => rg hF rfl fun a hF => wp_block ?_
   replace hS := hS.pull (p := 0) rfl; dsimp only [List.eraseIdx] at hS
   replace hS := hS.pull (p := 2) rfl; dsimp only [List.eraseIdx] at hS
   replace hS := hS.pull (p := 2) rfl; dsimp only [List.eraseIdx] at hS
   have hL_ := ((((((((hF.nil.keep hF (t := 24) rfl).keep hF (t := 23) rfl).keep hF (t := 9) rfl).keep hF (t := 8) rfl).keep hF (t := 7) rfl).keep hF (t := 6) rfl).keep hF (t := 3) rfl).keep hF (t := 1) rfl)
   refine wp_loop_m (σ := Nat × List Bool × Model × List Slv) (fun z L_ => (25, vi z.1) :: L_) (fun z l_ => (Own boolEK (.slice (some ⟨gm_22, 0, none⟩) es.length es.length) z.2.1) :: (Box g3 [sv (z.2.2.2.getD 0 (none, 0, 0)), sv (z.2.2.2.getD 1 (none, 0, 0))]) :: (Part modelEK z.2.2.1 z.2.2.2) :: l_) (fun z => (z.1 ≤ order.length) ∧ (replay c es (order.drop z.1) z.2.1 z.2.2.1 = replay c es order (List.replicate es.length false) (newModel c)) ∧ (z.2.2.1.size ≤ 100) ∧ (z.2.1.length = es.length)) (fun z => order.length - z.1) (0, List.replicate es.length false, newModel c, vs19) (hS) (hL_.keepE hF (t := 25) rfl rfl) ?_ ?_
   · exact ⟨Nat.zero_le _, rfl, (newModel_cnt c).2, List.length_replicate⟩
   rintro ⟨k, used, m, vs⟩ a w108 ⟨hk, hr, hsz, hlu⟩ hS hF; try dsimp only at hF; try dsimp only at hS; try dsimp only at hk; try dsimp only at hr; try dsimp only at hsz; try dsimp only at hlu
   refine rg hF rfl fun a hF => wp_seq_k fun K128 hK128 => cx 26 hF rfl (fun c26 hF => ?_) fun c26 hF => ?_
   ·
    have hlt : k < order.length := by omega
    refine wp_skip <| hK128 _ _ <| wp_seq_k fun K129 hK129 => wp_block <| ws fun K130 hK130 => ?_
    obtain ⟨g27, o27, m27, q27, hv27, hm27, hl27, hc27⟩ := Rd.atF (ho) (a := a) (X := .tmp 25) (hF.ev rfl) (by omega) (by omega)
    refine wl hF rfl rfl rfl (r_index sl29 ((hF.ev rfl).trans hv27) (hF.ev rfl) (by omega) (by first | omega | (simp at hm27; omega))) fun a hF => ?_
    refine wl hF rfl rfl rfl (r_load1 sc3 (hF.ev rfl) (cellB hS.old (hc27 0 _ rfl))) fun a hF => ge hK130 hF rfl fun a hF => wp_seq_k fun K131 hK131 => ws fun K132 hK132 => ga 3 hF rfl fun a hF => ckr hF hS rfl (implMayGo_c (hS.rd ha) (hS.own_rd (i := 0) rfl)) fun w109 a hS hF => ge hK132 hF rfl fun a hF => ?_
    refine cx 33 hF rfl (fun c33 hF => ?_) fun c33 hF => ?_
    ·
     refine ws fun K133 hK133 => wl hF rfl rfl rfl (r_build (bd36) trivial) fun a hF => ww 3 hF hS rfl rfl rfl rfl rfl rfl fun w110 hS => ge hK133 hF rfl fun a hF => ?_
     refine xr ?_
     first
       | (have e := ro_none (hr.symm.trans (rp_no1 (by omega) c33))
          refine ret2c rfl ag36 hF hS (i := 3) rfl sz36 rfl rfl ⟨[], ?_, ?_⟩
          · first | (rw [e]; done) | (rw [e]; rfl)
          · rw [e]; exact (Sep.nilpart (hS.pick [] (by decide) rfl) (model_inner0 _)))
    have hgo := c33
    have hin := mayGo_in hgo
    refine wp_skip <| hK131 _ _ <| wp_seq_k fun K134 hK134 => ?_
    refine wp_region_todo (is := [0, 1, 2, 3, 4, 5, 6, 7, 8, 9, 11, 12]) [(10, 12, [.slice none 0 0, .slice none 0 0])] [11, 12] (by kernel_rfl) hF hS ⟨⟨⟨_, _, _, rfl, zr36⟩, trivial⟩, by decide, by decide, by decide⟩ (by kernel_rfl) ?_; intro hl_ wd hSd
    refine todo_load [6, 7, 8, 9, 11, 12] hl_ (by kernel_rfl) rfl (gw0 rfl) rfl rfl rfl (fun a w_ hF hB_ => r_loadn ag25 (hF.ev rfl) ((hSd.ext hB_).box_rd (i := 4) rfl) sz25) <| todo_load [6, 7, 8, 9, 11, 12] hl_ (by kernel_rfl) rfl (gw0 rfl) rfl rfl rfl (fun a w_ hF hB_ => r_loadn ag36 (hF.ev rfl) ((hSd.ext hB_).box_rd (i := 1) rfl) sz36) <| tp 2 hl_ rfl ?_
    obtain ⟨g40, o40, m40, q40, hv40, hm40, hl40, hc40⟩ := Rd.idxF (ha) (at0_get (i := (at0 order (k : Int))) (by omega) (by omega))
    refine todo_pure hl_ (by kernel_rfl) rfl (gw0 rfl) rfl rfl rfl (fun a w_ hF => r_index sl26 ((hF.ev rfl).trans hv40) (hF.ev rfl) (by omega) (by first | omega | (simp at hm40; omega))) ?_
    refine todo_load [6, 7, 8, 9, 11, 12] hl_ (by kernel_rfl) rfl (gw0 rfl) rfl rfl rfl (fun a w_ hF hB_ => r_loadn ag46 (hF.ev rfl) (fun j_ u_ hu_ => cellB (hSd.ext hB_).old (hc40 j_ u_ hu_)) sz46) ?_
    refine todo_mk hl_ rfl (by kernel_rfl) rfl rfl rfl rfl rfl (fun a w_ hF => r_call3 en29 (hF.ev rfl) (hF.ev rfl) (hF.ev rfl)) (fun w_ hS => implExplains_c (hS.part_k (i := 2) rfl) (by omega)) ?_; rintro vs42
    refine tp 3 hl_ rfl ?_
    refine todo_fin hl_ rfl (by kernel_rfl) (tl := [_, _]) rfl ?_; intro a w111 hF hA_
    obtain ⟨g4, hS, he_0⟩ := hA_.open1; clear hA_
    replace hF := hF.more he_0; clear he_0
    clear hl_; try clear hSd
    try dsimp only [List.cons_append, List.nil_append, List.set] at hS
    try clear wd
    refine ww 0 hF hS rfl rfl rfl rfl rfl rfl fun w112 hS => ga 1 hF rfl fun a hF => wl_nil ⟨rfl, ?_⟩
    refine hK134 _ _ <| wp_seq_k fun K135 hK135 => rg hF rfl fun a hF => cx 46 hF rfl (fun c46 hF => ?_) fun c46 hF => ?_
    ·
     refine ws fun K137 hK137 => wl hF rfl rfl rfl (r_build (bd36) trivial) fun a hF => ww 5 hF hS rfl rfl rfl rfl rfl rfl fun w113 hS => ge hK137 hF rfl fun a hF => ?_
     refine xr ?_
     first
       | (have e := ro_none (hr.symm.trans (rp_no2 (by omega) c46))
          refine ret2c rfl ag36 hF hS (i := 5) rfl sz36 rfl rfl ⟨[], ?_, ?_⟩
          · first | (rw [e]; done) | (rw [e]; rfl)
          · rw [e]; exact (Sep.nilpart (hS.pick [] (by decide) rfl) (model_inner0 _)))
    have hex := c46
    refine wp_skip <| hK135 _ _ <| wp_region_lit <| gB 3 0 hF hS rfl rfl rfl fun a hF => ww 3 hF hS rfl rfl rfl rfl rfl rfl fun w114 hS => ?_
    obtain ⟨g51, o51, m51, q51, hv51, hm51, hl51, hc51⟩ := Rd.atF ((hS.own_rd (i := 2) rfl)) (a := a) (X := .tmp 49) (hF.ev rfl) (by omega) (by omega)
    refine wl hF rfl rfl rfl (r_index sl50 ((hF.ev rfl).trans hv51) (hF.ev rfl) (by omega) (by first | omega | (simp at hm51; omega))) fun a hF => ?_
    refine wl_tstore (q := 2) hF hS rfl hv51 (by omega) (by omega) sz4 (hF.ev rfl) rfl ec fun w115 hS => ?_; dsimp only [List.set] at hS
    refine wl_nil ?_
    refine xt ?_
    refine hK129 _ _ <| rl hF rfl fun a hF => ?_
    refine xt ?_
    refine ⟨(k + 1, used.set (at0 order (k : Int)).toNat true, (explains c m (at0 es (at0 order (k : Int)))).1, vs42), ⟨by dsimp only; omega, (rp_next (by omega) hgo hex).symm.trans hr, explains_small hex, by simp only [List.length_set]; exact hlu⟩, (hS.pick [2, 3, 1, 5, 6] (by decide) rfl), (((((((((hF.nil.keep hF (t := 24) rfl).keep hF (t := 23) rfl).keep hF (t := 9) rfl).keep hF (t := 8) rfl).keep hF (t := 7) rfl).keep hF (t := 6) rfl).keep hF (t := 3) rfl).keep hF (t := 1) rfl).keepE hF (t := 25) rfl (wk (by omega))), by dsimp only; omega⟩
   refine wp_exit ?_
   refine xt ?_
   refine hK125 _ _ <| wp_seq_k fun K138 hK138 => ws fun K139 hK139 => ga 2 hF rfl fun a hF => ckr hF hS rfl (complete_c (hS.rd ha) (hS.own_rd (i := 0) rfl) (by omega)) fun w116 a hS hF => ge hK139 hF rfl fun a hF => cx 56 hF rfl (fun c56 hF => ?_) fun c56 hF => ?_
   ·
    refine ws fun K140 hK140 => wl hF rfl rfl rfl (r_build (bd36) trivial) fun a hF => ww 3 hF hS rfl rfl rfl rfl rfl rfl fun w117 hS => ge hK140 hF rfl fun a hF => ?_
    refine xr ?_
    first
      | (have e := ro_not (show replay c es order (List.replicate es.length false) (newModel c) = some (used, m) from by rw [← hr, List.drop_of_length_le (by omega)]; rfl) (.inr c56)
         refine ret2c rfl ag36 hF hS (i := 3) rfl sz36 rfl rfl ⟨[], ?_, ?_⟩
         · first | (rw [e]; done) | (rw [e]; rfl)
         · rw [e]; exact (Sep.nilpart (hS.pick [] (by decide) rfl) (model_inner0 _)))
   refine wp_skip <| hK138 _ _ <| ws fun K141 hK141 => gB 1 1 hF hS rfl rfl rfl fun a hF => ww 3 hF hS rfl rfl rfl rfl rfl rfl fun w118 hS => ge hK141 hF rfl fun a hF => ?_
   refine xr ?_
   have e := ro_done (show replay c es order (List.replicate es.length false) (newModel c) = some (used, m) from by rw [← hr, List.drop_of_length_le (by omega)]; rfl) c16 c56
   refine ret2c rfl ag36 hF hS (i := 3) rfl sz36 rfl rfl ⟨vs, ?_, ?_⟩
   · first | (rw [e]; done) | (rw [e]; rfl)
   · rw [e]; exact hS.pick [2] (by decide) rfl
set_option maxRecDepth 20000
theorem sliceEq_c {W : World} {va vb : Value} {xs ys : List Int} (ha : intEK.Rd W va xs) (hb : intEK.Rd W vb ys) : Calls Tryz.prog 33 #[va, vb] W (Ret fun v w' => v = .bool (decide (xs = ys)) ∧ Below W.heap.size W w') := by
 refine cfr Tryz.func33 Tryz.ntmps33 fun a hF => ?_
 obtain ⟨A_a, q_a, rfl, hq_a, hn_a⟩ := ha.sl; unfold maxLen at hn_a
 obtain ⟨A_b, q_b, rfl, hq_b, hn_b⟩ := hb.sl; unfold maxLen at hn_b
 have hS := Sep.refl W
 refine rg hF rfl fun a hF => wp_seq_k fun K2 hK2 => rg hF rfl fun a hF => ?_
 first | refine wc_dec (hF.ev rfl) (fun c10 => ?_) (fun c10 => ?_) | refine wc_ndec (hF.ev rfl) (fun c10 => ?_) (fun c10 => ?_) | refine wc_b (hF.ev rfl) (fun c10 => ?_) (fun c10 => ?_)
 ·
  refine rg hF rfl fun a hF => ?_
  refine xr ?_
  refine ret1 rfl hF rfl ⟨?_, hS.old⟩
  first | exact eq_len c10 | exact eq_at hx hy c24 | exact eq_all htk hk hlen (by omega)
 refine wp_skip <| hK2 _ _ <| wp_seq_k fun K5 hK5 => rg hF rfl fun a hF => wp_block <| wp_loop_g (σ := Nat) (fun k a w => k ≤ xs.length ∧ xs.length = ys.length ∧ xs.take k = ys.take k ∧ Sep W [] w ∧ Fr 26 [(13, vi k), (12, vi xs.length), (0, .slice A_a xs.length q_a), (1, .slice A_b ys.length q_b)] a) (fun k => xs.length - k) 0 ?_ ?_
 · exact ⟨Nat.zero_le _, by omega, rfl, hS, ((((hF.nil.keep hF (t := 1) rfl).keep hF (t := 0) rfl).keep hF (t := 12) rfl).keep hF (t := 13) rfl)⟩
 rintro k a w ⟨hk, hlen, htk, hS, hF⟩
 refine rg hF rfl fun a hF => wp_seq_k fun K8 hK8 => ?_
 first | refine wc_dec (hF.ev rfl) (fun c14 => ?_) (fun c14 => ?_) | refine wc_ndec (hF.ev rfl) (fun c14 => ?_) (fun c14 => ?_) | refine wc_b (hF.ev rfl) (fun c14 => ?_) (fun c14 => ?_)
 ·
  have hlt : k < xs.length := by omega
  obtain ⟨x, hx⟩ : ∃ x, xs[k]? = some x := ⟨_, List.getElem?_eq_getElem hlt⟩
  obtain ⟨y, hy⟩ : ∃ y, ys[k]? = some y := ⟨_, List.getElem?_eq_getElem (by omega)⟩
  refine wp_skip <| hK8 _ _ <| wp_seq_k fun K9 hK9 => wp_block <| rg hF rfl fun a hF => wp_seq_k fun K11 hK11 => wp_region_calm (by kernel_rfl) (by kernel_rfl) ?_
  refine qa 2 hF tk rfl fun a hF => ?_
  obtain ⟨g18, o18, m18, q18, hv18, hm18, hl18, hc18⟩ := Rd.idxF (hS.rd ha) hx
  refine wq hF rfl rfl rfl (fun w_ hB_ => r_index sl29 ((hF.ev rfl).trans hv18) (hF.ev rfl) (by omega) (by omega)) fun a hF => wq hF rfl rfl rfl (fun w_ hB_ => r_load1 sc3 (hF.ev rfl) (cellB hB_ (hc18 0 _ rfl))) fun a hF => qa 2 hF tk rfl fun a hF => ?_
  obtain ⟨g22, o22, m22, q22, hv22, hm22, hl22, hc22⟩ := Rd.idxF (hS.rd hb) hy
  refine wq hF rfl rfl rfl (fun w_ hB_ => r_index sl29 ((hF.ev rfl).trans hv22) (hF.ev rfl) (by omega) (by omega)) fun a hF => wq hF rfl rfl rfl (fun w_ hB_ => r_load1 sc3 (hF.ev rfl) (cellB hB_ (hc22 0 _ rfl))) fun a hF => qa 1 hF tk rfl fun a hF => ?_
  refine wpQuiet_nil ?_; intro w1 hB_; have hS := hS.ext hB_
  refine hK11 _ _ ?_
  first | refine wc_dec (hF.ev rfl) (fun c24 => ?_) (fun c24 => ?_) | refine wc_ndec (hF.ev rfl) (fun c24 => ?_) (fun c24 => ?_) | refine wc_b (hF.ev rfl) (fun c24 => ?_) (fun c24 => ?_)
  ·
   refine rg hF rfl fun a hF => ?_
   refine xr ?_
   refine ret1 rfl hF rfl ⟨?_, hS.old⟩
   first | exact eq_len c10 | exact eq_at hx hy c24 | exact eq_all htk hk hlen (by omega)
  refine wp_skip ?_
  refine xt ?_
  refine hK9 _ _ <| rl hF rfl fun a hF => ?_
  refine xt ?_
  exact ⟨k + 1, ⟨by omega, hlen, take_next htk hx hy c24, hS, ((((hF.nil.keep hF (t := 1) rfl).keep hF (t := 0) rfl).keep hF (t := 12) rfl).keepE hF (t := 13) rfl (wk (by omega)))⟩, by omega⟩
 refine wp_exit ?_
 refine xt ?_
 refine hK5 _ _ <| rg hF rfl fun a hF => ?_
 refine xr ?_
 refine ret1 rfl hF rfl ⟨?_, hS.old⟩
 first | exact eq_len c10 | exact eq_at hx hy c24 | exact eq_all htk hk hlen (by omega)
theorem equalFunc_c {W : World} {va vb : Value} {xs ys : List (List Int)} (ha : (sliceEK intEK).Rd W va xs) (hb : (sliceEK intEK).Rd W vb ys) : Calls Tryz.prog 34 #[va, vb, .func (.func 33) #[] #[]] W (Ret fun v w' => v = .bool (decide (xs = ys)) ∧ Below W.heap.size W w') := by
 refine cfr Tryz.func34 Tryz.ntmps34 fun a hF => ?_
 obtain ⟨A_a, q_a, rfl, hq_a, hn_a⟩ := ha.sl; unfold maxLen at hn_a
 obtain ⟨A_b, q_b, rfl, hq_b, hn_b⟩ := hb.sl; unfold maxLen at hn_b
 have hS := Sep.refl W
 refine rg hF rfl fun a hF => wp_seq_k fun K2 hK2 => rg hF rfl fun a hF => ?_
 first | refine wc_dec (hF.ev rfl) (fun c14 => ?_) (fun c14 => ?_) | refine wc_ndec (hF.ev rfl) (fun c14 => ?_) (fun c14 => ?_) | refine wc_b (hF.ev rfl) (fun c14 => ?_) (fun c14 => ?_)
 ·
  refine rg hF rfl fun a hF => ?_
  refine xr ?_
  refine ret1 rfl hF rfl ⟨?_, hS.old⟩
  first | exact eq_len c14 | exact eq_at hx hy c30 | exact eq_all htk hk hlen (by omega)
 refine wp_skip <| hK2 _ _ <| wp_seq_k fun K5 hK5 => rg hF rfl fun a hF => wp_block <| wp_loop_g (σ := Nat) (fun k a w => k ≤ xs.length ∧ xs.length = ys.length ∧ xs.take k = ys.take k ∧ Sep W [] w ∧ Fr 32 [(17, vi k), (16, vi xs.length), (15, .slice A_a xs.length q_a), (2, .func (.func 33) #[] #[]), (0, .slice A_a xs.length q_a), (1, .slice A_b ys.length q_b)] a) (fun k => xs.length - k) 0 ?_ ?_
 · exact ⟨Nat.zero_le _, by omega, rfl, hS, ((((((hF.nil.keep hF (t := 1) rfl).keep hF (t := 0) rfl).keep hF (t := 2) rfl).keep hF (t := 15) rfl).keep hF (t := 16) rfl).keep hF (t := 17) rfl)⟩
 rintro k a w ⟨hk, hlen, htk, hS, hF⟩
 refine rg hF rfl fun a hF => wp_seq_k fun K8 hK8 => ?_
 first | refine wc_dec (hF.ev rfl) (fun c18 => ?_) (fun c18 => ?_) | refine wc_ndec (hF.ev rfl) (fun c18 => ?_) (fun c18 => ?_) | refine wc_b (hF.ev rfl) (fun c18 => ?_) (fun c18 => ?_)
 ·
  have hlt : k < xs.length := by omega
  obtain ⟨x, hx⟩ : ∃ x, xs[k]? = some x := ⟨_, List.getElem?_eq_getElem hlt⟩
  obtain ⟨y, hy⟩ : ∃ y, ys[k]? = some y := ⟨_, List.getElem?_eq_getElem (by omega)⟩
  refine wp_skip <| hK8 _ _ <| wp_seq_k fun K9 hK9 => wp_block <| ws fun K10 hK10 => ga 1 hF rfl fun a hF => ?_
  obtain ⟨g20, o20, m20, q20, cs20, hv20, hm20, hl20, hk20, hz20, hc20⟩ := Rd.idx (ha) hx
  obtain ⟨v20, rfl, hr20⟩ := hk20; obtain ⟨Ae20, qe20, rfl, _, hme20⟩ := hr20.sl; unfold maxLen at hme20
  refine wl hF rfl rfl rfl (r_index sl34 ((hF.ev rfl).trans hv20) (hF.ev rfl) (by omega) (by omega)) fun a hF => wl hF rfl rfl rfl (r_load1 sc29 (hF.ev rfl) (cellB hS.old (hc20 0 _ rfl))) fun a hF => ge hK10 hF rfl fun a hF => ws fun K11 hK11 => ga 2 hF rfl fun a hF => ?_
  obtain ⟨g24, o24, m24, q24, cs24, hv24, hm24, hl24, hk24, hz24, hc24⟩ := Rd.idx (hb) hy
  obtain ⟨v24, rfl, hr24⟩ := hk24; obtain ⟨Ae24, qe24, rfl, _, hme24⟩ := hr24.sl; unfold maxLen at hme24
  refine wl hF rfl rfl rfl (r_index sl34 ((hF.ev rfl).trans hv24) (hF.ev rfl) (by omega) (by omega)) fun a hF => wl hF rfl rfl rfl (r_load1 sc29 (hF.ev rfl) (cellB hS.old (hc24 0 _ rfl))) fun a hF => ge hK11 hF rfl fun a hF => ws fun K12 hK12 => ga 3 hF rfl fun a hF => ?_
  refine wl_call hF rfl rfl rfl (r_callw2 en33 (hF.ev rfl) (hF.ev rfl) (hF.ev rfl)) (sliceEq_c (hS.rd hr20) (hS.rd hr24)) ?_; rintro v w1 a ⟨rfl, hB_⟩ hF; have hS := hS.ext hB_
  refine ge hK12 hF rfl fun a hF => ?_
  first | refine wc_dec (hF.ev rfl) (fun c30 => ?_) (fun c30 => ?_) | refine wc_ndec (hF.ev rfl) (fun c30 => ?_) (fun c30 => ?_) | refine wc_b (hF.ev rfl) (fun c30 => ?_) (fun c30 => ?_)
  ·
   refine rg hF rfl fun a hF => ?_
   refine xr ?_
   refine ret1 rfl hF rfl ⟨?_, hS.old⟩
   first | exact eq_len c14 | exact eq_at hx hy c30 | exact eq_all htk hk hlen (by omega)
  refine wp_skip ?_
  refine xt ?_
  refine hK9 _ _ <| rl hF rfl fun a hF => ?_
  refine xt ?_
  exact ⟨k + 1, ⟨by omega, hlen, take_next htk hx hy c30, hS, ((((((hF.nil.keep hF (t := 1) rfl).keep hF (t := 0) rfl).keep hF (t := 2) rfl).keep hF (t := 15) rfl).keep hF (t := 16) rfl).keepE hF (t := 17) rfl (wk (by omega)))⟩, by omega⟩
 refine wp_exit ?_
 refine xt ?_
 refine hK5 _ _ <| rg hF rfl fun a hF => ?_
 refine xr ?_
 refine ret1 rfl hF rfl ⟨?_, hS.old⟩
 first | exact eq_len c14 | exact eq_at hx hy c30 | exact eq_all htk hk hlen (by omega)
theorem implEqualModels_c {W : World} {x y : Model} {cs ds : List Value} (hx : modelEK.K W x cs) (hy : modelEK.K W y ds) : Calls Tryz.prog 12 #[.agg cs.toArray, .agg ds.toArray] W (Ret fun v w' => v = .bool (decide (x = y)) ∧ Below W.heap.size W w') := by
 refine cfr Tryz.func12 Tryz.ntmps12 fun a hF => ?_
 obtain ⟨v0, v1, rfl, r0, r1⟩ := hx
 obtain ⟨u0, u1, rfl, q0, q1⟩ := hy
 obtain ⟨A_x, q_x, rfl, hq_x, hn_x⟩ := r1.sl; unfold maxLen at hn_x
 obtain ⟨A_y, q_y, rfl, hq_y, hn_y⟩ := q1.sl; unfold maxLen at hn_y
 have hS := Sep.refl W
 refine ws fun K1 hK1 => wl_box (cs := [_, _]) hF hS rfl (hF.ev rfl) rfl fun g1 w1 a hS _ hF => wl_box (cs := [_, _]) hF hS rfl (hF.ev rfl) rfl fun g2 w2 a hS _ hF => ge hK1 hF rfl fun a hF => ws fun K2 hK2 => gB 3 1 hF hS rfl rfl rfl fun a hF => gB 1 0 hF hS rfl rfl rfl fun a hF => ?_
 refine ckr hF hS rfl (sliceEq_c (hS.rd r0) (hS.rd q0)) fun w3 a hS hF => ga 1 hF rfl fun a hF => ?_
 revert hF; intro hF0; refine bsplit (t := 10) hF0 rfl (fun b10 hF => ?_) (fun b10 hF => ?_)
 ·
  clear hF0
  try simp only [decide_eq_true_eq, decide_eq_false_iff_not, Bool.not_eq_true', Bool.not_eq_false'] at b10
  refine gB 3 1 hF hS rfl rfl rfl fun a hF => wl_take hF rfl rfl rfl rfl <| gB 1 0 hF hS rfl rfl rfl fun a hF => wl_take hF rfl rfl rfl rfl ?_
  refine wl_call hF rfl rfl rfl (r_call3 en34 (hF.ev rfl) (hF.ev rfl) ef) (equalFunc_c (hS.rd r1) (hS.rd q1)) ?_; rintro v w4 a ⟨rfl, hB_⟩ hF; have hS := hS.ext hB_
  refine ge hK2 hF rfl fun a hF => ?_
  refine xr ?_
  refine ret1 rfl hF rfl ⟨congrArg Value.bool (Eq.symm ?_), hS.old⟩
  first
    | exact decide_eq_false (fun e => b10 (congrArg Model.values e))
    | exact decide_eq_decide.2 ⟨fun e => by rw [e], fun e => by cases x; cases y; simp only [Model.mk.injEq]; exact ⟨b10, e⟩⟩
 clear hF0
 try simp only [decide_eq_true_eq, decide_eq_false_iff_not, Bool.not_eq_true', Bool.not_eq_false'] at b10
 refine ge hK2 hF rfl fun a hF => ?_
 refine xr ?_
 refine ret1 rfl hF rfl ⟨congrArg Value.bool (Eq.symm ?_), hS.old⟩
 first
   | exact decide_eq_false (fun e => b10 (congrArg Model.values e))
   | exact decide_eq_decide.2 ⟨fun e => by rw [e], fun e => by cases x; cases y; simp only [Model.mk.injEq]; exact ⟨b10, e⟩⟩
set_option maxRecDepth 20000
section
variable {c : Config} {m : Model} {p : Int} {o : Sl.Op} {q : Int}
theorem isModel_iff : isModel c m = true ↔ c.ok ∧ valOk c m.values = true ∧ (m.snapshots.length : Int) = c.threads ∧ ∀ l ∈ m.snapshots, (0 : Int) < l.length → valOk c l = true := by
 unfold isModel
 simp only [Bool.and_eq_true, decide_eq_true_eq, List.all_eq_true, Bool.or_eq_true, Bool.not_eq_true', decide_eq_false_iff_not]
 refine and_congr_right fun _ => and_congr_right fun _ => and_congr_right fun _ => forall_congr' fun l => forall_congr' fun _ => ?_
 exact Decidable.imp_iff_not_or.symm
theorem isModel_new (h : c.ok) : isModel c (newModel c) = true := by
 have hb := h
 unfold Config.ok at hb
 unfold newModel
 rw [if_pos h, isModel_iff]
 refine ⟨h, ?_, by simp; omega, fun l hl h0 => ?_⟩
 · unfold valOk
   simp only [Bool.and_eq_true, List.all_eq_true, decide_eq_true_eq, List.length_replicate]
   exact ⟨fun x hx => by obtain ⟨_, rfl⟩ := List.mem_replicate.1 hx; omega, by omega⟩
 · obtain ⟨_, rfl⟩ := List.mem_replicate.1 hl
   simp at h0
theorem mem_set_or {α : Type} {xs : List α} {i : Nat} {y x : α} (h : x ∈ xs.set i y) : x ∈ xs ∨ x = y := List.mem_or_eq_of_mem_set h
theorem isModel_apply (h : isModel c m = true) : isModel c (applyModel c m p o).1 = true := by
 obtain ⟨hok, hv, hs, hl⟩ := isModel_iff.1 h
 unfold applyModel
 repeat' split
 all_goals first
   | exact h
   | (refine isModel_iff.2 ⟨hok, hv, by simp only [List.length_set]; exact hs, fun l hm h0 => ?_⟩
      rcases mem_set_or hm with hm | rfl
      · exact hl l hm h0
      · first | exact hv | (simp at h0; done))
   | (refine isModel_iff.2 ⟨hok, ?_, hs, hl⟩
      unfold valOk at hv ⊢
      simp only [Bool.and_eq_true, List.all_eq_true, decide_eq_true_eq, List.length_set] at hv ⊢
      refine ⟨fun x hx => ?_, hv.2⟩
      rcases mem_set_or hx with hx | rfl
      · exact hv.1 x hx
      · rename_i hc _ _ _ _ _ _
        have ho := hc.2.1
        unfold Sl.Op.ok at ho
        omega)
end
section
variable {c : Config} {es : List Sl.Event}
/-- an order that is found can be replayed -/
theorem search_sound : ∀ (n : Nat) {used : List Bool} {m : Model} {order out : List Int}, search c es n used m order = some out → ∃ l u m', out = order ++ l ∧ replay c es l used m = some (u, m') ∧ allUsed es u = true
  | 0, used, m, order, out, h => by
    unfold search at h
    split at h
    · rename_i ha; cases h; exact ⟨[], used, m, by simp, rfl, ha⟩
    · cases h
  | n + 1, used, m, order, out, h => by
    unfold search at h
    split at h
    · rename_i ha; cases h; exact ⟨[], used, m, by simp, rfl, ha⟩
    · obtain ⟨i, hi, hf⟩ := List.exists_of_findSome?_eq_some h
      split at hf
      · rename_i h1
        split at hf
        · rename_i h2
          obtain ⟨l, u, m', e, hr, ha⟩ := search_sound n hf
          refine ⟨(i : Int) :: l, u, m', by rw [e]; simp, ?_, ha⟩
          simp only [replay]
          rw [if_pos h1, if_pos h2, Int.toNat_natCast]
          exact hr
        · cases hf
      · cases hf
/-- where an order can be replayed, one is found -/
theorem search_complete : ∀ (l : List Int) {n : Nat} {used u : List Bool} {m m' : Model} {order : List Int}, replay c es l used m = some (u, m') → allUsed es u = true → left used ≤ n → ∃ out, search c es n used m order = some out
  | [], n, used, u, m, m', order, h, ha, hn => by
    simp only [replay, Option.some.injEq, Prod.mk.injEq] at h
    obtain ⟨rfl, rfl⟩ := h
    cases n with
    | zero => unfold search; rw [if_pos ha]; exact ⟨_, rfl⟩
    | succ n => unfold search; rw [if_pos ha]; exact ⟨_, rfl⟩
  | i :: l, n, used, u, m, m', order, h, ha, hn => by
    simp only [replay] at h
    split at h
    · rename_i h1
      split at h
      · rename_i h2
        obtain ⟨k, rfl⟩ : ∃ k : Nat, i = (k : Int) := ⟨i.toNat, by have := mayGo_in h1; omega⟩
        have hfr := mayGo_free h1
        have hls := left_set hfr.2.2
        rw [Int.toNat_natCast] at h
        cases n with
        | zero => omega
        | succ n =>
          obtain ⟨out, ho⟩ := search_complete l (n := n) (order := order ++ [(k : Int)]) h ha (by omega)
          unfold search
          split
          · exact ⟨_, rfl⟩
          · refine Option.isSome_iff_exists.1 (List.findSome?_isSome_iff.2 ⟨k, by simpa using hfr.1, ?_⟩)
            rw [if_pos h1, if_pos h2, ho]; rfl
      · cases h
    · cases h
theorem isModel_ex {m : Model} {e : Sl.Event} (h : isModel c m = true) : isModel c (explains c m e).1 = true := by
 unfold explains
 repeat' split
 · exact isModel_apply h
 · exact h
 · exact h
theorem replay_model : ∀ (l : List Int) {used u : List Bool} {m m' : Model}, replay c es l used m = some (u, m') → isModel c m = true → isModel c m' = true
  | [], used, u, m, m', h, hm => by
    simp only [replay, Option.some.injEq, Prod.mk.injEq] at h
    obtain ⟨rfl, rfl⟩ := h; exact hm
  | i :: l, used, u, m, m', h, hm => by
    simp only [replay] at h
    split at h
    · split at h
      · exact replay_model l h (isModel_ex hm)
      · cases h
    · cases h
theorem replay_used : ∀ (l : List Int) {used u : List Bool} {m m' : Model} {k : Nat}, replay c es l used m = some (u, m') → at0 u (k : Int) = true → at0 used (k : Int) = true ∨ (k : Int) ∈ l
  | [], used, u, m, m', k, h, hk => by
    simp only [replay, Option.some.injEq, Prod.mk.injEq] at h
    obtain ⟨rfl, rfl⟩ := h; exact .inl hk
  | i :: l, used, u, m, m', k, h, hk => by
    simp only [replay] at h
    split at h
    · rename_i h1
      split at h
      · rcases replay_used l h hk with h3 | h3
        · have hi := mayGo_in h1
          by_cases e : i = (k : Int)
          · exact .inr (by rw [e]; exact List.mem_cons_self)
          · refine .inl ?_
            rwa [show at0 (used.set i.toNat true) (k : Int) = at0 used (k : Int) from by unfold at0; rw [List.getElem?_set_ne (by omega)]] at h3
        · exact .inr (List.mem_cons_of_mem _ h3)
      · cases h
    · cases h
theorem lin_found {out : List Int} (h : linearize c es = some out) : ∃ m, replayOrder c es out = (m, true) ∧ isModel c m = true ∧ ∀ k : Nat, k < es.length → 0 ≤ (at0 es (k : Int)).fin → (k : Int) ∈ out := by
 unfold linearize at h
 split at h
 · rename_i hc
   obtain ⟨l, u, m', e, hr, ha⟩ := search_sound _ h
   rw [List.nil_append] at e
   subst e
   refine ⟨m', ro_done hr hc.1 ha, replay_model _ hr (isModel_new hc.1), fun k hk hf => ?_⟩
   have h1 := List.all_eq_true.1 ha k (by simpa using hk)
   have h2 : at0 u (k : Int) = true := by
     rw [decide_eq_false (by omega)] at h1; simpa using h1
   rcases replay_used _ hr h2 with h3 | h3
   · unfold at0 at h3
     rw [Int.toNat_natCast, List.getElem?_replicate] at h3
     split at h3 <;> cases h3
   · exact h3
 · cases h
theorem lin_exists {o : List Int} (h : (replayOrder c es o).2 = true) (hl : es.length ≤ 10) : (linearize c es).isSome = true := by
 unfold replayOrder at h
 split at h
 · rename_i hc
   split at h
   · rename_i u m hr
     split at h
     · rename_i ha
       obtain ⟨out, ho⟩ := search_complete o (n := es.length) (order := []) hr ha (by rw [left_rep]; exact Nat.le_refl _)
       unfold linearize
       rw [if_pos ⟨hc, by omega⟩, ho]; rfl
     · cases h
   · cases h
 · cases h
end
section
variable {c : Config} {es : List Sl.Event} {o : List Int}
theorem lin_some (h : (linearize c es).isSome = true) : (replayOrder c es ((linearize c es).getD [])).2 = true ∧ isModel c (replayOrder c es ((linearize c es).getD [])).1 = true ∧ ∀ k : Nat, k < es.length → 0 ≤ (at0 es (k : Int)).fin → (k : Int) ∈ (linearize c es).getD [] := by
 obtain ⟨out, ho⟩ := Option.isSome_iff_exists.1 h
 obtain ⟨m, h1, h2, h3⟩ := lin_found ho
 rw [ho, Option.getD_some, h1]
 exact ⟨rfl, h2, h3⟩
theorem ro_lin (hl : es.length ≤ 10) : (!(replayOrder c es o).2 || (linearize c es).isSome) = true := by
 cases h : (replayOrder c es o).2
 · rfl
 · rw [lin_exists h hl]; rfl
end
theorem bl4 : Tryz.prog.underlying 4 = some .bool := by kernel_rfl
theorem en5 : enterB Tryz.prog 5 = true := by kernel_rfl
theorem en10 : enterB Tryz.prog 10 = true := by kernel_rfl
theorem en11 : enterB Tryz.prog 11 = true := by kernel_rfl
theorem en15 : enterB Tryz.prog 15 = true := by kernel_rfl
theorem en16 : enterB Tryz.prog 16 = true := by kernel_rfl
set_option maxRecDepth 20000
theorem has_c {W : World} {va : Value} {xs : List Int} {x : Int} (ha : intEK.Rd W va xs) : Calls Tryz.prog 14 #[va, vi x] W (Ret fun v w' => v = .bool (decide (x ∈ xs)) ∧ Below W.heap.size W w') := by
 refine cfr Tryz.func14 Tryz.ntmps14 fun a hF => ?_
 have hS := Sep.refl W
 obtain ⟨A_a, q_a, rfl, hq_a, hn_a⟩ := ha.sl; unfold maxLen at hn_a
 refine rg hF rfl fun a hF => wp_seq_k fun K2 hK2 => rg hF rfl fun a hF => wp_block <| wp_loop_g (σ := Nat) (fun k a w => k ≤ xs.length ∧ ¬ x ∈ xs.take k ∧ Sep W [] w ∧ Fr 18 [(5, vi k), (1, vi x), (0, .slice A_a xs.length q_a)] a) (fun k => xs.length - k) 0 ?_ ?_
 · exact ⟨Nat.zero_le _, by simp, hS, (((hF.nil.keep hF (t := 0) rfl).keep hF (t := 1) rfl).keep hF (t := 5) rfl)⟩
 rintro k a w ⟨hk, hn, hS, hF⟩
 refine wp_seq_k fun K4 hK4 => rg hF rfl fun a hF => ?_
 first | refine wc_dec (hF.ev rfl) (fun c9 => ?_) (fun c9 => ?_) | refine wc_ndec (hF.ev rfl) (fun c9 => ?_) (fun c9 => ?_) | refine wc_b (hF.ev rfl) (fun c9 => ?_) (fun c9 => ?_)
 ·
  have hlt : k < xs.length := by omega
  obtain ⟨y, hy⟩ : ∃ y, xs[k]? = some y := ⟨_, List.getElem?_eq_getElem hlt⟩
  refine wp_skip <| hK4 _ _ <| wp_seq_k fun K6 hK6 => wp_block <| ws fun K7 hK7 => ga 2 hF rfl fun a hF => ?_
  obtain ⟨g14, o14, m14, q14, hv14, hm14, hl14, hc14⟩ := Rd.idxF (hS.rd ha) hy
  refine wl hF rfl rfl rfl (r_index sl29 ((hF.ev rfl).trans hv14) (hF.ev rfl) (by omega) (by omega)) fun a hF => wl hF rfl rfl rfl (r_load1 sc3 (hF.ev rfl) (hc14 0 _ rfl)) fun a hF => ge hK7 hF rfl fun a hF => ?_
  first | refine wc_dec (hF.ev rfl) (fun c17 => ?_) (fun c17 => ?_) | refine wc_ndec (hF.ev rfl) (fun c17 => ?_) (fun c17 => ?_) | refine wc_b (hF.ev rfl) (fun c17 => ?_) (fun c17 => ?_)
  ·
   refine rg hF rfl fun a hF => ?_
   refine xr ?_
   refine ret1 rfl hF rfl ⟨congrArg Value.bool (Eq.symm ?_), hS.old⟩
   first | exact decide_eq_true (mem_at hy c17) | exact decide_eq_false (notin_all hn hk (by assumption))
  refine wp_skip ?_
  refine xt ?_
  refine hK6 _ _ <| rl hF rfl fun a hF => ?_
  refine xt ?_
  exact ⟨k + 1, ⟨by omega, notin_next hn hy c17, hS, (((hF.nil.keep hF (t := 0) rfl).keep hF (t := 1) rfl).keepE hF (t := 5) rfl (wk (by omega)))⟩, by omega⟩
 refine wp_exit ?_
 refine xt ?_
 refine hK2 _ _ <| rg hF rfl fun a hF => ?_
 refine xr ?_
 refine ret1 rfl hF rfl ⟨congrArg Value.bool (Eq.symm ?_), hS.old⟩
 first | exact decide_eq_true (mem_at hy c17) | exact decide_eq_false (notin_all hn hk (by assumption))
theorem big_c {W : World} {vb : Value} {bs : List Int} (hb : byteEK.Rd W vb bs) : Calls Tryz.prog 4 #[vb] W (Ret fun v w' => v = .bool (decide (1048576 < bs.length)) ∧ Below W.heap.size W w') := by
 refine cfr Tryz.func4 Tryz.ntmps4 fun a hF => ?_
 have hS := Sep.refl W
 obtain ⟨A_b, q_b, rfl, hq_b, hn_b⟩ := hb.sl; unfold maxLen at hn_b
 refine rg hF rfl fun a hF => rg hF rfl fun a hF => ?_
 refine xr ?_
 refine ret1 rfl hF rfl ⟨congrArg Value.bool (decide_eq_decide.2 (by omega)), hS.old⟩
theorem sameInts_c {W : World} {va vb : Value} {xs ys : List Int} (ha : intEK.Rd W va xs) (hb : intEK.Rd W vb ys) : Calls Tryz.prog 8 #[va, vb] W (Ret fun v w' => v = .bool (decide (xs = ys)) ∧ Below W.heap.size W w') := by
 refine cfr Tryz.func8 Tryz.ntmps8 fun a hF => ?_
 obtain ⟨A_a, q_a, rfl, hq_a, hn_a⟩ := ha.sl; unfold maxLen at hn_a
 obtain ⟨A_b, q_b, rfl, hq_b, hn_b⟩ := hb.sl; unfold maxLen at hn_b
 have hS := Sep.refl W
 refine rg hF rfl fun a hF => wp_seq_k fun K2 hK2 => rg hF rfl fun a hF => ?_
 first | refine wc_dec (hF.ev rfl) (fun c10 => ?_) (fun c10 => ?_) | refine wc_ndec (hF.ev rfl) (fun c10 => ?_) (fun c10 => ?_) | refine wc_b (hF.ev rfl) (fun c10 => ?_) (fun c10 => ?_)
 ·
  refine rg hF rfl fun a hF => ?_
  refine xr ?_
  refine ret1 rfl hF rfl ⟨?_, hS.old⟩
  first | exact eq_len c10 | exact eq_at hx hy c25 | exact eq_all htk hk hlen (by omega)
 refine wp_skip <| hK2 _ _ <| wp_seq_k fun K5 hK5 => rg hF rfl fun a hF => wp_block <| wp_loop_g (σ := Nat) (fun k a w => k ≤ xs.length ∧ xs.length = ys.length ∧ xs.take k = ys.take k ∧ Sep W [] w ∧ Fr 26 [(5, vi k), (0, .slice A_a xs.length q_a), (1, .slice A_b ys.length q_b)] a) (fun k => xs.length - k) 0 ?_ ?_
 · exact ⟨Nat.zero_le _, by omega, rfl, hS, (((hF.nil.keep hF (t := 1) rfl).keep hF (t := 0) rfl).keep hF (t := 5) rfl)⟩
 rintro k a w ⟨hk, hlen, htk, hS, hF⟩
 refine wp_seq_k fun K7 hK7 => rg hF rfl fun a hF => ?_
 first | refine wc_dec (hF.ev rfl) (fun c14 => ?_) (fun c14 => ?_) | refine wc_ndec (hF.ev rfl) (fun c14 => ?_) (fun c14 => ?_) | refine wc_b (hF.ev rfl) (fun c14 => ?_) (fun c14 => ?_)
 ·
  have hlt : k < xs.length := by omega
  obtain ⟨x, hx⟩ : ∃ x, xs[k]? = some x := ⟨_, List.getElem?_eq_getElem hlt⟩
  obtain ⟨y, hy⟩ : ∃ y, ys[k]? = some y := ⟨_, List.getElem?_eq_getElem (by omega)⟩
  refine wp_skip <| hK7 _ _ <| wp_seq_k fun K9 hK9 => wp_block <| wp_seq_k fun K10 hK10 => wp_region_calm (by kernel_rfl) (by kernel_rfl) <| qa 2 hF tk rfl fun a hF => ?_
  obtain ⟨g19, o19, m19, q19, hv19, hm19, hl19, hc19⟩ := Rd.idxF (hS.rd ha) hx
  refine wq hF rfl rfl rfl (fun w_ hB_ => r_index sl29 ((hF.ev rfl).trans hv19) (hF.ev rfl) (by omega) (by omega)) fun a hF => wq hF rfl rfl rfl (fun w_ hB_ => r_load1 sc3 (hF.ev rfl) (cellB hB_ (hc19 0 _ rfl))) fun a hF => qa 2 hF tk rfl fun a hF => ?_
  obtain ⟨g23, o23, m23, q23, hv23, hm23, hl23, hc23⟩ := Rd.idxF (hS.rd hb) hy
  refine wq hF rfl rfl rfl (fun w_ hB_ => r_index sl29 ((hF.ev rfl).trans hv23) (hF.ev rfl) (by omega) (by omega)) fun a hF => wq hF rfl rfl rfl (fun w_ hB_ => r_load1 sc3 (hF.ev rfl) (cellB hB_ (hc23 0 _ rfl))) fun a hF => qa 1 hF tk rfl fun a hF => ?_
  refine wpQuiet_nil ?_; intro w1 hB_; have hS := hS.ext hB_
  refine hK10 _ _ ?_
  first | refine wc_dec (hF.ev rfl) (fun c25 => ?_) (fun c25 => ?_) | refine wc_ndec (hF.ev rfl) (fun c25 => ?_) (fun c25 => ?_) | refine wc_b (hF.ev rfl) (fun c25 => ?_) (fun c25 => ?_)
  ·
   refine rg hF rfl fun a hF => ?_
   refine xr ?_
   refine ret1 rfl hF rfl ⟨?_, hS.old⟩
   first | exact eq_len c10 | exact eq_at hx hy c25 | exact eq_all htk hk hlen (by omega)
  refine wp_skip ?_
  refine xt ?_
  refine hK9 _ _ <| rl hF rfl fun a hF => ?_
  refine xt ?_
  exact ⟨k + 1, ⟨by omega, hlen, take_next htk hx hy c25, hS, (((hF.nil.keep hF (t := 1) rfl).keep hF (t := 0) rfl).keepE hF (t := 5) rfl (wk (by omega)))⟩, by omega⟩
 refine wp_exit ?_
 refine xt ?_
 refine hK5 _ _ <| rg hF rfl fun a hF => ?_
 refine xr ?_
 refine ret1 rfl hF rfl ⟨?_, hS.old⟩
 first | exact eq_len c10 | exact eq_at hx hy c25 | exact eq_all htk hk hlen (by omega)
theorem law_FnLinearizations {W : World} {vb : Value} {bs : List Int} (hb : byteEK.Rd W vb bs) : Calls Tryz.prog 3 #[vb] W (Ret fun v w' => v = .bool true ∧ Below W.heap.size W w') := by
 refine cfr Tryz.func3 Tryz.ntmps3 fun a hF => ?_
 have hS := Sep.refl W
 refine rg hF rfl fun a hF => wp_seq_k fun K2 hK2 => ws fun K3 hK3 => ga 1 hF rfl fun a hF => ckr hF hS rfl (big_c (hS.rd hb)) fun w1 a hS hF => wl_nil <| hK3 _ _ <| cx 25 hF rfl (fun c25 hF => ?_) fun c25 hF => ?_
 ·
  refine rg hF rfl fun a hF => ?_
  refine xr ?_
  exact ret1 rfl hF rfl ⟨rfl, hS.old⟩
 refine wp_skip <| hK2 _ _ <| ws fun K5 hK5 => ga 1 hF rfl fun a hF => ?_
 refine wl_mk hF hS rfl rfl rfl (r_call1 en5 (hF.ev rfl)) (drawLinearize_c (hS.rd hb) (by omega)) ?_; rintro ⟨⟨⟨c28, es28⟩, q28⟩, hc28, hw28, hz28⟩ w2 a hS_ hF; replace hS := hS_; clear hS_; dsimp only [List.cons_append, List.nil_append] at hS
 try dsimp only at hz28
 have hln28 := hS.own_len (q := 0) rfl
 try dsimp only at hln28
 refine ga 3 hF rfl fun a hF => wl_alloc hF hS rfl zr25 fun g1 w3 a hS _ hF => ?_
 refine wl_storen (cs' := [_, _, _, _, _, _]) hF hS (i := 0) rfl (hF.ev rfl) (hF.ev rfl) sz25 ⟨rfl, rfl⟩ rfl rfl fun w4 hS => ?_; dsimp only [List.set] at hS
 refine ge hK5 hF rfl fun a hF => ws fun K6 hK6 => gB 2 0 hF hS rfl rfl rfl fun a hF => ?_
 refine wl_mk hF hS rfl rfl rfl (r_call2 en6 (hF.ev rfl) (hF.ev rfl)) (implLinearize_c (hS.own_rd (i := 1) rfl)) ?_; rintro s34 w5 a hS_ hF; replace hS := hS_; clear hS_; dsimp only [List.cons_append, List.nil_append] at hS
 refine ge hK6 hF rfl fun a hF => ws fun K7 hK7 => gB 2 1 hF hS rfl rfl rfl fun a hF => ?_
 refine wl_mk hF hS rfl rfl rfl (r_call2 en7 (hF.ev rfl) (hF.ev rfl)) (specLinearize_c (hS.own_rd (i := 2) rfl)) ?_; rintro s40 w6 a hS_ hF; replace hS := hS_; clear hS_; dsimp only [List.cons_append, List.nil_append] at hS
 refine ge hK7 hF rfl fun a hF => wp_seq_k fun K8 hK8 => ws fun K9 hK9 => ga 2 hF rfl fun a hF => wl hF rfl rfl rfl (r_neqb bl4 (hF.ev rfl) (hF.ev rfl)) fun a hF => ga 1 hF rfl fun a hF => ?_
 apply wo 5 46 51 hF hS
 ·
  intro hg46 a hF
  refine ga 2 hF rfl fun a hF => ckr hF hS rfl (sameInts_c (hS.own_rd (i := 1) rfl) (hS.own_rd (i := 0) rfl)) fun w7 a hS hF => ?_
  exact je 5 hF hS rfl rfl rfl rfl
 intro a w8 hF hS
 refine ga 1 hF rfl fun a hF => ?_
 apply wo 6 52 58 hF hS
 ·
  intro hg52 a hF
  refine gB 2 2 hF hS rfl rfl rfl fun a hF => ckr hF hS rfl (implIsLin_c (hS.own_rd (i := 3) rfl)) fun w9 a hS hF => ga 1 hF rfl fun a hF => wl_take hF rfl rfl rfl rfl <| wl hF rfl rfl rfl (r_neqb bl4 (hF.ev rfl) (hF.ev rfl)) fun a hF => ?_
  exact je 6 hF hS rfl rfl rfl rfl
 intro a w10 hF hS
 refine wl_nil <| hK9 _ _ <| cx 58 hF rfl (fun c58 hF => ?_) fun c58 hF => ?_
 ·
  exfalso; simp at c58
 refine wp_skip <| hK8 _ _ <| wp_cut (fun a w => Sep W (Box g1 c28.enc :: Own eventEK (sv q28) es28 :: Own intEK (sv s34) ((linearize c28 es28).getD []) :: []) w ∧ Fr 167 [(0, vb), (3, .pointer (some ⟨g1, 0, none⟩)), (4, sv q28), (5, sv s34), (6, .bool (linearize c28 es28).isSome)] a) ?_ ?_
 ·
  refine rg hF rfl fun a hF => cx 59 hF rfl (fun c59 hF => ?_) fun c59 hF => ?_
  ·
   have hls := lin_some c59
   refine ws fun K11 hK11 => gB 3 2 hF hS rfl rfl rfl fun a hF => ?_
   refine wl_mk hF hS rfl rfl rfl (r_call3 en10 (hF.ev rfl) (hF.ev rfl) (hF.ev rfl)) (implReplay_c (hS.own_rd (i := 3) rfl) (hS.own_rd (i := 1) rfl) (by omega)) ?_; rintro vs64 w11 a hS_ hF; replace hS := hS_; clear hS_; dsimp only [List.cons_append, List.nil_append] at hS
   refine ga 3 hF rfl fun a hF => wl_alloc hF hS rfl zr36 fun g2 w12 a hS _ hF => ww 0 hF hS rfl rfl rfl rfl rfl rfl fun w13 hS => ge hK11 hF rfl fun a hF => ws fun K12 hK12 => gB 3 4 hF hS rfl rfl rfl fun a hF => ?_
   refine wl_mk hF hS rfl rfl rfl (r_call3 en11 (hF.ev rfl) (hF.ev rfl) (hF.ev rfl)) (specReplay_c (hS.own_rd (i := 5) rfl) (hS.own_rd (i := 3) rfl) (by omega)) ?_; rintro vs71 w14 a hS_ hF; replace hS := hS_; clear hS_; dsimp only [List.cons_append, List.nil_append] at hS
   refine ga 3 hF rfl fun a hF => wl_alloc hF hS rfl zr36 fun g3 w15 a hS _ hF => ww 0 hF hS rfl rfl rfl rfl rfl rfl fun w16 hS => ge hK12 hF rfl fun a hF => ws fun K13 hK13 => ga 3 hF rfl fun a hF => ?_
   apply wo 3 76 79 hF hS
   ·
    intro hg76 a hF
    exact je 3 hF hS rfl rfl rfl rfl
   intro a w17 hF hS
   refine ga 1 hF rfl fun a hF => ?_
   apply wo 5 80 85 hF hS
   ·
    intro hg80 a hF
    refine gB 1 2 hF hS rfl rfl rfl fun a hF => wl_take hF rfl rfl rfl rfl <| gB 1 0 hF hS rfl rfl rfl fun a hF => ckr hF hS rfl (implEqualModels_c (hS.part_k (i := 3) rfl) (hS.part_k (i := 1) rfl)) fun w18 a hS hF => ?_
    exact je 5 hF hS rfl rfl rfl rfl
   intro a w19 hF hS
   refine ga 1 hF rfl fun a hF => ?_
   apply wo 5 86 91 hF hS
   ·
    intro hg86 a hF
    refine gB 1 6 hF hS rfl rfl rfl fun a hF => wl_take hF rfl rfl rfl rfl <| gB 1 2 hF hS rfl rfl rfl fun a hF => ckr hF hS rfl (implIsModel_c (hS.part_k (i := 3) rfl)) fun w20 a hS hF => ?_
    exact je 5 hF hS rfl rfl rfl rfl
   intro a w21 hF hS
   refine wl_nil <| hK13 _ _ <| cx 91 hF rfl (fun c91 hF => ?_) fun c91 hF => ?_
   ·
    exfalso; simp [hls.1, hls.2.1] at c91
   refine wp_skip ?_
   refine xt ?_
   exact ⟨hS.pick [6, 7, 5] (by decide) rfl, (((((hF.nil.keepE hF (t := 6) rfl rfl).keepE hF (t := 5) rfl rfl).keepE hF (t := 4) rfl rfl).keepE hF (t := 3) rfl rfl).keepE hF (t := 0) rfl rfl)⟩
  refine wp_skip ?_
  refine xt ?_
  exact ⟨hS.pick [2, 3, 1] (by decide) rfl, (((((hF.nil.keepE hF (t := 6) rfl rfl).keepE hF (t := 5) rfl rfl).keepE hF (t := 4) rfl rfl).keepE hF (t := 3) rfl rfl).keepE hF (t := 0) rfl rfl)⟩
 rintro a w22 ⟨hS, hF⟩
 refine wp_seq_k fun K14 hK14 => rg hF rfl fun a hF => wp_block ?_
 have hL_ := ((((hF.nil.keep hF (t := 6) rfl).keep hF (t := 5) rfl).keep hF (t := 4) rfl).keep hF (t := 0) rfl)
 refine wp_loop_r (σ := Nat) (fun k L_ => (13, vi k) :: L_) (fun k => (k ≤ es28.length)) (fun k => es28.length - k) 0 hS (hL_.keepE hF (t := 13) rfl rfl) ?_ ?_
 · exact Nat.zero_le _
 rintro k a w23 hk hS hF; try dsimp only at hF; try dsimp only at hS
 refine wp_seq_k fun K16 hK16 => ws fun K17 hK17 => ga 5 hF rfl fun a hF => ?_
 apply wa 2 96 98 hF hS
 ·
  intro hg96 a hF
  exact je 2 hF hS rfl rfl rfl rfl
 intro a w24 hF hS
 refine wl_nil <| hK17 _ _ <| cx 98 hF rfl (fun c98 hF => ?_) fun c98 hF => ?_
 ·
  refine wp_skip <| hK16 _ _ <| wp_seq_k fun K18 hK18 => wp_block <| ws fun K19 hK19 => ga 2 hF rfl fun a hF => ?_
  obtain ⟨g103, o103, m103, q103, hv103, hm103, hl103, hc103⟩ := Rd.atF ((hS.own_rd (i := 1) rfl)) (a := a) (X := .tmp 102) (hF.ev rfl) (by omega) (by omega)
  refine wl hF rfl rfl rfl (r_index sl26 ((hF.ev rfl).trans hv103) (hF.ev rfl) (by omega) (by first | omega | (simp at hm103; omega))) fun a hF => ?_
  refine ga 1 hF rfl fun a hF => wl hF rfl rfl rfl (r_load1 sc3 (hF.ev rfl) (hc103 7 _ rfl)) fun a hF => ga 2 hF rfl fun a hF => ?_
  apply wa 5 107 112 hF hS
  ·
   intro hg107 a hF
   refine ga 2 hF rfl fun a hF => ckr hF hS rfl (has_c (hS.own_rd (i := 2) rfl)) fun w25 a hS hF => ?_
   exact je 5 hF hS rfl rfl rfl rfl
  intro a w26 hF hS
  refine wl_nil <| hK19 _ _ <| cx 112 hF rfl (fun c112 hF => ?_) fun c112 hF => ?_
  ·
   exfalso; exact c112.2 ((lin_some c98.2).2.2 k (by omega) c112.1)
  refine wp_skip ?_
  refine xt ?_
  refine hK18 _ _ <| rl hF rfl fun a hF => ?_
  refine xt ?_
  refine ⟨k + 1, (by omega), hS, (((((hF.nil.keep hF (t := 6) rfl).keep hF (t := 5) rfl).keep hF (t := 4) rfl).keep hF (t := 0) rfl).keepE hF (t := 13) rfl (wk (by omega))), by omega⟩
 refine wp_exit ?_
 refine xt ?_
 refine hK14 _ _ <| ws fun K20 hK20 => ga 1 hF rfl fun a hF => ?_
 refine wl_mk hF hS rfl rfl rfl (r_call1 en15 (hF.ev rfl)) (drawReplayOrder_c (hS.rd hb) (by omega)) ?_; rintro ⟨⟨⟨c115, es115⟩, q115, os115, p115⟩, hc115, hz115⟩ w27 a hS_ hF; replace hS := hS_; clear hS_; dsimp only [List.cons_append, List.nil_append] at hS
 try dsimp only at hz115
 have hln115 := hS.own_len (q := 0) rfl
 try dsimp only at hln115
 refine ga 4 hF rfl fun a hF => wl_alloc hF hS rfl zr25 fun g4 w28 a hS _ hF => ?_
 refine wl_storen (cs' := [_, _, _, _, _, _]) hF hS (i := 0) rfl (hF.ev rfl) (hF.ev rfl) sz25 ⟨rfl, rfl⟩ rfl rfl fun w29 hS => ?_; dsimp only [List.set] at hS
 refine ge hK20 hF rfl fun a hF => ws fun K21 hK21 => gB 3 0 hF hS rfl rfl rfl fun a hF => ?_
 refine wl_mk hF hS rfl rfl rfl (r_call3 en10 (hF.ev rfl) (hF.ev rfl) (hF.ev rfl)) (implReplay_c (hS.own_rd (i := 1) rfl) (hS.own_rd (i := 2) rfl) (by omega)) ?_; rintro vs123 w30 a hS_ hF; replace hS := hS_; clear hS_; dsimp only [List.cons_append, List.nil_append] at hS
 refine ga 3 hF rfl fun a hF => wl_alloc hF hS rfl zr36 fun g5 w31 a hS _ hF => ww 0 hF hS rfl rfl rfl rfl rfl rfl fun w32 hS => ge hK21 hF rfl fun a hF => ws fun K22 hK22 => gB 3 2 hF hS rfl rfl rfl fun a hF => ?_
 refine wl_mk hF hS rfl rfl rfl (r_call3 en11 (hF.ev rfl) (hF.ev rfl) (hF.ev rfl)) (specReplay_c (hS.own_rd (i := 3) rfl) (hS.own_rd (i := 4) rfl) (by omega)) ?_; rintro vs130 w33 a hS_ hF; replace hS := hS_; clear hS_; dsimp only [List.cons_append, List.nil_append] at hS
 refine ga 3 hF rfl fun a hF => wl_alloc hF hS rfl zr36 fun g6 w34 a hS _ hF => ww 0 hF hS rfl rfl rfl rfl rfl rfl fun w35 hS => ge hK22 hF rfl fun a hF => ws fun K23 hK23 => ga 1 hF rfl fun a hF => ?_
 refine wl_mk hF hS rfl rfl rfl (r_call1 en16 (hF.ev rfl)) (drawMayGoNext_c (hS.rd hb) (by omega)) ?_; rintro ⟨⟨es135, q135⟩, ⟨us135, p135⟩, k135⟩ w36 a hS_ hF; replace hS := hS_; clear hS_; dsimp only [List.cons_append, List.nil_append] at hS
 refine ge hK23 hF rfl fun a hF => ws fun K24 hK24 => ga 2 hF rfl fun a hF => wl hF rfl rfl rfl (r_eqlb bl4 (hF.ev rfl) (hF.ev rfl)) fun a hF => ga 1 hF rfl fun a hF => ?_
 apply wa 4 142 146 hF hS
 ·
  intro hg142 a hF
  refine gB 1 4 hF hS rfl rfl rfl fun a hF => wl_take hF rfl rfl rfl rfl <| gB 1 2 hF hS rfl rfl rfl fun a hF => ckr hF hS rfl (implEqualModels_c (hS.part_k (i := 5) rfl) (hS.part_k (i := 3) rfl)) fun w37 a hS hF => ?_
  exact je 4 hF hS rfl rfl rfl rfl
 intro a w38 hF hS
 refine ga 1 hF rfl fun a hF => ?_
 apply wa 8 147 155 hF hS
 ·
  intro hg147 a hF
  refine ga 3 hF rfl fun a hF => ?_
  apply wo 4 150 154 hF hS
  ·
   intro hg150 a hF
   refine gB 2 6 hF hS rfl rfl rfl fun a hF => ckr hF hS rfl (implIsLin_c (hS.own_rd (i := 7) rfl)) fun w39 a hS hF => ?_
   exact je 4 hF hS rfl rfl rfl rfl
  intro a w40 hF hS
  exact je 5 hF hS rfl rfl rfl rfl
 intro a w41 hF hS
 refine ga 1 hF rfl fun a hF => ?_
 apply wa 10 156 166 hF hS
 ·
  intro hg156 a hF
  refine ga 3 hF rfl fun a hF => ckr hF hS rfl (implMayGo_c (hS.own_rd (i := 0) rfl) (hS.own_rd (i := 1) rfl)) fun w42 a hS hF => ga 3 hF rfl fun a hF => ckr hF hS rfl (specMayGo_c (hS.own_rd (i := 0) rfl) (hS.own_rd (i := 1) rfl)) fun w43 a hS hF => wl_take hF rfl rfl rfl rfl <| wl hF rfl rfl rfl (r_eqlb bl4 (hF.ev rfl) (hF.ev rfl)) fun a hF => ?_
  exact je 10 hF hS rfl rfl rfl rfl
 intro a w44 hF hS
 refine ge hK24 hF rfl fun a hF => ?_
 refine xr ?_
 refine ret1 rfl hF rfl ⟨congrArg Value.bool ?_, hS.old⟩
 have hrl := ro_lin (c := c115) (es := es115) (o := os115) (by omega)
 simp [hrl]
end Go.Proofs.YtbgacfdnmbhloaaGreat.Wk
namespace Go.Proofs.YtbgacfdnmbhloaaGreat.Sl
open Go
/-- a row of signs, by their numbers -/
def ch (l : List Nat) : List Char := l.map Char.ofNat
/-- the blank -/
abbrev sp : Char := Char.ofNat 32
section
variable {P : Program} {h s : List Char} {X : List (List Char)}
theorem words_sp : ∀ (w r : List Char), sp ∉ w → wordsSigns (w ++ sp :: r) = w :: wordsSigns r
  | [], r, _ => rfl
  | c :: w, r, h => by
    have hc : c ≠ sp := fun e => h (e ▸ List.mem_cons_self)
    have ih := words_sp w r (fun e => h (List.mem_cons_of_mem _ e))
    rw [List.cons_append, wordsSigns.eq_3 _ _ (fun e => hc e), ih]
theorem strip_cut : stripLifts liftWords ("cut".toList :: X) = ([], "cut".toList :: X) := by kernel_rfl
theorem made_of (e : behindMainWord (wordsSigns P.initOrder.toList) = "cut".toList :: X) : P.make = some .cut := by
 unfold Program.make; rw [e]; rfl
theorem final_of (e : behindMainWord (wordsSigns P.initOrder.toList) = "cut".toList :: X) : P.liftsFinal = false := by
 unfold Program.liftsFinal Program.headLifts; rw [e]; dsimp only; rw [strip_cut]; rfl
theorem enter_of (e : behindMainWord (wordsSigns P.initOrder.toList) = "cut".toList :: X) (h1 : P.laysLater = false) (h2 : P.bearsReflect = false) (h3 : P.doorFits [] = true) : P.mayEnter = true := by
 unfold Program.mayEnter; rw [e]; dsimp only; rw [strip_cut, h1, h2, h3]; rfl
end
end Go.Proofs.YtbgacfdnmbhloaaGreat.Sl
namespace Go.Proofs.YtbgacfdnmbhloaaGreat
open Go Go.RowKit Sl Wk
set_option linter.unusedVariables false
set_option linter.unusedSimpArgs false
set_option maxRecDepth 20000
theorem op5 : Opens Tryz.prog 5 1 (fun _ n cs => cs = [.int .u8 n]) (fun _ => True) := opens_byte (by kernel_rfl) (by kernel_rfl)
theorem op22 : Opens Tryz.prog 22 1 (fun W xs cs => ∃ v, cs = [v] ∧ byteEK.Rd W v xs) (fun xs => ∀ x ∈ xs, (fun _ => True) x) := opens_slice op5 (by decide) (by kernel_rfl) (by kernel_rfl)
namespace fnLinearizations
open Go.ChangeShapes Go.WideShapes Go.ChangeAt Go.RowKit
theorem laidOut : laidOutB Tryz.prog = true := by kernel_rfl
theorem own : ownKnob Tryz.prog.godebug = none := by kernel_rfl
theorem lifted (os : Os) (started : os.Started) (H : Type) (enc : TypeId × Value → H) :
    ReturnsInHanded {} Tryz.checked os 3 .any (Rows.fnLinearizationsSpec.pre6 enc Tryz.prog Tryz.f3 Rows.fnLinearizationsRow.domain false) (Rows.fnLinearizationsSpec.post enc Tryz.prog Tryz.f3 false true false false) := by
  refine returnsInHanded_of_change_sized (C := Tryz.checked) own started (by kernel_rfl) Tryz.func3
    (ChangeSpec.witness6 (enc := enc) (C := Tryz.checked) false ⟨#[], #[.slice none 0 0], []⟩ 8 (by kernel_rfl) (by kernel_rfl) (by kernel_rfl) (by kernel_rfl)) ?_
  intro W base args ds gs before hval0 hW hcnd hsz0 _
  have hval : ∀ (j : Nat) t v, Tryz.f3.params[j]? = some t → args[j]? = some v → Value.okWide Tryz.prog W .any base t v := hval0
  have hW' := hW
  obtain ⟨p, q, hA0, hV, rfl, hfz, hnd⟩ := hW
  have hA : DataW.TrodAll enc Tryz.prog W 0 (fun _ => true) true Tryz.f3.params.toList args.toList ds p := hA0
  rw [Tryz.params3] at hA hval
  obtain ⟨v0, vs0, d0, ds0, p0, q0, hargs, rfl, rfl, h0, r0⟩ := trodAll_cons hA
  obtain ⟨rfl, rfl, rfl⟩ := trodAll_nil r0
  obtain rfl : args = #[v0] := by cases args; simp_all
  obtain ⟨rfl, rfl⟩ := trodVars_none hV
  have kk0 := h0
  have lt0 : ∀ x ∈ p0, x.block < W.heap.size := by obtain ⟨m, hm⟩ := kk0; exact DataW.trod_lt m _ _ _ hm
  obtain ⟨sa0, sl0, sc0, rfl⟩ := okWide_slice (by kernel_rfl : Tryz.prog.underlying 22 = some (.slice 5)) (hval 0 22 v0 rfl rfl)
  obtain ⟨m0, hm0⟩ := h0
  obtain ⟨x0, ⟨u0_0, e0, hr0⟩, _, ok0⟩ := (op22).2 _ _ _ _ _ _ _ hm0; clear hm0
  obtain rfl : Value.slice sa0 sl0 sc0 = u0_0 := by simpa [Value.cells] using e0
  clear hA0 hval0
  refine (law_FnLinearizations hr0).mono ?_
  rintro e W' ⟨v, rfl, rfl, bel⟩
  exact ⟨_, rfl, _, _, _, [], _, [], hW', trodAll_mk1 (shut_bool (by kernel_rfl : Tryz.prog.underlying 4 = some .bool) _), (trodAll_cons_mk (Below.trod laidOut (by kernel_rfl) (of_decide_eq_true (by kernel_rfl)) kk0 bel lt0) trodAll_mk0), rfl, bel.frame _, fun h => by cases h⟩
def restSigns : List Char := Sl.ch [97, 116, 32, 108, 111, 111, 112, 46, 101, 120, 97, 109, 112, 108, 101, 47, 103, 48, 49, 54, 50, 56, 47, 108, 97, 119, 115, 46, 70, 110, 76, 105, 110, 101, 97, 114, 105, 122, 97, 116, 105, 111, 110, 115]
theorem order : Tryz.pinned.checked.prog.initOrder = String.ofList (Sl.ch [104, 97, 114, 110, 101, 115, 115] ++ Sl.sp :: (Sl.ch [98, 101, 57, 52, 52, 98, 98, 101, 56, 102, 101, 56, 52, 97, 97, 54, 57, 97, 56, 57, 101, 97, 55, 97, 100, 56, 51, 98, 50, 49, 48, 101, 55, 52, 48, 55, 102, 54, 57, 50, 57, 99, 102, 97, 54, 50, 98, 56, 99, 54, 54, 101, 99, 100, 53, 53, 101, 50, 100, 52, 50, 51, 55, 98] ++ Sl.sp :: (Sl.ch [99, 117, 116] ++ Sl.sp :: restSigns))) := by kernel_rfl
theorem behind (X : List (List Char)) : behindMainWord (Sl.ch [104, 97, 114, 110, 101, 115, 115] :: Sl.ch [98, 101, 57, 52, 52, 98, 98, 101, 56, 102, 101, 56, 52, 97, 97, 54, 57, 97, 56, 57, 101, 97, 55, 97, 100, 56, 51, 98, 50, 49, 48, 101, 55, 52, 48, 55, 102, 54, 57, 50, 57, 99, 102, 97, 54, 50, 98, 56, 99, 54, 54, 101, 99, 100, 53, 53, 101, 50, 100, 52, 50, 51, 55, 98] :: Sl.ch [99, 117, 116] :: X) = "cut".toList :: X := by kernel_rfl
theorem heads : behindMainWord (wordsSigns Tryz.pinned.checked.prog.initOrder.toList) = "cut".toList :: wordsSigns restSigns := by
 rw [order, String.toList_ofList, Sl.words_sp _ _ (by decide), Sl.words_sp _ _ (by decide), Sl.words_sp _ _ (by decide)]; exact behind _
theorem facts : joinedFacts Tryz.pinned.checked.prog 3 Tryz.f3 Rows.fnLinearizationsSpec Rows.fnLinearizationsRow = true := by
 unfold joinedFacts; rw [Sl.enter_of heads (by kernel_rfl) (by kernel_rfl) (by kernel_rfl), Sl.final_of heads, Sl.made_of heads]; kernel_rfl
theorem over : Rows.fnLinearizationsRow.holds Tryz.pinned (OpenSpec.ofChange Rows.fnLinearizationsSpec) :=
  OpenClaim.holds_of_wide 3 Tryz.f3 rfl rfl rfl rfl rfl rfl rfl ⟨rfl, rfl, rfl, rfl, rfl⟩ rfl rfl rfl rfl rfl (by kernel_rfl) Tryz.func3 facts
    (of_decide_eq_true (by kernel_rfl)) (by unfold Func.isWrapper; first | (rw [if_pos (by decide +kernel)]; kernel_rfl) | (rw [if_neg (by decide +kernel)]; exact ⟨rfl, rfl⟩))
    (fun os started H enc _ => lifted os started H enc)
theorem proved : Rows.FnLinearizationsSaid := over
end fnLinearizations
/-- The row, under a short name. -/
theorem fnLinearizations_holds : Rows.FnLinearizationsSaid := fnLinearizations.proved
end Go.Proofs.YtbgacfdnmbhloaaGreat
