/- Lemmas for the row of RwLz. -/
import Derived.Test.YtbgacfdnmbhloaaGreatClzB
set_option maxHeartbeats 4000000
set_option maxRecDepth 20000
namespace Go.Proofs.YtbgacfdnmbhloaaGreat.Wk
open Go Go.RowKit Sl
set_option linter.unusedVariables false
set_option linter.unusedSimpArgs false
set_option maxRecDepth 20000
set_option maxRecDepth 20000
theorem specRefusal_c {W : World} {s : Sl.State} {cs : List Value} (hm : stateEK.K W s cs) (hw : s.wf) (hz : (s.size : Int) ≤ 1048576) {p : Int} {o : Sl.Op} (hp : int64 p) : Calls Tryz.prog 105 #[.agg cs.toArray, vi p, .agg o.enc.toArray] W (Ret fun v w' => v = vi (refusalOf s p o) ∧ Below W.heap.size W w') := by
 refine cfr Tryz.func105 Tryz.ntmps105 fun a hF => ?_
 have hS := Sep.refl W
 obtain ⟨v0, v1, v2, rfl, r0, r1, r2⟩ := hm
 have hm : stateEK.K W s (s.encv v0 v1 v2) := ⟨_, _, _, rfl, r0, r1, r2⟩
 obtain ⟨A_a, q_a, rfl, hq_a, hn_a⟩ := r0.sl; unfold maxLen at hn_a
 obtain ⟨A_b, q_b, rfl, hq_b, hn_b⟩ := r1.sl; unfold maxLen at hn_b
 obtain ⟨A_c, q_c, rfl, hq_c, hn_c⟩ := r2.sl; unfold maxLen at hn_c
 have hwl : IntKind.i64.wrap ((s.threads.length : Int) - 1) = s.threads.length - 1 := w64_id (by omega) (by omega)
 refine ws fun K1 hK1 => wl_box (cs := [_, _, _, _, _, _, _, _, _, _, _, _, _]) hF hS rfl (hF.ev rfl) rfl fun g1 w1 a hS _ hF => wl_box (cs := [_, _, _]) hF hS rfl (hF.ev rfl) rfl fun g2 w2 a hS _ hF => ge hK1 hF rfl fun a hF => wp_seq_k fun K2 hK2 => ws fun K3 hK3 => gB 1 1 hF hS rfl rfl rfl fun a hF => ?_
 refine ckr hF hS rfl (specIsState_c (hS.k hm) hw (by omega)) fun w3 a hS hF => ga 2 hF rfl fun a hF => ?_
 apply wo 8 11 19 hF hS
 ·
  intro hg11 a hF
  refine gB 5 1 hF hS rfl rfl rfl fun a hF => ckr hF hS rfl (l1In_c _ _ _) fun w4 a hS hF => ?_
  exact je 8 hF hS rfl rfl rfl rfl
 intro a w5 hF hS
 refine ga 1 hF rfl fun a hF => ?_
 apply wo 4 20 24 hF hS
 ·
  intro hg20 a hF
  refine gB 1 0 hF hS rfl rfl rfl fun a hF => ckr hF hS rfl (specIsOp_c _) fun w6 a hS hF => ?_
  exact je 4 hF hS rfl rfl rfl rfl
 intro a w7 hF hS
 refine wl_nil <| hK3 _ _ <| cx 24 hF rfl (fun c24 hF => ?_) fun c24 hF => ?_
 ·
  rw [hwl] at c24
  refine rg hF rfl fun a hF => ?_
  refine xr ?_
  refine ret1 rfl hF rfl ⟨congrArg vi (Eq.symm ?_), hS.old⟩
  unfold refusalOf
  first
    | (rw [if_pos ⟨c24.1.1, c24.1.2, c24.2⟩]; repeat' split
       all_goals omega)
    | exact if_neg (by
        rintro ⟨a, b, c⟩
        rcases c24 with (h | h) | h
        · rw [h] at a; cases a
        · exact h b
        · exact h c)
 rw [hwl] at c24
 have hsn := thread_snap (state_thread (p := p) c24.1.1 (by omega) (by omega))
 refine wp_skip <| hK2 _ _ <| ws fun K5 hK5 => gB 3 1 hF hS rfl rfl rfl fun a hF => ?_
 obtain ⟨g28, o28, m28, q28, cs28, hv28, hm28, hl28, hk28, hz28, hc28⟩ := Rd.at (r2) (a := a) (X := .tmp 27) (hF.ev rfl) (by omega) (by omega)
 have hkk28 := hk28; obtain ⟨v28_0, v28_1, v28_2, v28_3, v28_4, rfl, r28_0, r28_1, r28_2, r28_3, r28_4⟩ := hk28
 obtain ⟨A28_0, q28_0, rfl, hq28_0, hn28_0⟩ := r28_0.sl; unfold maxLen at hn28_0
 obtain ⟨A28_1, q28_1, rfl, hq28_1, hn28_1⟩ := r28_1.sl; unfold maxLen at hn28_1
 obtain ⟨A28_2, q28_2, rfl, hq28_2, hn28_2⟩ := r28_2.sl; unfold maxLen at hn28_2
 obtain ⟨A28_3, q28_3, rfl, hq28_3, hn28_3⟩ := r28_3.sl; unfold maxLen at hn28_3
 obtain ⟨A28_4, q28_4, rfl, hq28_4, hn28_4⟩ := r28_4.sl; unfold maxLen at hn28_4
 refine wl hF rfl rfl rfl (r_index sl73 ((hF.ev rfl).trans hv28) (hF.ev rfl) (by omega) (by first | omega | (simp at hm28; omega))) fun a hF => ?_
 refine wl hF rfl rfl rfl (r_loadn ag110 (hF.ev rfl) (fun j_ u_ hu_ => cellB hS.old (hc28 j_ u_ hu_)) sz110) fun a hF => wl_alloc hF hS rfl zr110 fun g3 w8 a hS _ hF => ww 0 hF hS rfl rfl rfl rfl rfl rfl fun w9 hS => wl_nil <| hK5 _ _ <| wp_seq_k fun K6 hK6 => wp_block <| ws fun K7 hK7 => ?_
 refine gB 4 1 hF hS rfl rfl rfl fun a hF => gf hK7 2 hF hS rfl rfl rfl fun a hF => cx 30 hF rfl (fun c30 hF => ?_) fun c30 hF => ?_
 ·
  refine rg hF rfl fun a hF => ?_
  refine xr ?_
  refine ret1 rfl hF rfl ⟨congrArg vi (Eq.symm ?_), hS.old⟩
  unfold refusalOf
  first
    | (rw [if_pos ⟨c24.1.1, c24.1.2, c24.2⟩]; repeat' split
       all_goals omega)
    | exact if_neg (by
        rintro ⟨a, b, c⟩
        rcases c24 with (h | h) | h
        · rw [h] at a; cases a
        · exact h b
        · exact h c)
 refine ws fun K9 hK9 => gB 4 1 hF hS rfl rfl rfl fun a hF => ?_
 apply wa 4 41 45 hF hS
 ·
  intro hg41 a hF
  exact jf 4 0 hF hS rfl rfl rfl rfl rfl rfl
 intro a w10 hF hS
 refine ge hK9 hF rfl fun a hF => cx 37 hF rfl (fun c37 hF => ?_) fun c37 hF => ?_
 ·
  refine rg hF rfl fun a hF => ?_
  refine xr ?_
  refine ret1 rfl hF rfl ⟨congrArg vi (Eq.symm ?_), hS.old⟩
  unfold refusalOf
  first
    | (rw [if_pos ⟨c24.1.1, c24.1.2, c24.2⟩]; repeat' split
       all_goals omega)
    | exact if_neg (by
        rintro ⟨a, b, c⟩
        rcases c24 with (h | h) | h
        · rw [h] at a; cases a
        · exact h b
        · exact h c)
 refine ws fun K11 hK11 => gB 4 1 hF hS rfl rfl rfl fun a hF => ?_
 apply wo 4 50 54 hF hS
 ·
  intro hg50 a hF
  exact jf 4 1 hF hS rfl rfl rfl rfl rfl rfl
 intro a w11 hF hS
 refine ga 1 hF rfl fun a hF => ?_
 apply wa 4 55 59 hF hS
 ·
  intro hg55 a hF
  exact jf 4 0 hF hS rfl rfl rfl rfl rfl rfl
 intro a w12 hF hS
 refine ge hK11 hF rfl fun a hF => cx 46 hF rfl (fun c46 hF => ?_) fun c46 hF => ?_
 ·
  refine rg hF rfl fun a hF => ?_
  refine xr ?_
  refine ret1 rfl hF rfl ⟨congrArg vi (Eq.symm ?_), hS.old⟩
  unfold refusalOf
  first
    | (rw [if_pos ⟨c24.1.1, c24.1.2, c24.2⟩]; repeat' split
       all_goals omega)
    | exact if_neg (by
        rintro ⟨a, b, c⟩
        rcases c24 with (h | h) | h
        · rw [h] at a; cases a
        · exact h b
        · exact h c)
 refine wp_skip ?_
 refine xt ?_
 refine hK6 _ _ <| rg hF rfl fun a hF => ?_
 refine xr ?_
 refine ret1 rfl hF rfl ⟨congrArg vi (Eq.symm ?_), hS.old⟩
 unfold refusalOf
 first
   | (rw [if_pos ⟨c24.1.1, c24.1.2, c24.2⟩]; repeat' split
      all_goals omega)
   | exact if_neg (by
       rintro ⟨a, b, c⟩
       rcases c24 with (h | h) | h
       · rw [h] at a; cases a
       · exact h b
       · exact h c)
theorem reading_c {W : World} {t : Sl.Thread} {cs : List Value} (hm : threadEK.K W t cs) : Calls Tryz.prog 119 #[.agg cs.toArray] W (Ret fun v w' => v = .bool (decide (t.op.kind = 2)) ∧ Below W.heap.size W w') := by
 refine cfr Tryz.func119 Tryz.ntmps119 fun a hF => ?_
 have hS := Sep.refl W
 obtain ⟨v0, v1, v2, v3, v4, rfl, r0, r1, r2, r3, r4⟩ := hm
 have hm : threadEK.K W t (t.encv v0 v1 v2 v3 v4) := ⟨_, _, _, _, _, rfl, r0, r1, r2, r3, r4⟩
 refine ws fun K1 hK1 => wl_box (cs := [_, _, _, _, _, _, _, _, _, _, _, _, _, _, _, _, _, _, _]) hF hS rfl (hF.ev rfl) rfl fun g1 w1 a hS _ hF => ge hK1 hF rfl fun a hF => rh 0 hF hS rfl rfl rfl fun a hF => ?_
 refine xr ?_
 exact ret1 rfl hF rfl ⟨rfl, hS.old⟩
set_option maxRecDepth 20000
variable {tl : List Value}
def faultN (s : Sl.State) (h : Int) : Int := if curB s.config s.generations h = true then s.faults else IntKind.i64.wrap (s.faults + 1)
def prevS (s : Sl.State) (t : Sl.Thread) : Sl.State := { s with faults := if t.prev = 0 then s.faults else faultN s t.prev }
def prevCell (s : Sl.State) (t : Sl.Thread) : Int := if t.prev = 0 then headCell s.config (walkKey t) else cellOf s t.prev 2
def goT (t : Sl.Thread) : Sl.Thread :=
  if t.curr = 0 then
  if t.op.kind = 2 then { t with result := ⟨1, 0⟩, pc := 20 }
  else if (0 : Int) < t.work.length then { t with limbo := t.limbo ++ [(at0 t.work 0).handle], work := t.work.drop 1, pc := if (0 : Int) < (t.work.drop 1).length then 60 else 62 }
  else { t with pc := 62 }
  else { t with pc := 11 }
def walkS (s : Sl.State) (t : Sl.Thread) (p : Int) : Sl.State × Sl.Thread :=
  if t.pc = 10 then (s, goT { t with prev := 0, curr := unmarked (loadC s.cells (headCell s.config (walkKey t))) })
  else if t.pc = 11 then (putS s (hazardCell s.config p 0) t.curr, { t with pc := 12 })
  else if t.pc = 12 then
    if loadC s.cells (prevCell s t) = t.curr then (prevS s t, { t with pc := 13 }) else ({ prevS s t with retries := IntKind.i64.wrap (s.retries + 1) }, { t with pc := 10 })
  else if t.pc = 13 then
    (faultS s t.curr, { t with next := loadC s.cells (cellOf s t.curr 2), pc := if isMarked (loadC s.cells (cellOf s t.curr 2)) = true then 14 else if t.op.kind = 2 then 16 else 15 })
  else if t.pc = 14 then
    if hitB s.cells (prevCell s t) t.curr = true then (swapS (prevS s t) (prevCell s t) t.curr (unmarked t.next), goT { t with curr := unmarked t.next })
    else ({ swapS (prevS s t) (prevCell s t) t.curr (unmarked t.next) with retries := IntKind.i64.wrap (s.retries + 1) }, { t with pc := 10 })
  else if t.pc = 15 then (putS s (hazardCell s.config p 1) t.curr, goT { t with prev := t.curr, curr := unmarked t.next })
  else (s, t)
def isW (n : Int) : Bool := decide (10 ≤ n ∧ n ≤ 15)
theorem l9LoadR_c {W : World} {u0 u1 u2 u3 u4 u5 va : Value} {xs : List Int} {g : Nat} (hc : ∀ j u, [u0, u1, u2, u3, u4, u5, va][j]? = some u → W.cell? ⟨g, 0 + j, none⟩ = some u) (hr : intEK.Rd W va xs) {a_ : Int} : Calls Tryz.prog 114 #[.pointer (some ⟨g, 0, none⟩), vi a_] W (Ret fun v w' => v = vi (loadC xs a_) ∧ Below W.heap.size W w') := by
 refine cfr Tryz.func114 Tryz.ntmps114 fun a hF => ?_
 have hS := Sep.refl W
 obtain ⟨A_a, q_a, rfl, hq_a, hn_a⟩ := hr.sl; unfold maxLen at hn_a
 refine rg hF rfl fun a hF => wp_seq_k fun K2 hK2 => ws fun K3 hK3 => ga 3 hF rfl fun a hF => ?_
 apply wo 8 7 15 hF hS
 ·
  intro hg7 a hF
  refine ga 4 hF rfl fun a hF => wl_take hF rfl rfl rfl rfl <| wl hF rfl rfl rfl (r_load1 sc29 (hF.ev rfl) (cellB hS.old (hc 6 _ rfl))) fun a hF => ?_
  exact je 8 hF hS rfl rfl rfl rfl
 intro a w1 hF hS
 refine wl_nil <| hK3 _ _ <| cx 15 hF rfl (fun c15 hF => ?_) fun c15 hF => ?_
 ·
  refine rg hF rfl fun a hF => ?_
  refine xr ?_
  first
    | (refine ret1 rfl hF rfl ⟨congrArg vi (Eq.symm (if_neg (by omega))), hS.old⟩)
    | (refine ret1 rfl hF rfl ⟨congrArg vi (Eq.symm (if_pos (by omega))), hS.old⟩)
 refine wp_skip <| hK2 _ _ <| ws fun K5 hK5 => ga 3 hF rfl fun a hF => wl hF rfl rfl rfl (r_load1 sc29 (hF.ev rfl) (cellB hS.old (hc 6 _ rfl))) fun a hF => ga 1 hF rfl fun a hF => ?_
 obtain ⟨g21, o21, m21, q21, hv21, hm21, hl21, hc21⟩ := Rd.atF (hr) (a := a) (X := .tmp 20) (hF.ev rfl) (by omega) (by omega)
 refine wl hF rfl rfl rfl (r_index sl29 ((hF.ev rfl).trans hv21) (hF.ev rfl) (by omega) (by first | omega | (simp at hm21; omega))) fun a hF => ?_
 refine wl hF rfl rfl rfl (r_load1 sc3 (hF.ev rfl) (cellB hS.old (hc21 0 _ rfl))) fun a hF => ge hK5 hF rfl fun a hF => ?_
 refine xr ?_
 first
   | (refine ret1 rfl hF rfl ⟨congrArg vi (Eq.symm (if_neg (by omega))), hS.old⟩)
   | (refine ret1 rfl hF rfl ⟨congrArg vi (Eq.symm (if_pos (by omega))), hS.old⟩)
theorem l12Prev_c {W w : World} {l : List Res} {g gt ot mt ct p : Nat} {v0 : Value} {z1 : Slv} {s : Sl.State} {ts : List Sl.Thread} {t : Sl.Thread} (hp : p < ts.length) (hh : int64 t.prev) (hg : (s.generations.length : Int) = s.config.capacity) (hS : Sep W (Own threadEK (.slice (some ⟨gt, ot, none⟩) mt ct) (ts.set p (t)) :: Box g ((s).encw tl v0 (sv z1) (.slice (some ⟨gt, ot, none⟩) mt ct)) :: Own intEK (sv z1) s.generations :: l) w) : Calls Tryz.prog 115 #[.pointer (some ⟨g, 0, none⟩), vi (p : Int)] w (Ret fun v w' => v = vi (prevCell s t) ∧ Sep W (Own threadEK (.slice (some ⟨gt, ot, none⟩) mt ct) (ts.set p (t)) :: Box g ((prevS s t).encw tl v0 (sv z1) (.slice (some ⟨gt, ot, none⟩) mt ct)) :: Own intEK (sv z1) s.generations :: l) w') := by
 refine cfr Tryz.func115 Tryz.ntmps115 fun a hF => ?_
 have hmt := hS.own_len (s := (some ⟨gt, ot, none⟩, mt, ct)) (q := 0) rfl
 simp only [List.length_set] at hmt
 obtain ⟨A0_, A1_, A2_, A3_, A4_, k0_, k1_, k2_, k3_, k4_, ⟨n0_, n1_, n2_, n3_, n4_⟩, ⟨q0_, q1_, q2_, q3_, q4_⟩, hS_⟩ := Sep.thr_lend hS hp; replace hS := hS_; clear hS_; unfold maxLen at n0_ n1_ n2_ n3_ n4_; try dsimp only at n0_ n1_ n2_ n3_ n4_ q0_ q1_ q2_ q3_ q4_
 dsimp only [Thread.encv] at hS
 refine rg hF rfl fun a hF => ws fun K2 hK2 => gB 5 6 hF hS rfl rfl rfl fun a hF => wl hF rfl rfl rfl (r_index sl73 (hF.ev rfl) (hF.ev rfl) (by omega) (by omega)) fun a hF => wl hF rfl rfl rfl (r_loadn ag110 (hF.ev rfl) (hS.butn (vs := [_, _, _, _, _, _, _, _, _, _, _, _, _, _, _, _, _, _, _]) (q := 5) (j := 0) (k := 19) rfl rfl) sz110) fun a hF => wl_alloc hF hS rfl zr110 fun g1 w1 a hS _ hF => ww 0 hF hS rfl rfl rfl rfl rfl rfl fun w2 hS => ?_
 refine wl_nil <| hK2 _ _ <| wp_seq_k fun K3 hK3 => rh 0 hF hS rfl rfl rfl fun a hF => cx 16 hF rfl (fun c16 hF => ?_) fun c16 hF => ?_
 ·
  refine ws fun K5 hK5 => gB 3 0 hF hS rfl rfl rfl fun a hF => ?_
  replace hS := hS.pm 9 [7, 8, 0, 1, 2, 3, 4, 5, 6] rfl
  refine ck hF rfl (l9Cell_c (s := s) hh hg hS) ?_; rintro v w3 a ⟨rfl, hS⟩ hF
  refine ge hK5 hF rfl fun a hF => ?_
  refine xr ?_
  have e1 : prevCell s t = _ := if_neg c16; have e2 : (if t.prev = 0 then s.faults else faultN s t.prev) = _ := if_neg c16
  refine ret1 rfl hF rfl ⟨congrArg vi e1.symm, ?_⟩
  unfold prevS; rw [e2]
  exact Sep.thr_back (y0 := (_, _, _)) (y1 := (_, _, _)) (y2 := (_, _, _)) (y3 := (_, _, _)) (y4 := (_, _, _)) (hS.pm 9 [3, 4, 5, 6, 7, 8, 0, 1] rfl) rfl
 refine wp_skip <| hK3 _ _ <| rh 0 hF hS rfl rfl rfl fun a hF => wp_seq_k fun K7 hK7 => ws fun K8 hK8 => gB 1 0 hF hS rfl rfl rfl fun a hF => ckr hF hS rfl (reading_c (threadK_of (hS.own_rd (i := 1) rfl) (hS.own_rd (i := 2) rfl) (hS.own_rd (i := 3) rfl) (hS.own_rd (i := 4) rfl) (hS.own_rd (i := 5) rfl))) fun w4 a hS hF => ?_
 refine ga 2 hF rfl fun a hF => ?_
 apply wa 5 27 32 hF hS
 ·
  intro hg27 a hF
  exact jf 5 0 hF hS rfl rfl rfl rfl rfl rfl
 intro a w5 hF hS
 refine wl_nil <| hK8 _ _ <| cx 32 hF rfl (fun c32 hF => ?_) fun c32 hF => ?_
 ·
  refine wp_region_lit <| gB 2 0 hF hS rfl rfl rfl fun a hF => ?_
  obtain ⟨g35, o35, m35, q35, hv35, hm35, hl35, hc35⟩ := Rd.atF ((hS.own_rd (i := 4) rfl)) (a := a) (X := .const (.int .i64 0)) ec (by omega) (by omega)
  refine wl hF rfl rfl rfl (r_index sl108 ((hF.ev rfl).trans hv35) ec (by omega) (by first | omega | (simp at hm35; omega))) fun a hF => ?_
  refine ga 1 hF rfl fun a hF => wl hF rfl rfl rfl (r_load1 sc3 (hF.ev rfl) (hc35 1 _ rfl)) fun a hF => ge hK7 hF rfl fun a hF => ws fun K9 hK9 => ga 3 hF rfl fun a hF => wl hF rfl rfl rfl (r_loadn ag25 (hF.ev rfl) (hS.boxn (vs := [_, _, _, _, _, _]) (i := 7) (m := 6) rfl rfl) sz25) fun a hF => ga 1 hF rfl fun a hF => ?_
  refine ckr hF hS rfl (specHeadCell_c _ _) fun w6 a hS hF => ge hK9 hF rfl fun a hF => ?_
  refine xr ?_
  have c16_ : t.prev = 0 := by omega
  have e1 : prevCell s t = headCell s.config (walkKey t) := if_pos c16_; have e2 : (if t.prev = 0 then s.faults else faultN s t.prev) = s.faults := if_pos c16_
  have e3 : walkKey t = (at0 t.work 0).key := by unfold walkKey; first | exact if_neg (by omega) | exact if_pos (by omega)
  rw [e3] at e1
  refine ret1 rfl hF rfl ⟨congrArg vi e1.symm, ?_⟩
  unfold prevS; rw [e2]
  exact Sep.thr_back (y0 := (_, _, _)) (y1 := (_, _, _)) (y2 := (_, _, _)) (y3 := (_, _, _)) (y4 := (_, _, _)) (hS.pm 9 [1, 2, 3, 4, 5, 6, 7, 8] rfl) rfl
 refine wp_skip <| hK7 _ _ <| ws fun K10 hK10 => ga 3 hF rfl fun a hF => wl hF rfl rfl rfl (r_loadn ag25 (hF.ev rfl) (hS.boxn (vs := [_, _, _, _, _, _]) (i := 7) (m := 6) rfl rfl) sz25) fun a hF => ga 1 hF rfl fun a hF => ckr hF hS rfl (specHeadCell_c _ _) fun w7 a hS hF => ?_
 refine ge hK10 hF rfl fun a hF => ?_
 refine xr ?_
 have c16_ : t.prev = 0 := by omega
 have e1 : prevCell s t = headCell s.config (walkKey t) := if_pos c16_; have e2 : (if t.prev = 0 then s.faults else faultN s t.prev) = s.faults := if_pos c16_
 have e3 : walkKey t = t.op.key := by unfold walkKey; first | exact if_neg (by omega) | exact if_pos (by omega)
 rw [e3] at e1
 refine ret1 rfl hF rfl ⟨congrArg vi e1.symm, ?_⟩
 unfold prevS; rw [e2]
 exact Sep.thr_back (y0 := (_, _, _)) (y1 := (_, _, _)) (y2 := (_, _, _)) (y3 := (_, _, _)) (y4 := (_, _, _)) (hS.pm 9 [1, 2, 3, 4, 5, 6, 7, 8] rfl) rfl
theorem l12Go_c {W w : World} {l : List Res} {g gt ot mt ct p : Nat} {v0 v1 : Value} {s : Sl.State} {ts : List Sl.Thread} {t : Sl.Thread} (hp : p < ts.length) (hz : sizesOk t) (hS : Sep W (Own threadEK (.slice (some ⟨gt, ot, none⟩) mt ct) (ts.set p (t)) :: Box g (s.encw tl v0 v1 (.slice (some ⟨gt, ot, none⟩) mt ct)) :: l) w) : Calls Tryz.prog 116 #[.pointer (some ⟨g, 0, none⟩), vi (p : Int)] w (Ret fun v w' => v = .tuple #[] ∧ Sep W (Own threadEK (.slice (some ⟨gt, ot, none⟩) mt ct) (ts.set p (goT t)) :: Box g (s.encw tl v0 v1 (.slice (some ⟨gt, ot, none⟩) mt ct)) :: l) w') := by
 refine cfr Tryz.func116 Tryz.ntmps116 fun a hF => ?_
 have hmt := hS.own_len (s := (some ⟨gt, ot, none⟩, mt, ct)) (q := 0) rfl
 simp only [List.length_set] at hmt
 have hz1 := hz; unfold sizesOk at hz1
 refine ws fun K1 hK1 => gB 5 1 hF hS rfl rfl rfl fun a hF => ?_
 refine wl hF rfl rfl rfl (r_index sl73 (hF.ev rfl) (hF.ev rfl) (by omega) (by first | omega | (dsimp only; omega))) fun a hF => ?_
 refine ge hK1 hF rfl fun a hF => ws fun K2 hK2 => ga 3 hF rfl fun a hF => ?_
 refine es 0 0 hF hS hp rfl rfl rfl rfl rfl rfl fun w1 hS => ?_
 refine wl_nil <| hK2 _ _ <| wp_seq_k fun K3 hK3 => ws fun K4 hK4 => ga 3 hF rfl fun a hF => wl hF rfl rfl rfl (r_load1 sc3 (hF.ev rfl) (hS.elt1 (q := 0) (j := 9) hp rfl (fun _ => rfl))) fun a hF => ge hK4 hF rfl fun a hF => cx 18 hF rfl (fun c18 hF => ?_) fun c18 hF => ?_
 ·
  refine xr ?_
  refine ret0 rfl hF ⟨rfl, ?_⟩
  unfold goT
  rw [if_neg c18]
  exact hS
 refine wp_skip <| hK3 _ _ <| wp_seq_k fun K5 hK5 => ws fun K6 hK6 => ga 2 hF rfl fun a hF => ?_
 obtain ⟨ce21, ke21, ze21, he21⟩ := hS.eltK (q := 0) hp rfl; have kk21 := ke21; obtain ⟨u21_0, u21_1, u21_2, u21_3, u21_4, rfl, f21_0, f21_1, f21_2, f21_3, f21_4⟩ := ke21
 refine wl hF rfl rfl rfl (r_loadn ag110 (hF.ev rfl) (fun j_ u_ hu_ => he21 j_ u_ hu_) sz110) fun a hF => ckr hF hS rfl (reading_c kk21) fun w2 a hS hF => wl_nil <| hK6 _ _ <| cx 22 hF rfl (fun c22 hF => ?_) fun c22 hF => ?_
 ·
  refine ws fun K7 hK7 => ga 3 hF rfl fun a hF => ?_
  refine es 0 0 hF hS hp rfl rfl rfl rfl rfl rfl fun w3 hS => ?_
  refine wl_nil <| hK7 _ _ <| ws fun K8 hK8 => ga 1 hF rfl fun a hF => wl hF rfl rfl rfl (r_build (bd44_0 _) ⟨rfl, ec, trivial⟩) fun a hF => ga 2 hF rfl fun a hF => ?_
  refine wl_estoren (us := [_, _]) (q := 0) (j := 4) (⟨_, ⟨_, _, _⟩, ⟨_, _⟩, _, _, _, _, _, _, _, _, _, _, _, _, _⟩ : Sl.Thread) hF hS hp rfl sz44 (hF.ev rfl) rfl ((hF.ev rfl).trans rfl) rfl (fun _ => ⟨rfl, rfl⟩) (fun _ => by dsimp only [threadEK, Thread.encv, List.take, List.drop, List.cons_append, List.nil_append, List.length_cons, List.length_nil, Nat.reduceAdd] <;> rfl) (by intro _; rfl) fun w4 hS => ?_; dsimp only [List.set] at hS
  refine wl_nil (hK8 _ _ ?_)
  refine xr ?_
  refine ret0 rfl hF ⟨rfl, ?_⟩
  unfold goT
  rw [if_pos c18, if_pos c22]
  exact hS
 obtain ⟨A0_, A1_, A2_, A3_, A4_, k0_, k1_, k2_, k3_, k4_, ⟨n0_, n1_, n2_, n3_, n4_⟩, ⟨q0_, q1_, q2_, q3_, q4_⟩, hS_⟩ := Sep.thr_lend (t := { t with pc := 11 }) hS hp; replace hS := hS_; clear hS_; unfold maxLen at n0_ n1_ n2_ n3_ n4_; try dsimp only at n0_ n1_ n2_ n3_ n4_ q0_ q1_ q2_ q3_ q4_
 dsimp only [Thread.encv] at hS
 refine wp_skip <| hK5 _ _ <| wp_seq_k fun K9 hK9 => ws fun K10 hK10 => ga 3 hF rfl fun a hF => wl hF rfl rfl rfl (r_load1 sc108 (hF.ev rfl) (hS.but1 (q := 5) (j := 17) rfl rfl)) fun a hF => ge hK10 hF rfl fun a hF => ?_
 refine cx 35 hF rfl (fun c35 hF => ?_) fun c35 hF => ?_
 ·
  refine wp_seq_k fun K11 hK11 => ?_
  refine wp_region_todo (is := [0, 1, 2, 3, 4, 5, 6, 7, 8, 9, 10, 11, 12, 13, 14, 15, 16]) [] [13, 14, 15, 16] (by kernel_rfl) hF hS ⟨trivial, by decide, by decide, by decide⟩ (by kernel_rfl) ?_; intro hl_ wd hSd
  refine tp 4 hl_ rfl <| todo_load [13, 14, 15, 16] hl_ (by kernel_rfl) rfl (gw0 rfl) rfl rfl rfl (fun a w_ hF hB_ => r_load1 sc29 (hF.ev rfl) ((hSd.ext hB_).but1 (q := 5) (j := 18) rfl rfl)) <| tp 3 hl_ rfl <| todo_load [9, 10, 11, 12, 13, 14, 15, 16] hl_ (by kernel_rfl) rfl (gw0 rfl) rfl rfl rfl (fun a w_ hF hB_ => r_load1 sc108 (hF.ev rfl) ((hSd.ext hB_).but1 (q := 5) (j := 17) rfl rfl)) ?_
  obtain ⟨g45, o45, m45, q45, hv45, hm45, hl45, hc45⟩ := Rd.idxF ((hSd.own_rd (i := 3) rfl)) (at0_get (i := (0 : Int)) (by omega) (by omega))
  refine todo_pure hl_ (by kernel_rfl) rfl (gw0 rfl) rfl rfl rfl (fun a w_ hF => r_index sl108 ((hF.ev rfl).trans hv45) ec (by omega) (by first | omega | (simp at hm45; omega))) ?_
  refine tp 1 hl_ rfl <| todo_load [12, 13, 14, 15, 16] hl_ (by kernel_rfl) rfl (gw0 rfl) rfl rfl rfl (fun a w_ hF hB_ => r_load1 sc3 (hF.ev rfl) (cellB hB_ (hc45 0 _ rfl))) ?_
  refine todo_op hl_ rfl (by kernel_rfl) rfl rfl rfl rfl rfl (fun a w_ hF hS => r_bslice intEK [vi (at0 t.work (0 : Int)).handle] [(at0 t.work (0 : Int)).handle] rfl mk29 rfl ⟨rfl, (hF.ev rfl), trivial⟩ rfl rfl rfl rfl) ?_; intro gl_48
  refine todo_fin hl_ rfl (by kernel_rfl) (tl := [_, _, _, _]) rfl ?_; intro a w6 hF hA_
  have hS := hA_.sep; clear hA_
  clear hl_; try clear hSd
  try dsimp only [List.cons_append, List.nil_append, List.set] at hS
  try clear wd
  refine wl_append (q := 5) hF hS rfl rfl (hS.own_rd (i := 0) rfl) mk29 rfl (hF.ev rfl) (hF.ev rfl) (by simp; omega) (by first | (simp; omega) | (unfold maxLen; simp; omega)) ?_; intro A_49 c_49 w7 a hS_ hF; replace hS := hS_; clear hS_; dsimp only [List.set, List.length_cons, List.length_nil] at hS hF
  refine ga 2 hF rfl fun a hF => ?_
  refine wl_bstore (q := 6) (j := 18) hF hS rfl sz29 (hF.ev rfl) rfl (hF.ev rfl) rfl rfl fun w8 hS => ?_; dsimp only [List.set] at hS
  refine wl_nil ⟨rfl, ?_⟩
  refine hK11 _ _ <| wp_region_lit <| ga 1 hF rfl fun a hF => wl_bslice entryEK [] [] rfl hF hS rfl mk108 rfl trivial rfl rfl rfl rfl fun gl_53 w9 a hS hF => ga 3 hF rfl fun a hF => wl hF rfl rfl rfl (r_load1 sc108 (hF.ev rfl) (hS.but1 (q := 7) (j := 17) rfl rfl)) fun a hF => ?_
  refine wl hF rfl rfl rfl (r_cutlo (i := 1) sl108 (hF.ev rfl) (ec.trans (by first | rfl | (congr 1; omega))) (by omega) (by omega)) fun a hF => ?_
  have hcut58 := Rd.cut (i := 1) (j := t.work.length) (hS.own_rd (i := 5) rfl) (by omega) (by omega); rw [List.take_length] at hcut58
  refine wl_append0 hF hS rfl hcut58 mk108 rfl (by simp; omega) (by unfold maxLen; simp; omega) (hF.ev rfl) (hF.ev rfl) fun s59 w10 a hS hF => ?_
  refine ga 2 hF rfl fun a hF => ?_
  refine wl_bstore (q := 8) (j := 17) hF hS rfl sz108 (hF.ev rfl) rfl (hF.ev rfl) rfl rfl fun w11 hS => ?_; dsimp only [List.set] at hS
  refine wl_nil <| hK9 _ _ <| ws fun K12 hK12 => ga 3 hF rfl fun a hF => ?_
  refine wl_bstore (q := 8) (j := 0) hF hS rfl sz3 (hF.ev rfl) rfl ec rfl rfl fun w12 hS => ?_; dsimp only [List.set] at hS
  refine wl_nil <| hK12 _ _ <| ws fun K13 hK13 => ga 3 hF rfl fun a hF => wl hF rfl rfl rfl (r_load1 sc108 (hF.ev rfl) (hS.but1 (q := 8) (j := 17) rfl rfl)) fun a hF => ge hK13 hF rfl fun a hF => cx 70 hF rfl (fun c70 hF => ?_) fun c70 hF => ?_
  ·
   have hln_ := hS.own_len (q := 0) rfl; rw [hln_] at c70
   refine wp_region_lit <| ga 3 hF rfl fun a hF => ?_
   refine wl_bstore (q := 8) (j := 0) hF hS rfl sz3 (hF.ev rfl) rfl ec rfl rfl fun w13 hS => ?_; dsimp only [List.set] at hS
   refine wl_nil ?_
   refine xt ?_
   refine ret0n rfl hF ⟨rfl, ?_⟩
   unfold goT
   rw [if_pos c18, if_neg c22, if_pos c35, if_pos c70]
   exact Sep.thr_back (y0 := (_, _, _)) (y1 := (_, _, _)) (y2 := (_, _, _)) (y3 := (_, _, _)) (y4 := (_, _, _)) (hS.pm 10 [3, 4, 5, 0, 7, 8, 9] rfl) rfl
  have hln_ := hS.own_len (q := 0) rfl; rw [hln_] at c70
  refine wp_skip ?_
  refine xt ?_
  refine ret0n rfl hF ⟨rfl, ?_⟩
  unfold goT
  rw [if_pos c18, if_neg c22, if_pos c35, if_neg c70]
  exact Sep.thr_back (y0 := (_, _, _)) (y1 := (_, _, _)) (y2 := (_, _, _)) (y3 := (_, _, _)) (y4 := (_, _, _)) (hS.pm 10 [3, 4, 5, 0, 7, 8, 9] rfl) rfl
 refine wp_skip <| hK9 _ _ <| ws fun K14 hK14 => ga 3 hF rfl fun a hF => ?_
 refine wl_bstore (q := 5) (j := 0) hF hS rfl sz3 (hF.ev rfl) rfl ec rfl rfl fun w14 hS => ?_; dsimp only [List.set] at hS
 refine wl_nil <| hK14 _ _ <| ws fun K15 hK15 => ga 3 hF rfl fun a hF => wl hF rfl rfl rfl (r_load1 sc108 (hF.ev rfl) (hS.but1 (q := 5) (j := 17) rfl rfl)) fun a hF => ge hK15 hF rfl fun a hF => cx 70 hF rfl (fun c70 hF => ?_) fun c70 hF => ?_
 ·
  exfalso; omega -- closed
 refine wp_skip ?_
 refine xt ?_
 refine ret0n rfl hF ⟨rfl, ?_⟩
 unfold goT
 rw [if_pos c18, if_neg c22, if_neg c35]
 exact Sep.thr_back (y0 := (_, _, _)) (y1 := (_, _, _)) (y2 := (_, _, _)) (y3 := (_, _, _)) (y4 := (_, _, _)) hS rfl
theorem prevS_zero {s : Sl.State} {t : Sl.Thread} : prevS s { t with prev := 0 } = s := rfl
theorem prevCell_zero {s : Sl.State} {t : Sl.Thread} : prevCell s { t with prev := 0 } = headCell s.config (walkKey t) := rfl
theorem l12Walk_c {W w : World} {l : List Res} {g gt ot mt ct p : Nat} {z0 z1 : Slv} {s : Sl.State} {t : Sl.Thread} (hp : p < s.threads.length) (hf : Fit s t) (hS : Sep W (Box g ((s).encw tl (sv z0) (sv z1) (.slice (some ⟨gt, ot, none⟩) mt ct)) :: Own intEK (sv z0) (s).cells :: Own intEK (sv z1) (s).generations :: Own threadEK (.slice (some ⟨gt, ot, none⟩) mt ct) (s.threads.set p t) :: l) w) : Calls Tryz.prog 91 #[.pointer (some ⟨g, 0, none⟩), vi (p : Int)] w (Ret fun v w' => v = .tuple #[] ∧ Sep W (Box g (((walkS s t (p : Int)).1).encw tl (sv z0) (sv z1) (.slice (some ⟨gt, ot, none⟩) mt ct)) :: Own intEK (sv z0) ((walkS s t (p : Int)).1).cells :: Own intEK (sv z1) ((walkS s t (p : Int)).1).generations :: Own threadEK (.slice (some ⟨gt, ot, none⟩) mt ct) (s.threads.set p (walkS s t (p : Int)).2) :: l) w') := by
 refine cfr Tryz.func91 Tryz.ntmps91 fun a hF => ?_
 have hl0 := hS.own_len (q := 1) rfl
 have hl1 := hS.own_len (q := 2) rfl
 have hmt : mt = s.threads.length := by have := hS.own_len (q := 3) (s := (some ⟨gt, ot, none⟩, mt, ct)) rfl; simpa using this
 refine ws fun K1 hK1 => gB 5 0 hF hS rfl rfl rfl fun a hF => ?_
 refine wl hF rfl rfl rfl (r_index sl73 (hF.ev rfl) (hF.ev rfl) (by omega) (by first | omega | (dsimp only; omega))) fun a hF => ?_
 refine ge hK1 hF rfl fun a hF => ws fun K2 hK2 => ga 3 hF rfl fun a hF => wl hF rfl rfl rfl (r_load1 sc3 (hF.ev rfl) (hS.elt1 (q := 3) (j := 0) hp rfl (fun _ => rfl))) fun a hF => wl_nil <| hK2 _ _ <| wp_block <| rg hF rfl fun a hF => ?_
 refine cx 15 hF rfl (fun c15 hF => ?_) fun c15 hF => ?_
 ·
  refine ws fun K4 hK4 => ga 3 hF rfl fun a hF => ?_
  refine es 3 8 hF hS hp rfl rfl rfl rfl rfl rfl fun w1 hS => ?_
  refine wl_nil <| hK4 _ _ <| ws fun K5 hK5 => ga 4 hF rfl fun a hF => ?_
  replace hS := hS.pm 4 [3, 0, 2, 1] rfl
  refine ck hF rfl (l12Prev_c (s := s) (t := { t with prev := 0 }) hp (by exact int64_zero) hf.lg hS) ?_; rintro v w2 a ⟨rfl, hS⟩ hF
  rw [prevS_zero] at hS; rw [prevCell_zero] at hF
  refine ckr hF hS rfl (l9LoadR_c (fun j u hu => hS.box7 (i := 1) rfl j u hu) (hS.own_rd (i := 3) rfl)) fun w3 a hS hF => ckr hF hS rfl (specUnmarked_c (int64_loadC hf.wc)) fun w4 a hS hF => ga 2 hF rfl fun a hF => ?_
  refine es 0 9 hF hS hp rfl rfl rfl rfl rfl rfl fun w5 hS => ?_
  refine wl_nil <| hK5 _ _ <| wp_region_lit <| ga 2 hF rfl fun a hF => ?_
  refine ck hF rfl (l12Go_c (s := s) hp (by exact hf.sizes) hS) ?_; rintro v w6 a ⟨rfl, hS⟩ hF
  refine wl_nil ?_
  refine xt ?_
  refine ret0n rfl hF ⟨rfl, ?_⟩
  unfold walkS
  rw [if_pos c15]
  exact (hS.pm 4 [1, 3, 2, 0] rfl)
 refine rg hF rfl fun a hF => cx 32 hF rfl (fun c32 hF => ?_) fun c32 hF => ?_
 ·
  refine wp_seq_k fun K7 hK7 => wp_region_J (is := [0, 1, 2, 3, 4, 5, 7, 8, 9, 10, 6, 11]) (fun (_ : Unit) r => r) _ (()) [11] (by kernel_rfl) hF hS (by kernel_rfl) <| tq 4 rfl <| tj_load [6, 11] (by kernel_rfl) rfl (gw0 rfl) rfl rfl (fun a w_ x_ hF hS => r_loadn ag25 (hF.ev rfl) (hS.boxn (vs := [_, _, _, _, _, _]) (i := 0) (m := 6) rfl rfl) sz25) <| tq 4 rfl <| tj_load [11] (by kernel_rfl) rfl (gw0 rfl) rfl rfl (fun a w_ x_ hF hS => r_load1 sc3 (hF.ev rfl) (hS.elt1 (q := 3) (j := 9) hp rfl (fun _ => rfl))) <| tj_rd (by kernel_rfl) rfl (gw0 rfl) rfl rfl (fun a w_ hF => r_call3 en117 (hF.ev rfl) (hF.ev rfl) ec) (fun w_ hS => specHazardCell_c _ _ _) ?_
  refine tj_fin (tl := [_]) (by kernel_rfl) rfl ?_; intro a w7 hF hS; try dsimp only at hS
  refine ck hF rfl (l9Put_c (s := s) hS) ?_; rintro v w8 a ⟨rfl, hS⟩ hF
  refine wl_nil ⟨rfl, ?_⟩
  refine hK7 _ _ <| wp_region_lit <| ga 3 hF rfl fun a hF => ?_
  refine es 3 0 hF hS hp rfl rfl rfl rfl rfl rfl fun w9 hS => ?_
  refine wl_nil ?_
  refine xt ?_
  refine ret0n rfl hF ⟨rfl, ?_⟩
  unfold walkS
  rw [if_neg c15, if_pos c32]
  exact hS
 refine rg hF rfl fun a hF => cx 49 hF rfl (fun c49 hF => ?_) fun c49 hF => ?_
 ·
  refine ws fun K9 hK9 => ga 3 hF rfl fun a hF => ?_
  refine es 3 0 hF hS hp rfl rfl rfl rfl rfl rfl fun w10 hS => ?_
  refine wl_nil <| hK9 _ _ <| wp_seq_k fun K10 hK10 => wp_region_J (is := [0, 1, 2, 5, 6, 7, 8, 3, 4, 9]) (fun (f : Int) r => Box g (s.encfw tl (sv z0) (sv z1) (.slice (some ⟨gt, ot, none⟩) mt ct) f) :: r) _ (s.faults) [] (by kernel_rfl) hF hS (by kernel_rfl) <| tq 6 rfl <| tj_load [9] (by kernel_rfl) rfl (gw0 rfl) rfl rfl (fun a w_ x_ hF hS => r_load1 sc3 (hF.ev rfl) (hS.elt1 (q := 3) (j := 9) hp rfl (fun _ => rfl))) ?_
  refine tj_mc (by kernel_rfl) rfl (gw0 rfl) rfl rfl (fun a w_ hF => r_call2 en115 (hF.ev rfl) (hF.ev rfl)) (fun w_ hS => calls_unit (l12Prev_c (s := s) hp (by exact hf.prev) hf.lg (hS.pm 4 [3, 0, 2, 1] rfl))) (fun _ w_ h_ => ⟨_, (h_.pm 4 [1, 3, 2, 0] rfl)⟩) ?_; intro _
  refine tj_rd (by kernel_rfl) rfl (gw0 rfl) rfl rfl (fun a w_ hF => r_call2 en114 (hF.ev rfl) (hF.ev rfl)) (fun w_ hS => l9LoadR_c (fun j u hu => hS.box7 (i := 1) rfl j u hu) (hS.own_rd (i := 3) rfl)) <| tq 1 rfl ?_
  refine tj_fin (tl := []) (by kernel_rfl) rfl ?_; intro a w11 hF hS; try dsimp only at hS
  refine wl_nil ⟨rfl, ?_⟩
  refine hK10 _ _ <| cx 63 hF rfl (fun c63 hF => ?_) fun c63 hF => ?_
  ·
   replace c63 : ¬ loadC s.cells (prevCell s t) = t.curr := c63
   refine ws fun K11 hK11 => gB 8 1 hF hS rfl rfl rfl fun a hF => wv 1 hF hS rfl rfl rfl rfl rfl rfl fun w12 hS => wl_nil <| hK11 _ _ <| wp_region_lit <| ga 3 hF rfl fun a hF => ?_
   refine es 0 0 hF hS hp rfl rfl rfl rfl rfl rfl fun w13 hS => ?_
   refine wl_nil ?_
   refine xt ?_
   refine ret0n rfl hF ⟨rfl, ?_⟩
   unfold walkS
   rw [if_neg c15, if_neg c32, if_pos c49, if_neg c63]
   exact (hS.pm 4 [1, 3, 2, 0] rfl)
  replace c63 : loadC s.cells (prevCell s t) = t.curr := c63
  refine wp_skip ?_
  refine xt ?_
  refine ret0n rfl hF ⟨rfl, ?_⟩
  unfold walkS
  rw [if_neg c15, if_neg c32, if_pos c49, if_pos c63]
  exact (hS.pm 4 [1, 3, 2, 0] rfl)
 refine rg hF rfl fun a hF => cx 75 hF rfl (fun c75 hF => ?_) fun c75 hF => ?_
 ·
  refine ws fun K13 hK13 => ga 6 hF rfl fun a hF => wl hF rfl rfl rfl (r_load1 sc3 (hF.ev rfl) (hS.elt1 (q := 3) (j := 9) hp rfl (fun _ => rfl))) fun a hF => ?_
  replace hS := hS.pm 4 [0, 2, 1, 3] rfl
  refine ck hF rfl (l9Cell_c (s := s) hf.curr hf.lg hS) ?_; rintro v w14 a ⟨rfl, hS⟩ hF
  refine ckr hF hS rfl (l9LoadR_c (fun j u hu => hS.box7 (i := 0) rfl j u hu) (hS.own_rd (i := 2) rfl)) fun w15 a hS hF => ga 2 hF rfl fun a hF => ?_
  refine es 3 10 hF hS hp rfl rfl rfl rfl rfl rfl fun w16 hS => ?_
  refine wl_nil <| hK13 _ _ <| ws fun K14 hK14 => ga 3 hF rfl fun a hF => ?_
  refine es 3 0 hF hS hp rfl rfl rfl rfl rfl rfl fun w17 hS => ?_
  refine wl_nil <| hK14 _ _ <| wp_block <| ws fun K15 hK15 => ga 3 hF rfl fun a hF => wl hF rfl rfl rfl (r_load1 sc3 (hF.ev rfl) (hS.elt1 (q := 3) (j := 10) hp rfl (fun _ => rfl))) fun a hF => ckr hF hS rfl (specIsMarked_c (int64_loadC hf.wc)) fun w18 a hS hF => ge hK15 hF rfl fun a hF => ?_
  refine cx 91 hF rfl (fun c91 hF => ?_) fun c91 hF => ?_
  ·
   refine wp_region_lit <| ga 3 hF rfl fun a hF => ?_
   refine es 3 0 hF hS hp rfl rfl rfl rfl rfl rfl fun w19 hS => ?_
   refine wl_nil ?_
   refine xt ?_
   refine ret0n rfl hF ⟨rfl, ?_⟩
   unfold walkS
   rw [if_neg c15, if_neg c32, if_neg c49, if_pos c75, if_pos c91]
   exact (hS.pm 4 [0, 2, 1, 3] rfl)
  replace c91 : ¬ isMarked (loadC s.cells (cellOf s t.curr 2)) = true := by rw [c91]; decide
  refine ws fun K16 hK16 => ga 2 hF rfl fun a hF => ?_
  obtain ⟨ce103, ke103, ze103, he103⟩ := hS.eltK (q := 3) hp rfl; have kk103 := ke103; obtain ⟨u103_0, u103_1, u103_2, u103_3, u103_4, rfl, f103_0, f103_1, f103_2, f103_3, f103_4⟩ := ke103
  refine wl hF rfl rfl rfl (r_loadn ag110 (hF.ev rfl) (fun j_ u_ hu_ => he103 j_ u_ hu_) sz110) fun a hF => ckr hF hS rfl (reading_c kk103) fun w20 a hS hF => ge hK16 hF rfl fun a hF => cx 100 hF rfl (fun c100 hF => ?_) fun c100 hF => ?_
  ·
   refine wp_region_lit <| ga 3 hF rfl fun a hF => ?_
   refine es 3 0 hF hS hp rfl rfl rfl rfl rfl rfl fun w21 hS => ?_
   refine wl_nil ?_
   refine xt ?_
   refine ret0n rfl hF ⟨rfl, ?_⟩
   unfold walkS
   rw [if_neg c15, if_neg c32, if_neg c49, if_pos c75, if_neg c91, if_pos c100]
   exact (hS.pm 4 [0, 2, 1, 3] rfl)
  refine wp_skip ?_
  refine xt ?_
  refine ret0n rfl hF ⟨rfl, ?_⟩
  unfold walkS
  rw [if_neg c15, if_neg c32, if_neg c49, if_pos c75, if_neg c91, if_neg c100]
  exact (hS.pm 4 [0, 2, 1, 3] rfl)
 refine rg hF rfl fun a hF => cx 108 hF rfl (fun c108 hF => ?_) fun c108 hF => ?_
 ·
  refine wp_seq_k fun K18 hK18 => wp_seq_k fun K19 hK19 => wp_region_J (is := [0, 1, 2, 4, 5, 6, 7, 8, 9, 10, 11, 3, 12, 13, 14]) (fun (f : Int) r => Box g (s.encfw tl (sv z0) (sv z1) (.slice (some ⟨gt, ot, none⟩) mt ct) f) :: r) _ (s.faults) [13, 14] (by kernel_rfl) hF hS (by kernel_rfl) <| tq 6 rfl <| tj_load [13, 14] (by kernel_rfl) rfl (gw0 rfl) rfl rfl (fun a w_ x_ hF hS => r_load1 sc3 (hF.ev rfl) (hS.elt1 (q := 3) (j := 9) hp rfl (fun _ => rfl))) <| tq 3 rfl <| tj_load [12, 13, 14] (by kernel_rfl) rfl (gw0 rfl) rfl rfl (fun a w_ x_ hF hS => r_load1 sc3 (hF.ev rfl) (hS.elt1 (q := 3) (j := 10) hp rfl (fun _ => rfl))) ?_
  refine tj_mc (by kernel_rfl) rfl (gw0 rfl) rfl rfl (fun a w_ hF => r_call2 en115 (hF.ev rfl) (hF.ev rfl)) (fun w_ hS => calls_unit (l12Prev_c (s := s) hp (by exact hf.prev) hf.lg (hS.pm 4 [3, 0, 2, 1] rfl))) (fun _ w_ h_ => ⟨_, (h_.pm 4 [1, 3, 2, 0] rfl)⟩) ?_; intro _
  refine tj_rd (by kernel_rfl) rfl (gw0 rfl) rfl rfl (fun a w_ hF => r_call1 en111 (hF.ev rfl)) (fun w_ hS => specUnmarked_c hf.next) ?_
  refine tj_fin (tl := [_, _]) (by kernel_rfl) rfl ?_; intro a w22 hF hS; try dsimp only at hS
  replace hS := hS.pm 4 [1, 3, 0, 2] rfl
  refine ck hF rfl (l9Swap_c (s := prevS s t) hS) ?_; rintro v w23 a ⟨rfl, hS⟩ hF
  refine ga 1 hF rfl fun a hF => wl_nil ⟨rfl, ?_⟩
  refine hK19 _ _ <| cx 124 hF rfl (fun c124 hF => ?_) fun c124 hF => ?_
  ·
   replace c124 : ¬ hitB s.cells (prevCell s t) t.curr = true := fun h => by rw [show hitB (prevS s t).cells (prevCell s t) t.curr = true from h] at c124; cases c124
   refine ws fun K20 hK20 => gB 8 0 hF hS rfl rfl rfl fun a hF => wv 0 hF hS rfl rfl rfl rfl rfl rfl fun w24 hS => wl_nil <| hK20 _ _ <| ws fun K21 hK21 => ga 3 hF rfl fun a hF => ?_
   refine es 2 0 hF hS hp rfl rfl rfl rfl rfl rfl fun w25 hS => ?_
   refine wl_nil (hK21 _ _ ?_)
   refine xr ?_
   refine ret0 rfl hF ⟨rfl, ?_⟩
   unfold walkS
   rw [if_neg c15, if_neg c32, if_neg c49, if_neg c75, if_pos c108, if_neg c124]
   exact (hS.pm 4 [0, 1, 3, 2] rfl)
  replace c124 : hitB s.cells (prevCell s t) t.curr = true := c124
  refine wp_skip <| hK18 _ _ <| ws fun K22 hK22 => ga 4 hF rfl fun a hF => wl hF rfl rfl rfl (r_load1 sc3 (hF.ev rfl) (hS.elt1 (q := 2) (j := 10) hp rfl (fun _ => rfl))) fun a hF => ckr hF hS rfl (specUnmarked_c hf.next) fun w26 a hS hF => ga 2 hF rfl fun a hF => ?_
  refine es 2 9 hF hS hp rfl rfl rfl rfl rfl rfl fun w27 hS => ?_
  refine wl_nil <| hK22 _ _ <| wp_region_lit <| ga 2 hF rfl fun a hF => ?_
  replace hS := hS.pm 4 [2, 0, 1, 3] rfl
  refine ck hF rfl (l12Go_c (s := swapS (prevS s t) (prevCell s t) t.curr (unmarked t.next)) hp (by exact hf.sizes) hS) ?_; rintro v w28 a ⟨rfl, hS⟩ hF
  refine wl_nil ?_
  refine xt ?_
  refine ret0n rfl hF ⟨rfl, ?_⟩
  unfold walkS
  rw [if_neg c15, if_neg c32, if_neg c49, if_neg c75, if_pos c108, if_pos c124]
  exact (hS.pm 4 [1, 2, 3, 0] rfl)
 refine rg hF rfl fun a hF => cx 147 hF rfl (fun c147 hF => ?_) fun c147 hF => ?_
 ·
  refine wp_seq_k fun K24 hK24 => wp_region_J (is := [0, 1, 2, 3, 4, 5, 7, 8, 9, 10, 6, 11]) (fun (_ : Unit) r => r) _ (()) [11] (by kernel_rfl) hF hS (by kernel_rfl) <| tq 4 rfl <| tj_load [6, 11] (by kernel_rfl) rfl (gw0 rfl) rfl rfl (fun a w_ x_ hF hS => r_loadn ag25 (hF.ev rfl) (hS.boxn (vs := [_, _, _, _, _, _]) (i := 0) (m := 6) rfl rfl) sz25) <| tq 4 rfl <| tj_load [11] (by kernel_rfl) rfl (gw0 rfl) rfl rfl (fun a w_ x_ hF hS => r_load1 sc3 (hF.ev rfl) (hS.elt1 (q := 3) (j := 9) hp rfl (fun _ => rfl))) <| tj_rd (by kernel_rfl) rfl (gw0 rfl) rfl rfl (fun a w_ hF => r_call3 en117 (hF.ev rfl) (hF.ev rfl) ec) (fun w_ hS => specHazardCell_c _ _ _) ?_
  refine tj_fin (tl := [_]) (by kernel_rfl) rfl ?_; intro a w29 hF hS; try dsimp only at hS
  refine ck hF rfl (l9Put_c (s := s) hS) ?_; rintro v w30 a ⟨rfl, hS⟩ hF
  refine wl_nil ⟨rfl, ?_⟩
  refine hK24 _ _ <| ws fun K25 hK25 => ga 4 hF rfl fun a hF => wl hF rfl rfl rfl (r_load1 sc3 (hF.ev rfl) (hS.elt1 (q := 3) (j := 9) hp rfl (fun _ => rfl))) fun a hF => ga 2 hF rfl fun a hF => ?_
  refine es 3 8 hF hS hp rfl rfl rfl rfl rfl rfl fun w31 hS => ?_
  refine wl_nil <| hK25 _ _ <| ws fun K26 hK26 => ga 4 hF rfl fun a hF => wl hF rfl rfl rfl (r_load1 sc3 (hF.ev rfl) (hS.elt1 (q := 3) (j := 10) hp rfl (fun _ => rfl))) fun a hF => ckr hF hS rfl (specUnmarked_c hf.next) fun w32 a hS hF => ga 2 hF rfl fun a hF => ?_
  refine es 3 9 hF hS hp rfl rfl rfl rfl rfl rfl fun w33 hS => ?_
  refine wl_nil <| hK26 _ _ <| wp_region_lit <| ga 2 hF rfl fun a hF => ?_
  replace hS := hS.pm 4 [3, 0, 1, 2] rfl
  refine ck hF rfl (l12Go_c (s := putS s (hazardCell s.config (p : Int) 1) t.curr) hp (by exact hf.sizes) hS) ?_; rintro v w34 a ⟨rfl, hS⟩ hF
  refine wl_nil ?_
  refine xt ?_
  refine ret0n rfl hF ⟨rfl, ?_⟩
  unfold walkS
  rw [if_neg c15, if_neg c32, if_neg c49, if_neg c75, if_neg c108, if_pos c147]
  exact (hS.pm 4 [1, 2, 3, 0] rfl)
 refine wp_skip ?_
 refine xt ?_
 refine ret0n rfl hF ⟨rfl, ?_⟩
 unfold walkS
 rw [if_neg c15, if_neg c32, if_neg c49, if_neg c75, if_neg c108, if_neg c147]
 exact hS
theorem specIsWalk_c {W : World} {n : Int} : Calls Tryz.prog 90 #[vi n] W (Ret fun v w' => v = .bool (isW n) ∧ Below W.heap.size W w') := by
 refine cfr Tryz.func90 Tryz.ntmps90 fun a hF => ?_
 have hS := Sep.refl W
 refine rg hF rfl fun a hF => ws fun K2 hK2 => ga 1 hF rfl fun a hF => ckr hF hS rfl (l1In_c _ _ _) fun w1 a hS hF => ge hK2 hF rfl fun a hF => ?_
 refine xr ?_
 exact ret1 rfl hF rfl ⟨rfl, hS.old⟩
set_option maxRecDepth 20000
theorem crow_set_le {α : Type} {c : α → Nat} {y : α} {x : α} {k : Nat} : ∀ {xs : List α} {i : Nat}, xs[i]? = some y → c x ≤ c y + k → crow c (xs.set i x) ≤ crow c xs + k
  | [], i, h, _ => by simp at h
  | z :: xs, 0, h, hl => by simp at h; subst h; simp only [List.set_cons_zero, crow]; omega
  | z :: xs, i + 1, h, hl => by
    have := crow_set_le (xs := xs) (i := i) (by simpa using h) hl
    simp only [List.set_cons_succ, crow]; omega
theorem putC_len {xs : List Int} {a v : Int} : (putC xs a v).length = xs.length := by unfold putC; split <;> simp
theorem endT_size {t : Sl.Thread} {c x : Int} : (endT t c x).size ≤ t.size := by unfold endT clearT Sl.Thread.size; simp only [List.length_nil]; omega
set_option maxRecDepth 20000
def makeHandle (i g : Int) : Int := if (0 ≤ i ∧ i ≤ 62) ∧ (0 ≤ g ∧ g ≤ 9999) then IntKind.i64.wrap (IntKind.i64.wrap (IntKind.i64.wrap (IntKind.i64.wrap (g * 64) + i) + 1) * 2) else 0
def lastF (t : Sl.Thread) : Int := at0 t.free ((t.free.length - 1 : Nat) : Int)
def startT (t : Sl.Thread) (o : Sl.Op) (gs : List Int) : Sl.Thread :=
  if o.kind = 1 then { endT { t with op := o } 0 0 with pc := 1 }
  else if o.kind = 2 then { endT { t with op := o } 0 0 with pc := 10 }
  else if o.kind = 4 then { endT { t with op := o } 0 0 with pc := 80 }
  else if o.kind = 5 then { endT { t with op := o } 0 0 with pc := 50 }
  else if (0 : Int) < t.free.length then { endT { t with op := o } 0 0 with free := t.free.take (t.free.length - 1), node := makeHandle (lastF t) (at0 gs (lastF t)), pc := 32 }
  else { endT { t with op := o } 0 0 with pc := 30 }
def startS (s : Sl.State) (p : Int) (o : Sl.Op) : Sl.State × Int :=
  if (stateOk s = true ∧ (0 ≤ p ∧ p ≤ s.threads.length - 1)) ∧ o.ok ∧ (at0 s.threads p).pc = 0 then
    if refusalOf s p o = 0 then (setT s p.toNat (startT (at0 s.threads p) o s.generations), 1) else (setT s p.toNat (endT { at0 s.threads p with op := o } (refusalOf s p o) 0), 2)
  else (s, 0)
theorem Fit.last {s : Sl.State} {t : Sl.Thread} (hf : Fit s t) (h : (0 : Int) < t.free.length) : 0 ≤ lastF t ∧ lastF t < s.config.capacity := by
 have h2 := hf.th
 unfold threadOk at h2; simp only [Bool.and_eq_true] at h2
 have h3 := h2.1.1.1.1.1
 unfold freeOk at h3
 have h4 := List.all_eq_true.1 h3 (lastF t) (at0_mem (by omega) (by omega))
 simp only [decide_eq_true_eq] at h4
 omega
theorem startT_size {t : Sl.Thread} {o : Sl.Op} {gs : List Int} : (startT t o gs).size ≤ t.size := by
 have h1 := endT_size (t := { t with op := o }) (c := 0) (x := 0)
 have h2 : ({ t with op := o } : Sl.Thread).size = t.size := rfl
 unfold startT
 repeat' split
 all_goals first | exact h1 | (unfold endT clearT Sl.Thread.size; simp only [List.length_nil, List.length_take]; omega)
theorem specMakeHandle_c {W : World} {i g : Int} : Calls Tryz.prog 106 #[vi i, vi g] W (Ret fun v w' => v = vi (makeHandle i g) ∧ Below W.heap.size W w') := by
 refine cfr Tryz.func106 Tryz.ntmps106 fun a hF => ?_
 have hS := Sep.refl W
 refine rg hF rfl fun a hF => wp_seq_k fun K2 hK2 => ws fun K3 hK3 => ga 1 hF rfl fun a hF => ckr hF hS rfl (l1In_c _ _ _) fun w1 a hS hF => ga 2 hF rfl fun a hF => ?_
 apply wo 4 8 12 hF hS
 ·
  intro hg8 a hF
  refine ga 1 hF rfl fun a hF => ckr hF hS rfl (l1In_c _ _ _) fun w2 a hS hF => ?_
  exact je 4 hF hS rfl rfl rfl rfl
 intro a w3 hF hS
 refine wl_nil <| hK3 _ _ <| cx 12 hF rfl (fun c12 hF => ?_) fun c12 hF => ?_
 ·
  refine rg hF rfl fun a hF => ?_
  refine xr ?_
  refine ret1 rfl hF rfl ⟨congrArg vi (Eq.symm ?_), hS.old⟩
  unfold makeHandle
  first | exact if_pos (by omega) | exact if_neg (by omega)
 refine wp_skip <| hK2 _ _ <| rg hF rfl fun a hF => ?_
 refine xr ?_
 refine ret1 rfl hF rfl ⟨congrArg vi (Eq.symm ?_), hS.old⟩
 unfold makeHandle
 first | exact if_pos (by omega) | exact if_neg (by omega)
theorem specStartOp_c {W : World} {s : Sl.State} {cs : List Value} {p : Int} {o : Sl.Op} (hm : stateEK.K W s cs) (hw : s.wf) (hz : (s.size : Int) ≤ 1048576) (hp0 : int64 p) : Calls Tryz.prog 77 #[.agg cs.toArray, vi p, .agg o.enc.toArray] W (Ret (Mk W (fun vs => .tuple #[.agg (stateEK.cells (startS s p o).1 vs).toArray, vi (startS s p o).2]) (fun vs => [Part stateEK (startS s p o).1 vs]))) := by
 refine cfr Tryz.func77 Tryz.ntmps77 fun a hF => ?_
 have hS := Sep.refl W
 obtain ⟨v0, v1, v2, rfl, r0, r1, r2⟩ := hm
 have hm : stateEK.K W s (s.encv v0 v1 v2) := ⟨_, _, _, rfl, r0, r1, r2⟩
 obtain ⟨A_a, q_a, rfl, hq_a, hn_a⟩ := r0.sl; unfold maxLen at hn_a
 obtain ⟨A_b, q_b, rfl, hq_b, hn_b⟩ := r1.sl; unfold maxLen at hn_b
 obtain ⟨A_c, q_c, rfl, hq_c, hn_c⟩ := r2.sl; unfold maxLen at hn_c
 have hwl : IntKind.i64.wrap ((s.threads.length : Int) - 1) = s.threads.length - 1 := w64_id (by omega) (by omega)
 refine ws fun K1 hK1 => wl_box (cs := [_, _, _, _, _, _, _, _, _, _, _, _, _]) hF hS rfl (hF.ev rfl) rfl fun g1 w1 a hS _ hF => wl_box (cs := [_, _, _]) hF hS rfl (hF.ev rfl) rfl fun g2 w2 a hS _ hF => wl_alloc hF hS rfl zr75 fun g3 w3 a hS _ hF => ge hK1 hF rfl fun a hF => ws fun K2 hK2 => gB 1 2 hF hS rfl rfl rfl fun a hF => ?_
 refine wl_mk hF hS rfl rfl rfl (r_call1 en72 (hF.ev rfl)) (l8Copy_c (hS.k hm) (by omega)) ?_; rintro vs14 w4 a hS_ hF; replace hS := hS_; clear hS_; dsimp only [List.cons_append, List.nil_append] at hS
 refine wl_alloc hF hS rfl zr75 fun g4 w5 a hS _ hF => ww 0 hF hS rfl rfl rfl rfl rfl rfl fun w6 hS => wl_nil <| hK2 _ _ <| wp_seq_k fun K3 hK3 => ws fun K4 hK4 => gB 1 4 hF hS rfl rfl rfl fun a hF => ckr hF hS rfl (specIsState_c (hS.k hm) hw (by omega)) fun w7 a hS hF => ?_
 refine ga 2 hF rfl fun a hF => ?_
 apply wo 8 18 26 hF hS
 ·
  intro hg18 a hF
  refine gB 5 4 hF hS rfl rfl rfl fun a hF => ckr hF hS rfl (l1In_c _ _ _) fun w8 a hS hF => ?_
  exact je 8 hF hS rfl rfl rfl rfl
 intro a w9 hF hS
 refine ga 1 hF rfl fun a hF => ?_
 apply wo 4 27 31 hF hS
 ·
  intro hg27 a hF
  refine gB 1 3 hF hS rfl rfl rfl fun a hF => ckr hF hS rfl (specIsOp_c _) fun w10 a hS hF => ?_
  exact je 4 hF hS rfl rfl rfl rfl
 intro a w11 hF hS
 refine ga 1 hF rfl fun a hF => ?_
 apply wo 4 32 36 hF hS
 ·
  intro hg32 a hF
  refine gB 2 4 hF hS rfl rfl rfl fun a hF => ckr hF hS rfl (specIsRunning_c (hS.k hm) hw hz hp0) fun w12 a hS hF => ?_
  exact je 4 hF hS rfl rfl rfl rfl
 intro a w13 hF hS
 refine wl_nil <| hK4 _ _ <| cx 36 hF rfl (fun c36 hF => ?_) fun c36 hF => ?_
 ·
  refine ws fun K5 hK5 => gB 1 0 hF hS rfl rfl rfl fun a hF => ww 2 hF hS rfl rfl rfl rfl rfl rfl fun w14 hS => ge hK5 hF rfl fun a hF => ?_
  refine xr ?_
  have e : startS s p o = (s, 0) := if_neg (by
    rw [hwl] at c36; rintro ⟨⟨a, b⟩, c, d⟩
    rcases c36 with ((h | h) | h) | h
    · rw [a] at h; cases h
    · exact h b
    · exact h c
    · unfold isRunning at h; rw [a, decide_eq_true b, decide_eq_true d] at h; cases h)
  refine ret2c rfl ag75 hF hS (i := 2) rfl sz75 rfl rfl ⟨vs14, ?_, ?_⟩
  · rw [e] <;> rfl
  · rw [e]; exact hS.pick [1] (by decide) rfl
 rw [hwl] at c36
 obtain ⟨hso, hp1⟩ := (⟨c36.1.1.1, by omega⟩ : stateOk s = true ∧ (0 ≤ p ∧ p < s.threads.length))
 obtain ⟨p, rfl⟩ : ∃ k : Nat, p = (k : Int) := ⟨p.toNat, by omega⟩
 have hp : p < s.threads.length := by omega
 have hxt := at0_nat hp
 replace hS := hS.pull (p := 1) rfl; dsimp only [List.eraseIdx] at hS
 replace hS : Sep W (Own intEK (sv (vs14.getD 0 (none, 0, 0))) s.cells :: Own intEK (sv (vs14.getD 1 (none, 0, 0))) s.generations :: Own threadEK (sv (vs14.getD 2 (none, 0, 0))) s.threads :: _) _ := hS.part_open
 dsimp only [stateEK] at hS
 generalize vs14.getD 0 (none, 0, 0) = z0 at hS
 generalize vs14.getD 1 (none, 0, 0) = z1 at hS
 generalize vs14.getD 2 (none, 0, 0) = z2 at hS
 obtain ⟨gt, ot, mt, ct, rfl⟩ := hS.elt_form (q := 2) rfl hxt
 have hmt : mt = s.threads.length := hS.own_len (q := 2) (s := (some ⟨gt, ot, none⟩, mt, ct)) rfl
 replace hS := hS.set_form (q := 2) rfl hxt; dsimp only [List.set] at hS
 have hf := Fit.of hso hw hp
 have hlg := hf.lg
 have hpc0 : (at0 s.threads (p : Int)).pc = 0 := by
   have h9 := c36.2; unfold isRunning at h9; rw [hso, decide_eq_true (show 0 ≤ (p : Int) ∧ (p : Int) ≤ s.threads.length - 1 by omega)] at h9; simpa using h9
 have hrc : refusalOf s (p : Int) o = refusalOf s (p : Int) o := rfl
 have hz1 := hf.sizes; unfold sizesOk at hz1
 have hgo : (stateOk s = true ∧ (0 ≤ (p : Int) ∧ (p : Int) ≤ s.threads.length - 1)) ∧ o.ok ∧ (at0 s.threads (p : Int)).pc = 0 := ⟨⟨hso, by omega⟩, c36.1.2, hpc0⟩
 refine wp_skip <| hK3 _ _ <| ws fun K6 hK6 => gB 2 6 hF hS rfl rfl rfl fun a hF => gB 1 5 hF hS rfl rfl rfl fun a hF => ckr hF hS rfl (specRefusal_c (hS.k hm) hw (by omega) hp0) fun w15 a hS hF => ge hK6 hF rfl fun a hF => ?_
 refine ws fun K7 hK7 => gB 3 3 hF hS rfl rfl rfl fun a hF => gB 1 5 hF hS rfl rfl rfl fun a hF => ?_
 refine wl hF rfl rfl rfl (r_index sl73 (hF.ev rfl) (hF.ev rfl) (by omega) (by first | omega | (dsimp only; omega))) fun a hF => ?_
 refine ga 1 hF rfl fun a hF => ?_
 refine wl_estoren (us := [_, _, _]) (q := 2) (j := 1) (⟨_, ⟨_, _, _⟩, ⟨_, _⟩, _, _, _, _, _, _, _, _, _, _, _, _, _⟩ : Sl.Thread) hF hS hp rfl sz42 (hF.ev rfl) rfl ((hF.ev rfl).trans rfl) rfl (fun _ => ⟨rfl, rfl⟩) (fun _ => by dsimp only [threadEK, Thread.encv, List.take, List.drop, List.cons_append, List.nil_append, List.length_cons, List.length_nil, Nat.reduceAdd] <;> rfl) (by intro _; rfl) fun w16 hS => ?_; dsimp only [List.set] at hS
 refine wl_nil <| hK7 _ _ <| ws fun K8 hK8 => ga 2 hF rfl fun a hF => ?_
 replace hS := hS.pm 7 [3, 2, 0, 1, 4, 5, 6] rfl
 refine ck hF rfl (l10Finish_c (s := s) hp hS) ?_; rintro v w17 a ⟨rfl, hS⟩ hF
 refine wl_nil <| hK8 _ _ <| wp_seq_k fun K9 hK9 => rg hF rfl fun a hF => cx 52 hF rfl (fun c52 hF => ?_) fun c52 hF => ?_
 ·
  refine ws fun K11 hK11 => gB 1 0 hF hS rfl rfl rfl fun a hF => ww 4 hF hS rfl rfl rfl rfl rfl rfl fun w18 hS => ge hK11 hF rfl fun a hF => ?_
  refine xr ?_
  have e : startS s (p : Int) o = (setT s p (endT { (at0 s.threads (p : Int)) with op := o } (refusalOf s (p : Int) o) 0), 2) := by
    unfold startS; rw [if_pos hgo, if_neg c52]; rfl
  refine ret2c rfl ag75 hF hS (i := 4) rfl sz75 rfl rfl ⟨[z0, z1, (some ⟨gt, ot, none⟩, mt, ct)], ?_, ?_⟩
  · rw [e] <;> rfl
  · rw [e]; exact hS.part_of [2, 3, 1] (by decide) rfl
 rw [c52] at hS
 refine wp_skip <| hK9 _ _ <| ws fun K12 hK12 => gB 3 0 hF hS rfl rfl rfl fun a hF => ?_
 refine wl hF rfl rfl rfl (r_index sl73 (hF.ev rfl) (hF.ev rfl) (by omega) (by first | omega | (dsimp only; omega))) fun a hF => ?_
 refine ge hK12 hF rfl fun a hF => wp_seq_k fun K13 hK13 => rh 5 hF hS rfl rfl rfl fun a hF => wp_block <| rg hF rfl fun a hF => cx 101 hF rfl (fun c101 hF => ?_) fun c101 hF => ?_
 ·
  refine wp_region_lit <| ga 3 hF rfl fun a hF => ?_
  refine es 1 0 hF hS hp rfl rfl rfl rfl rfl rfl fun w19 hS => ?_
  refine wl_nil ?_
  refine xt ?_
  refine hK13 _ _ <| ws fun K16 hK16 => gB 1 0 hF hS rfl rfl rfl fun a hF => ww 4 hF hS rfl rfl rfl rfl rfl rfl fun w20 hS => ge hK16 hF rfl fun a hF => ?_
  refine xr ?_
  have e : startS s (p : Int) o = (setT s p (startT (at0 s.threads (p : Int)) o s.generations), 1) := by
    unfold startS; rw [if_pos hgo, if_pos c52]; rfl
  have e9 : startT (at0 s.threads (p : Int)) o s.generations = { endT { (at0 s.threads (p : Int)) with op := o } 0 0 with pc := 1 } := by
    unfold startT; rw [if_pos c101]
  refine ret2c rfl ag75 hF hS (i := 4) rfl sz75 rfl rfl ⟨[z0, z1, (some ⟨gt, ot, none⟩, mt, ct)], ?_, ?_⟩
  · rw [e] <;> rfl
  · rw [e, e9]; exact hS.part_of [2, 3, 1] (by decide) rfl
 refine rg hF rfl fun a hF => cx 106 hF rfl (fun c106 hF => ?_) fun c106 hF => ?_
 ·
  refine wp_region_lit <| ga 3 hF rfl fun a hF => ?_
  refine es 1 0 hF hS hp rfl rfl rfl rfl rfl rfl fun w21 hS => ?_
  refine wl_nil ?_
  refine xt ?_
  refine hK13 _ _ <| ws fun K18 hK18 => gB 1 0 hF hS rfl rfl rfl fun a hF => ww 4 hF hS rfl rfl rfl rfl rfl rfl fun w22 hS => ge hK18 hF rfl fun a hF => ?_
  refine xr ?_
  have e : startS s (p : Int) o = (setT s p (startT (at0 s.threads (p : Int)) o s.generations), 1) := by
    unfold startS; rw [if_pos hgo, if_pos c52]; rfl
  have e9 : startT (at0 s.threads (p : Int)) o s.generations = { endT { (at0 s.threads (p : Int)) with op := o } 0 0 with pc := 10 } := by
    unfold startT; rw [if_neg c101, if_pos c106]
  refine ret2c rfl ag75 hF hS (i := 4) rfl sz75 rfl rfl ⟨[z0, z1, (some ⟨gt, ot, none⟩, mt, ct)], ?_, ?_⟩
  · rw [e] <;> rfl
  · rw [e, e9]; exact hS.part_of [2, 3, 1] (by decide) rfl
 refine rg hF rfl fun a hF => cx 111 hF rfl (fun c111 hF => ?_) fun c111 hF => ?_
 ·
  refine wp_region_lit <| ga 3 hF rfl fun a hF => ?_
  refine es 1 0 hF hS hp rfl rfl rfl rfl rfl rfl fun w23 hS => ?_
  refine wl_nil ?_
  refine xt ?_
  refine hK13 _ _ <| ws fun K20 hK20 => gB 1 0 hF hS rfl rfl rfl fun a hF => ww 4 hF hS rfl rfl rfl rfl rfl rfl fun w24 hS => ge hK20 hF rfl fun a hF => ?_
  refine xr ?_
  have e : startS s (p : Int) o = (setT s p (startT (at0 s.threads (p : Int)) o s.generations), 1) := by
    unfold startS; rw [if_pos hgo, if_pos c52]; rfl
  have e9 : startT (at0 s.threads (p : Int)) o s.generations = { endT { (at0 s.threads (p : Int)) with op := o } 0 0 with pc := 80 } := by
    unfold startT; rw [if_neg c101, if_neg c106, if_pos c111]
  refine ret2c rfl ag75 hF hS (i := 4) rfl sz75 rfl rfl ⟨[z0, z1, (some ⟨gt, ot, none⟩, mt, ct)], ?_, ?_⟩
  · rw [e] <;> rfl
  · rw [e, e9]; exact hS.part_of [2, 3, 1] (by decide) rfl
 refine rg hF rfl fun a hF => cx 116 hF rfl (fun c116 hF => ?_) fun c116 hF => ?_
 ·
  refine wp_region_lit <| ga 3 hF rfl fun a hF => ?_
  refine es 1 0 hF hS hp rfl rfl rfl rfl rfl rfl fun w25 hS => ?_
  refine wl_nil ?_
  refine xt ?_
  refine hK13 _ _ <| ws fun K22 hK22 => gB 1 0 hF hS rfl rfl rfl fun a hF => ww 4 hF hS rfl rfl rfl rfl rfl rfl fun w26 hS => ge hK22 hF rfl fun a hF => ?_
  refine xr ?_
  have e : startS s (p : Int) o = (setT s p (startT (at0 s.threads (p : Int)) o s.generations), 1) := by
    unfold startS; rw [if_pos hgo, if_pos c52]; rfl
  have e9 : startT (at0 s.threads (p : Int)) o s.generations = { endT { (at0 s.threads (p : Int)) with op := o } 0 0 with pc := 50 } := by
    unfold startT; rw [if_neg c101, if_neg c106, if_neg c111, if_pos c116]
  refine ret2c rfl ag75 hF hS (i := 4) rfl sz75 rfl rfl ⟨[z0, z1, (some ⟨gt, ot, none⟩, mt, ct)], ?_, ?_⟩
  · rw [e] <;> rfl
  · rw [e, e9]; exact hS.part_of [2, 3, 1] (by decide) rfl
 refine ws fun K23 hK23 => ga 3 hF rfl fun a hF => ?_
 refine es 1 0 hF hS hp rfl rfl rfl rfl rfl rfl fun w27 hS => ?_
 refine wl_nil <| hK23 _ _ <| ws fun K24 hK24 => ga 3 hF rfl fun a hF => ?_
 obtain ⟨ce66, ke66, ze66, he66⟩ := hS.eltK (q := 1) hp rfl; have kk66 := ke66; obtain ⟨u66_0, u66_1, u66_2, u66_3, u66_4, rfl, f66_0, f66_1, f66_2, f66_3, f66_4⟩ := ke66
 obtain ⟨Ae66, qe66, rfl, _, hme66⟩ := f66_1.sl; unfold maxLen at hme66
 refine wl hF rfl rfl rfl (r_load1 sc29 (hF.ev rfl) (he66 15 _ rfl)) fun a hF => ga 1 hF rfl fun a hF => ?_
 replace hF : Fr _ ((67, vi ((at0 s.threads (p : Int)).free.length : Int)) :: _) a := hF
 refine ge hK24 hF rfl fun a hF => rg hF rfl fun a hF => cx 69 hF rfl (fun c69 hF => ?_) fun c69 hF => ?_
 ·
  obtain ⟨A0_, A1_, A2_, A3_, A4_, k0_, k1_, k2_, k3_, k4_, ⟨n0_, n1_, n2_, n3_, n4_⟩, ⟨q0_, q1_, q2_, q3_, q4_⟩, hS_⟩ := Sep.thr_lend (t := { (at0 s.threads (p : Int)) with op := o, result := ⟨0, 0⟩, pc := 30, node := 0, prev := 0, curr := 0, next := 0, seen := 0, stamp := 0, at_ := 0, found := [] }) (hS.pm 7 [1, 0, 2, 3, 4, 5, 6] rfl) hp; replace hS := hS_; clear hS_; unfold maxLen at n0_ n1_ n2_ n3_ n4_; try dsimp only at n0_ n1_ n2_ n3_ n4_ q0_ q1_ q2_ q3_ q4_
  dsimp only [Thread.encv] at hS
  have hla := hf.last c69; unfold lastF at hla
  refine ws fun K26 hK26 => ga 3 hF rfl fun a hF => wl hF rfl rfl rfl (r_load1 sc29 (hF.ev rfl) (hS.but1 (q := 5) (j := 15) rfl rfl)) fun a hF => ga 2 hF rfl fun a hF => ?_
  have hw_ : IntKind.i64.wrap (((at0 s.threads (p : Int)).free.length : Int) - 1) = (((at0 s.threads (p : Int)).free.length - 1 : Nat) : Int) := by rw [w64_id (by omega) (by omega)]; omega
  rw [hw_] at hF; clear hw_
  obtain ⟨g76, o76, m76, q76, hv76, hm76, hl76, hc76⟩ := Rd.atF ((hS.own_rd (i := 1) rfl)) (a := a) (X := .tmp 75) (hF.ev rfl) (by omega) (by omega)
  refine wl hF rfl rfl rfl (r_index sl29 ((hF.ev rfl).trans hv76) (hF.ev rfl) (by omega) (by first | omega | (simp at hm76; omega))) fun a hF => ?_
  refine wl hF rfl rfl rfl (r_load1 sc3 (hF.ev rfl) (hc76 0 _ rfl)) fun a hF => ge hK26 hF rfl fun a hF => ws fun K27 hK27 => ga 4 hF rfl fun a hF => wl hF rfl rfl rfl (r_load1 sc29 (hF.ev rfl) (hS.but1 (q := 5) (j := 15) rfl rfl)) fun a hF => ga 2 hF rfl fun a hF => ?_
  have hw_ : IntKind.i64.wrap (((at0 s.threads (p : Int)).free.length : Int) - 1) = (((at0 s.threads (p : Int)).free.length - 1 : Nat) : Int) := by rw [w64_id (by omega) (by omega)]; omega
  rw [hw_] at hF; clear hw_
  refine wl hF rfl rfl rfl (r_cuthi (j := (at0 s.threads (p : Int)).free.length - 1) sl29 (hF.ev rfl) ((hF.ev rfl).trans (by first | rfl | (congr 1; omega))) (by omega)) fun a hF => ?_
  replace hS := hS.own_cuthi (q := 1) (j := (at0 s.threads (p : Int)).free.length - 1) rfl (by omega); dsimp only [List.set] at hS
  refine ga 2 hF rfl fun a hF => ?_
  refine wl_bstore (q := 5) (j := 15) hF hS rfl sz29 (hF.ev rfl) rfl (hF.ev rfl) rfl rfl fun w28 hS => ?_; dsimp only [List.set] at hS
  refine wl_nil <| hK27 _ _ <| ws fun K28 hK28 => gB 5 6 hF hS rfl rfl rfl fun a hF => ?_
  obtain ⟨g93, o93, m93, q93, hv93, hm93, hl93, hc93⟩ := Rd.atF ((hS.own_rd (i := 8) rfl)) (a := a) (X := .tmp 92) (hF.ev rfl) (by omega) (by omega)
  refine wl hF rfl rfl rfl (r_index sl29 ((hF.ev rfl).trans hv93) (hF.ev rfl) (by omega) (by first | omega | (simp at hm93; omega))) fun a hF => ?_
  refine wl hF rfl rfl rfl (r_load1 sc3 (hF.ev rfl) (hc93 0 _ rfl)) fun a hF => ckr hF hS rfl (specMakeHandle_c) fun w29 a hS hF => ga 2 hF rfl fun a hF => ?_
  refine wl_bstore (q := 5) (j := 7) hF hS rfl sz3 (hF.ev rfl) rfl (hF.ev rfl) rfl rfl fun w30 hS => ?_; dsimp only [List.set] at hS
  refine wl_nil <| hK28 _ _ <| wp_region_lit <| ga 3 hF rfl fun a hF => ?_
  refine wl_bstore (q := 5) (j := 0) hF hS rfl sz3 (hF.ev rfl) rfl ec rfl rfl fun w31 hS => ?_; dsimp only [List.set] at hS
  refine wl_nil ?_
  refine xt ?_
  refine hK13 _ _ <| ws fun K29 hK29 => gB 1 6 hF hS rfl rfl rfl fun a hF => ww 9 hF hS rfl rfl rfl rfl rfl rfl fun w32 hS => ge hK29 hF rfl fun a hF => ?_
  refine xr ?_
  replace hS := Sep.thr_back (t' := { endT { (at0 s.threads (p : Int)) with op := o } 0 0 with free := (at0 s.threads (p : Int)).free.take ((at0 s.threads (p : Int)).free.length - 1), node := makeHandle (lastF (at0 s.threads (p : Int))) (at0 s.generations (lastF (at0 s.threads (p : Int)))), pc := 32 }) (y0 := (_, _, _)) (y1 := (_, _, _)) (y2 := (_, _, _)) (y3 := (_, _, _)) (y4 := (_, _, _)) hS rfl
  have e : startS s (p : Int) o = (setT s p (startT (at0 s.threads (p : Int)) o s.generations), 1) := by
    unfold startS; rw [if_pos hgo, if_pos c52]; rfl
  have e9 : startT (at0 s.threads (p : Int)) o s.generations = { endT { (at0 s.threads (p : Int)) with op := o } 0 0 with free := (at0 s.threads (p : Int)).free.take ((at0 s.threads (p : Int)).free.length - 1), node := makeHandle (lastF (at0 s.threads (p : Int))) (at0 s.generations (lastF (at0 s.threads (p : Int)))), pc := 32 } := by
    unfold startT; rw [if_neg c101, if_neg c106, if_neg c111, if_neg c116, if_pos c69]
  refine ret2c rfl ag75 hF hS (i := 4) rfl sz75 rfl rfl ⟨[z0, z1, (some ⟨gt, ot, none⟩, mt, ct)], ?_, ?_⟩
  · rw [e] <;> rfl
  · rw [e, e9]; exact hS.part_of [2, 3, 0] (by decide) rfl
 refine wp_skip ?_
 refine xt ?_
 refine hK13 _ _ <| ws fun K30 hK30 => gB 1 0 hF hS rfl rfl rfl fun a hF => ww 4 hF hS rfl rfl rfl rfl rfl rfl fun w33 hS => ge hK30 hF rfl fun a hF => ?_
 refine xr ?_
 have e : startS s (p : Int) o = (setT s p (startT (at0 s.threads (p : Int)) o s.generations), 1) := by
   unfold startS; rw [if_pos hgo, if_pos c52]; rfl
 have e9 : startT (at0 s.threads (p : Int)) o s.generations = { endT { (at0 s.threads (p : Int)) with op := o } 0 0 with pc := 30 } := by
   unfold startT; rw [if_neg c101, if_neg c106, if_neg c111, if_neg c116, if_neg c69]
 refine ret2c rfl ag75 hF hS (i := 4) rfl sz75 rfl rfl ⟨[z0, z1, (some ⟨gt, ot, none⟩, mt, ct)], ?_, ?_⟩
 · rw [e] <;> rfl
 · rw [e, e9]; exact hS.part_of [2, 3, 1] (by decide) rfl
set_option maxRecDepth 20000
variable {tl : List Value}
def readS (s : Sl.State) (t : Sl.Thread) (p : Int) : Sl.State × Sl.Thread :=
  if t.pc = 16 then (faultS s t.curr, { t with stamp := loadC s.cells (cellOf s t.curr 0), pc := if loadC s.cells (cellOf s t.curr 0) = 0 then 17 else if loadC s.cells (cellOf s t.curr 0) ≤ t.snapshot then 19 else 15 })
  else if t.pc = 17 then (s, { t with seen := at0 s.cells 0, pc := 18 })
  else if t.pc = 18 then (swapS (faultS s t.curr) (cellOf s t.curr 0) 0 t.seen, { t with pc := 16 })
  else if t.pc = 19 then (faultS s t.curr, { t with result := ⟨0, loadC s.cells (cellOf s t.curr 1)⟩, pc := 20 })
  else if t.pc = 20 then (putS s (hazardCell s.config p 0) 0, { t with pc := 21 })
  else if t.pc = 21 then (putS s (hazardCell s.config p 1) 0, endT t t.result.code t.result.value)
  else (s, t)
def isR (n : Int) : Bool := decide (16 ≤ n ∧ n ≤ 21)
theorem l13Read_c {W w : World} {l : List Res} {g gt ot mt ct p : Nat} {z0 z1 : Slv} {s : Sl.State} {t : Sl.Thread} (hp : p < s.threads.length) (hf : Fit s t) (hS : Sep W (Box g ((s).encw tl (sv z0) (sv z1) (.slice (some ⟨gt, ot, none⟩) mt ct)) :: Own intEK (sv z0) (s).cells :: Own intEK (sv z1) (s).generations :: Own threadEK (.slice (some ⟨gt, ot, none⟩) mt ct) (s.threads.set p t) :: l) w) : Calls Tryz.prog 93 #[.pointer (some ⟨g, 0, none⟩), vi (p : Int)] w (Ret fun v w' => v = .tuple #[] ∧ Sep W (Box g (((readS s t (p : Int)).1).encw tl (sv z0) (sv z1) (.slice (some ⟨gt, ot, none⟩) mt ct)) :: Own intEK (sv z0) ((readS s t (p : Int)).1).cells :: Own intEK (sv z1) ((readS s t (p : Int)).1).generations :: Own threadEK (.slice (some ⟨gt, ot, none⟩) mt ct) (s.threads.set p (readS s t (p : Int)).2) :: l) w') := by
 refine cfr Tryz.func93 Tryz.ntmps93 fun a hF => ?_
 have hl0 := hS.own_len (q := 1) rfl
 have hl1 := hS.own_len (q := 2) rfl
 have hmt : mt = s.threads.length := by have := hS.own_len (q := 3) (s := (some ⟨gt, ot, none⟩, mt, ct)) rfl; simpa using this
 have hlc := hf.two
 refine ws fun K1 hK1 => gB 5 0 hF hS rfl rfl rfl fun a hF => ?_
 refine wl hF rfl rfl rfl (r_index sl73 (hF.ev rfl) (hF.ev rfl) (by omega) (by first | omega | (dsimp only; omega))) fun a hF => ?_
 refine ge hK1 hF rfl fun a hF => ws fun K2 hK2 => ga 3 hF rfl fun a hF => wl hF rfl rfl rfl (r_load1 sc3 (hF.ev rfl) (hS.elt1 (q := 3) (j := 0) hp rfl (fun _ => rfl))) fun a hF => wl_nil <| hK2 _ _ <| wp_block <| rg hF rfl fun a hF => ?_
 refine cx 16 hF rfl (fun c16 hF => ?_) fun c16 hF => ?_
 ·
  refine ws fun K4 hK4 => ga 6 hF rfl fun a hF => wl hF rfl rfl rfl (r_load1 sc3 (hF.ev rfl) (hS.elt1 (q := 3) (j := 9) hp rfl (fun _ => rfl))) fun a hF => ?_
  replace hS := hS.pm 4 [0, 2, 1, 3] rfl
  refine ck hF rfl (l9Cell_c (s := s) hf.curr hf.lg hS) ?_; rintro v w1 a ⟨rfl, hS⟩ hF
  refine ckr hF hS rfl (l9LoadR_c (fun j u hu => hS.box7 (i := 0) rfl j u hu) (hS.own_rd (i := 2) rfl)) fun w2 a hS hF => ga 2 hF rfl fun a hF => ?_
  refine es 3 12 hF hS hp rfl rfl rfl rfl rfl rfl fun w3 hS => ?_
  refine wl_nil <| hK4 _ _ <| ws fun K5 hK5 => ga 3 hF rfl fun a hF => ?_
  refine es 3 0 hF hS hp rfl rfl rfl rfl rfl rfl fun w4 hS => ?_
  refine wl_nil <| hK5 _ _ <| wp_block <| ws fun K6 hK6 => ga 3 hF rfl fun a hF => wl hF rfl rfl rfl (r_load1 sc3 (hF.ev rfl) (hS.elt1 (q := 3) (j := 12) hp rfl (fun _ => rfl))) fun a hF => ge hK6 hF rfl fun a hF => cx 32 hF rfl (fun c32 hF => ?_) fun c32 hF => ?_
  ·
   refine wp_region_lit <| ga 3 hF rfl fun a hF => ?_
   refine es 3 0 hF hS hp rfl rfl rfl rfl rfl rfl fun w5 hS => ?_
   refine wl_nil ?_
   refine xt ?_
   refine ret0n rfl hF ⟨rfl, ?_⟩
   unfold readS
   rw [if_pos c16, if_pos c32]
   exact (hS.pm 4 [0, 2, 1, 3] rfl)
  refine wp_seq_k fun K7 hK7 => wp_region_calm (by kernel_rfl) (by kernel_rfl) <| qa 3 hF tk rfl fun a hF => wq hF rfl rfl rfl (fun w_ hB_ => r_load1 sc3 (hF.ev rfl) ((hS.ext hB_).elt1 (q := 3) (j := 12) hp rfl (fun _ => rfl))) fun a hF => qa 3 hF tk rfl fun a hF => wq hF rfl rfl rfl (fun w_ hB_ => r_load1 sc3 (hF.ev rfl) ((hS.ext hB_).elt1 (q := 3) (j := 6) hp rfl (fun _ => rfl))) fun a hF => qa 2 hF tk rfl fun a hF => ?_
  refine wpQuiet_nil ?_; intro w6 hB_; have hS := hS.ext hB_
  refine hK7 _ _ <| cx 41 hF rfl (fun c41 hF => ?_) fun c41 hF => ?_
  ·
   refine wp_region_lit <| ga 3 hF rfl fun a hF => ?_
   refine es 3 0 hF hS hp rfl rfl rfl rfl rfl rfl fun w7 hS => ?_
   refine wl_nil ?_
   refine xt ?_
   refine ret0n rfl hF ⟨rfl, ?_⟩
   unfold readS
   rw [if_pos c16, if_neg c32, if_pos c41]
   exact (hS.pm 4 [0, 2, 1, 3] rfl)
  refine wp_skip ?_
  refine xt ?_
  refine ret0n rfl hF ⟨rfl, ?_⟩
  unfold readS
  rw [if_pos c16, if_neg c32, if_neg c41]
  exact (hS.pm 4 [0, 2, 1, 3] rfl)
 refine rg hF rfl fun a hF => cx 54 hF rfl (fun c54 hF => ?_) fun c54 hF => ?_
 ·
  refine ws fun K9 hK9 => gB 5 0 hF hS rfl rfl rfl fun a hF => ?_
  obtain ⟨g61, o61, m61, q61, hv61, hm61, hl61, hc61⟩ := Rd.atF ((hS.own_rd (i := 1) rfl)) (a := a) (X := .const (.int .i64 0)) ec (by omega) (by omega)
  refine wl hF rfl rfl rfl (r_index sl29 ((hF.ev rfl).trans hv61) ec (by omega) (by first | omega | (simp at hm61; omega))) fun a hF => ?_
  refine wl hF rfl rfl rfl (r_load1 sc3 (hF.ev rfl) (hc61 0 _ rfl)) fun a hF => ga 2 hF rfl fun a hF => ?_
  refine es 3 11 hF hS hp rfl rfl rfl rfl rfl rfl fun w8 hS => ?_
  refine wl_nil <| hK9 _ _ <| wp_region_lit <| ga 3 hF rfl fun a hF => ?_
  refine es 3 0 hF hS hp rfl rfl rfl rfl rfl rfl fun w9 hS => ?_
  refine wl_nil ?_
  refine xt ?_
  refine ret0n rfl hF ⟨rfl, ?_⟩
  unfold readS
  rw [if_neg c16, if_pos c54]
  exact hS
 refine rg hF rfl fun a hF => cx 68 hF rfl (fun c68 hF => ?_) fun c68 hF => ?_
 ·
  refine wp_seq_k fun K11 hK11 => wp_region_J (is := [0, 1, 2, 3, 4, 5, 7, 8, 9, 10, 6, 11]) (fun (f : Int) r => Box g (s.encfw tl (sv z0) (sv z1) (.slice (some ⟨gt, ot, none⟩) mt ct) f) :: r) _ (s.faults) [11] (by kernel_rfl) hF hS (by kernel_rfl) <| tq 5 rfl <| tj_load [6, 11] (by kernel_rfl) rfl (gw0 rfl) rfl rfl (fun a w_ x_ hF hS => r_load1 sc3 (hF.ev rfl) (hS.elt1 (q := 3) (j := 9) hp rfl (fun _ => rfl))) <| tq 3 rfl <| tj_load [11] (by kernel_rfl) rfl (gw0 rfl) rfl rfl (fun a w_ x_ hF hS => r_load1 sc3 (hF.ev rfl) (hS.elt1 (q := 3) (j := 11) hp rfl (fun _ => rfl))) ?_
  refine tj_mc (by kernel_rfl) rfl (gw0 rfl) rfl rfl (fun a w_ hF => r_call3 en118 (hF.ev rfl) (hF.ev rfl) ec) (fun w_ hS => calls_unit (l9Cell_c (s := s) hf.curr hf.lg (hS.pm 4 [0, 2, 1, 3] rfl))) (fun _ w_ h_ => ⟨_, (h_.pm 4 [0, 2, 1, 3] rfl)⟩) ?_; intro _
  refine tj_fin (tl := [_]) (by kernel_rfl) rfl ?_; intro a w10 hF hS; try dsimp only at hS
  replace hS := hS.pm 4 [0, 2, 1, 3] rfl
  refine ck hF rfl (l9Swap_c (s := faultS s t.curr) hS) ?_; rintro v w11 a ⟨rfl, hS⟩ hF
  refine wl_nil ⟨rfl, ?_⟩
  refine hK11 _ _ <| wp_region_lit <| ga 3 hF rfl fun a hF => ?_
  refine es 3 0 hF hS hp rfl rfl rfl rfl rfl rfl fun w12 hS => ?_
  refine wl_nil ?_
  refine xt ?_
  refine ret0n rfl hF ⟨rfl, ?_⟩
  unfold readS
  rw [if_neg c16, if_neg c54, if_pos c68]
  exact hS
 refine rg hF rfl fun a hF => cx 85 hF rfl (fun c85 hF => ?_) fun c85 hF => ?_
 ·
  refine ws fun K13 hK13 => ga 5 hF rfl fun a hF => wl hF rfl rfl rfl (r_load1 sc3 (hF.ev rfl) (hS.elt1 (q := 3) (j := 9) hp rfl (fun _ => rfl))) fun a hF => ?_
  replace hS := hS.pm 4 [0, 2, 1, 3] rfl
  refine ck hF rfl (l9Cell_c (s := s) hf.curr hf.lg hS) ?_; rintro v w13 a ⟨rfl, hS⟩ hF
  refine ckr hF hS rfl (l9LoadR_c (fun j u hu => hS.box7 (i := 0) rfl j u hu) (hS.own_rd (i := 2) rfl)) fun w14 a hS hF => ge hK13 hF rfl fun a hF => ws fun K14 hK14 => ga 2 hF rfl fun a hF => wl hF rfl rfl rfl (r_build (bd44_0_1 _ _) ⟨rfl, ec, rfl, (hF.ev rfl), trivial⟩) fun a hF => ga 2 hF rfl fun a hF => ?_
  refine wl_estoren (us := [_, _]) (q := 3) (j := 4) (⟨_, ⟨_, _, _⟩, ⟨_, _⟩, _, _, _, _, _, _, _, _, _, _, _, _, _⟩ : Sl.Thread) hF hS hp rfl sz44 (hF.ev rfl) rfl ((hF.ev rfl).trans rfl) rfl (fun _ => ⟨rfl, rfl⟩) (fun _ => by dsimp only [threadEK, Thread.encv, List.take, List.drop, List.cons_append, List.nil_append, List.length_cons, List.length_nil, Nat.reduceAdd] <;> rfl) (by intro _; rfl) fun w15 hS => ?_; dsimp only [List.set] at hS
  refine wl_nil <| hK14 _ _ <| wp_region_lit <| ga 3 hF rfl fun a hF => ?_
  refine es 3 0 hF hS hp rfl rfl rfl rfl rfl rfl fun w16 hS => ?_
  refine wl_nil ?_
  refine xt ?_
  refine ret0n rfl hF ⟨rfl, ?_⟩
  unfold readS
  rw [if_neg c16, if_neg c54, if_neg c68, if_pos c85]
  exact (hS.pm 4 [0, 2, 1, 3] rfl)
 refine rg hF rfl fun a hF => cx 103 hF rfl (fun c103 hF => ?_) fun c103 hF => ?_
 ·
  refine ws fun K16 hK16 => ga 4 hF rfl fun a hF => wl hF rfl rfl rfl (r_loadn ag25 (hF.ev rfl) (hS.boxn (vs := [_, _, _, _, _, _]) (i := 0) (m := 6) rfl rfl) sz25) fun a hF => ga 1 hF rfl fun a hF => ckr hF hS rfl (specHazardCell_c _ _ _) fun w17 a hS hF => ?_
  refine ck hF rfl (l9Put_c (s := s) hS) ?_; rintro v w18 a ⟨rfl, hS⟩ hF
  refine wl_nil <| hK16 _ _ <| wp_region_lit <| ga 3 hF rfl fun a hF => ?_
  refine es 3 0 hF hS hp rfl rfl rfl rfl rfl rfl fun w19 hS => ?_
  refine wl_nil ?_
  refine xt ?_
  refine ret0n rfl hF ⟨rfl, ?_⟩
  unfold readS
  rw [if_neg c16, if_neg c54, if_neg c68, if_neg c85, if_pos c103]
  exact hS
 refine rg hF rfl fun a hF => cx 116 hF rfl (fun c116 hF => ?_) fun c116 hF => ?_
 ·
  refine ws fun K18 hK18 => ga 4 hF rfl fun a hF => wl hF rfl rfl rfl (r_loadn ag25 (hF.ev rfl) (hS.boxn (vs := [_, _, _, _, _, _]) (i := 0) (m := 6) rfl rfl) sz25) fun a hF => ga 1 hF rfl fun a hF => ckr hF hS rfl (specHazardCell_c _ _ _) fun w20 a hS hF => ?_
  refine ck hF rfl (l9Put_c (s := s) hS) ?_; rintro v w21 a ⟨rfl, hS⟩ hF
  refine wl_nil <| hK18 _ _ <| wp_region_J (is := [0, 1, 2, 3, 4, 5, 6, 7, 8, 9, 10, 11, 12]) (fun (_ : Unit) r => r) _ (()) [12] (by kernel_rfl) hF hS (by kernel_rfl) <| tq 6 rfl <| tj_load [12] (by kernel_rfl) rfl (gw0 rfl) rfl rfl (fun a w_ x_ hF hS => r_load1 sc3 (hF.ev rfl) (hS.elt1 (q := 3) (j := 4) hp rfl (fun _ => rfl))) <| tq 4 rfl <| tj_load [12] (by kernel_rfl) rfl (gw0 rfl) rfl rfl (fun a w_ x_ hF hS => r_load1 sc3 (hF.ev rfl) (hS.elt1 (q := 3) (j := 5) hp rfl (fun _ => rfl))) ?_
  refine tj_fin (tl := [_]) (by kernel_rfl) rfl ?_; intro a w22 hF hS; try dsimp only at hS
  replace hS := hS.pm 4 [0, 3, 1, 2] rfl
  refine ck hF rfl (l10Finish_c (s := putS s (hazardCell s.config (p : Int) 1) 0) hp hS) ?_; rintro v w23 a ⟨rfl, hS⟩ hF
  refine wl_nil ⟨rfl, ?_⟩
  refine xt ?_
  refine ret0n rfl hF ⟨rfl, ?_⟩
  unfold readS
  rw [if_neg c16, if_neg c54, if_neg c68, if_neg c85, if_neg c103, if_pos c116]
  exact (hS.pm 4 [0, 2, 3, 1] rfl)
 refine wp_skip ?_
 refine xt ?_
 refine ret0n rfl hF ⟨rfl, ?_⟩
 unfold readS
 rw [if_neg c16, if_neg c54, if_neg c68, if_neg c85, if_neg c103, if_neg c116]
 exact hS
theorem specIsRead_c {W : World} {n : Int} : Calls Tryz.prog 92 #[vi n] W (Ret fun v w' => v = .bool (isR n) ∧ Below W.heap.size W w') := by
 refine cfr Tryz.func92 Tryz.ntmps92 fun a hF => ?_
 have hS := Sep.refl W
 refine rg hF rfl fun a hF => ws fun K2 hK2 => ga 1 hF rfl fun a hF => ckr hF hS rfl (l1In_c _ _ _) fun w1 a hS hF => ge hK2 hF rfl fun a hF => ?_
 refine xr ?_
 exact ret1 rfl hF rfl ⟨rfl, hS.old⟩
set_option maxRecDepth 20000
def splitIn (xs ys : List Int) : List Int := xs.filter fun x => decide (x ∈ ys)
def splitOut (xs ys : List Int) : List Int := xs.filter fun x => !decide (x ∈ ys)
section
variable {xs ys : List Int} {k : Nat} {x : Int}
theorem in_yes (hx : xs[k]? = some x) (h : x ∈ ys) : splitIn (xs.take (k + 1)) ys = splitIn (xs.take k) ys ++ [x] := by
 simp [splitIn, List.take_add_one, hx, h]
theorem in_no (hx : xs[k]? = some x) (h : ¬ x ∈ ys) : splitIn (xs.take (k + 1)) ys = splitIn (xs.take k) ys := by
 simp [splitIn, List.take_add_one, hx, h]
theorem out_yes (hx : xs[k]? = some x) (h : x ∈ ys) : splitOut (xs.take (k + 1)) ys = splitOut (xs.take k) ys := by
 simp [splitOut, List.take_add_one, hx, h]
theorem out_no (hx : xs[k]? = some x) (h : ¬ x ∈ ys) : splitOut (xs.take (k + 1)) ys = splitOut (xs.take k) ys ++ [x] := by
 simp [splitOut, List.take_add_one, hx, h]
theorem in_le (xs ys : List Int) (k : Nat) : (splitIn (xs.take k) ys).length ≤ xs.length :=
  Nat.le_trans (List.length_filter_le _ _) (by simp; omega)
theorem out_le (xs ys : List Int) (k : Nat) : (splitOut (xs.take k) ys).length ≤ xs.length :=
  Nat.le_trans (List.length_filter_le _ _) (by simp; omega)
theorem out_le' (xs ys : List Int) : (splitOut xs ys).length ≤ xs.length := List.length_filter_le _ _
theorem notin_next (h : ¬ x ∈ xs.take k) {y : Int} (hy : xs[k]? = some y) (e : ¬ y = x) : ¬ x ∈ xs.take (k + 1) := by
 rw [List.take_add_one, hy]
 simp only [Option.toList_some, List.mem_append, List.mem_singleton, not_or]
 exact ⟨h, fun h => e h.symm⟩
theorem mem_at {y : Int} (hy : xs[k]? = some y) (e : y = x) : x ∈ xs := by
 subst e; exact List.mem_of_getElem? hy
theorem notin_all (h : ¬ x ∈ xs.take k) (hk : k ≤ xs.length) (h1 : ¬ (k : Int) < xs.length) : ¬ x ∈ xs := by
 have : k = xs.length := by omega
 subst this
 rwa [List.take_length] at h
end
theorem l8Has_c {W : World} {va : Value} {xs : List Int} {x : Int} (ha : intEK.Rd W va xs) : Calls Tryz.prog 130 #[va, vi x] W (Ret fun v w' => v = .bool (decide (x ∈ xs)) ∧ Below W.heap.size W w') := by
 refine cfr Tryz.func130 Tryz.ntmps130 fun a hF => ?_
 have hS := Sep.refl W
 obtain ⟨A_a, q_a, rfl, hq_a, hn_a⟩ := ha.sl; unfold maxLen at hn_a
 refine rg hF rfl fun a hF => wp_seq_k fun K2 hK2 => rg hF rfl fun a hF => wp_block <| wp_loop_g (σ := Nat) (fun k a w => k ≤ xs.length ∧ ¬ x ∈ xs.take k ∧ Sep W [] w ∧ Fr 18 [(5, vi k), (1, vi x), (0, .slice A_a xs.length q_a)] a) (fun k => xs.length - k) 0 ?_ ?_
 · exact ⟨Nat.zero_le _, by simp, hS, (((hF.nil.keep hF (t := 0) rfl).keep hF (t := 1) rfl).keep hF (t := 5) rfl)⟩
 rintro k a w ⟨hk, hn, hS, hF⟩
 refine wp_seq_k fun K4 hK4 => rg hF rfl fun a hF => ?_
 first | refine wc_dec (hF.ev rfl) (fun c9 => ?_) (fun c9 => ?_) | refine wc_ndec (hF.ev rfl) (fun c9 => ?_) (fun c9 => ?_) | refine wc_b (hF.ev rfl) (fun c9 => ?_) (fun c9 => ?_)
 ·
  have hlt : k < xs.length := by omega
  obtain ⟨y, hy⟩ : ∃ y, xs[k]? = some y := ⟨_, List.getElem?_eq_getElem hlt⟩
  refine wp_skip <| hK4 _ _ <| wp_seq_k fun K6 hK6 => wp_block <| ws fun K7 hK7 => ga 2 hF rfl fun a hF => ?_
  obtain ⟨g14, o14, m14, q14, hv14, hm14, hl14, hc14⟩ := Rd.idxF (hS.rd ha) hy
  refine wl hF rfl rfl rfl (r_index sl29 ((hF.ev rfl).trans hv14) (hF.ev rfl) (by omega) (by omega)) fun a hF => wl hF rfl rfl rfl (r_load1 sc3 (hF.ev rfl) (hc14 0 _ rfl)) fun a hF => ge hK7 hF rfl fun a hF => ?_
  first | refine wc_dec (hF.ev rfl) (fun c17 => ?_) (fun c17 => ?_) | refine wc_ndec (hF.ev rfl) (fun c17 => ?_) (fun c17 => ?_) | refine wc_b (hF.ev rfl) (fun c17 => ?_) (fun c17 => ?_)
  ·
   refine rg hF rfl fun a hF => ?_
   refine xr ?_
   refine ret1 rfl hF rfl ⟨congrArg Value.bool (Eq.symm ?_), hS.old⟩
   first | exact decide_eq_true (mem_at hy c17) | exact decide_eq_false (notin_all hn hk (by assumption))
  refine wp_skip ?_
  refine xt ?_
  refine hK6 _ _ <| rl hF rfl fun a hF => ?_
  refine xt ?_
  exact ⟨k + 1, ⟨by omega, notin_next hn hy c17, hS, (((hF.nil.keep hF (t := 0) rfl).keep hF (t := 1) rfl).keepE hF (t := 5) rfl (wk (by omega)))⟩, by omega⟩
 refine wp_exit ?_
 refine xt ?_
 refine hK2 _ _ <| rg hF rfl fun a hF => ?_
 refine xr ?_
 refine ret1 rfl hF rfl ⟨congrArg Value.bool (Eq.symm ?_), hS.old⟩
 first | exact decide_eq_true (mem_at hy c17) | exact decide_eq_false (notin_all hn hk (by assumption))
theorem specSplit_c {W : World} {va vb : Value} {xs ys : List Int} (ha : intEK.Rd W va xs) (hb : intEK.Rd W vb ys) (hz : xs.length ≤ 1099511627776) : Calls Tryz.prog 125 #[va, vb] W (Ret (Mk W (fun (γ : Value × Value) => .tuple #[γ.1, γ.2]) (fun γ => [Own intEK γ.1 (splitIn xs ys), Own intEK γ.2 (splitOut xs ys)]))) := by
 refine cfr Tryz.func125 Tryz.ntmps125 fun a hF => ?_
 obtain ⟨A_a, q_a, rfl, hq_a, hn_a⟩ := ha.sl; unfold maxLen at hn_a
 have hS := Sep.refl W
 refine rg hF rfl fun a hF => ws fun K2 hK2 => wl_bslice intEK [] [] rfl hF hS rfl mk29 rfl trivial rfl rfl rfl rfl fun gl_9 w1 a hS hF => ge hK2 hF rfl fun a hF => ws fun K3 hK3 => wl_bslice intEK [] [] rfl hF hS rfl mk29 rfl trivial rfl rfl rfl rfl fun gl_10 w2 a hS hF => ge hK3 hF rfl fun a hF => ?_
 refine wp_seq_k fun K4 hK4 => rg hF rfl fun a hF => wp_block <| wp_loop_g (σ := Nat × Value × Value) (fun s a w => s.1 ≤ xs.length ∧ Sep W [Own intEK s.2.2 (splitOut (xs.take s.1) ys), Own intEK s.2.1 (splitIn (xs.take s.1) ys)] w ∧ Fr 39 [(8, vi s.1), (7, s.2.2), (6, s.2.1), (1, vb), (0, .slice A_a xs.length q_a)] a) (fun s => xs.length - s.1) (0, .slice (some ⟨gl_9, 0, none⟩) 0 0, .slice (some ⟨gl_10, 0, none⟩) 0 0) ?_ ?_
 · exact ⟨Nat.zero_le _, hS, (((((hF.nil.keep hF (t := 0) rfl).keep hF (t := 1) rfl).keep hF (t := 6) rfl).keep hF (t := 7) rfl).keep hF (t := 8) rfl)⟩
 rintro ⟨k, p, q⟩ a w ⟨hk, hS, hF⟩
 dsimp only at hk hS hF
 refine wp_seq_k fun K6 hK6 => rg hF rfl fun a hF => ?_
 first | refine wc_dec (hF.ev rfl) (fun c14 => ?_) (fun c14 => ?_) | refine wc_ndec (hF.ev rfl) (fun c14 => ?_) (fun c14 => ?_) | refine wc_b (hF.ev rfl) (fun c14 => ?_) (fun c14 => ?_)
 ·
  have hlt : k < xs.length := by omega
  obtain ⟨x, hx⟩ : ∃ x, xs[k]? = some x := ⟨_, List.getElem?_eq_getElem hlt⟩
  refine wp_skip <| hK6 _ _ <| wp_seq_k fun K8 hK8 => wp_block <| ws fun K9 hK9 => ga 3 hF rfl fun a hF => ?_
  obtain ⟨g20, o20, m20, q20, hv20, hm20, hl20, hc20⟩ := Rd.idxF (hS.rd ha) hx
  refine wl hF rfl rfl rfl (r_index sl29 ((hF.ev rfl).trans hv20) (hF.ev rfl) (by omega) (by omega)) fun a hF => wl hF rfl rfl rfl (r_load1 sc3 (hF.ev rfl) (hc20 0 _ rfl)) fun a hF => ckr hF hS rfl (l8Has_c (hS.rd hb)) fun w3 a hS hF => wl_nil (hK9 _ _ ?_)
  first | refine wc_dec (hF.ev rfl) (fun c22 => ?_) (fun c22 => ?_) | refine wc_ndec (hF.ev rfl) (fun c22 => ?_) (fun c22 => ?_) | refine wc_b (hF.ev rfl) (fun c22 => ?_) (fun c22 => ?_)
  ·
   refine wp_region_lit <| ga 3 hF rfl fun a hF => ?_
   obtain ⟨g26, o26, m26, q26, hv26, hm26, hl26, hc26⟩ := Rd.idxF (hS.rd ha) hx
   refine wl hF rfl rfl rfl (r_index sl29 ((hF.ev rfl).trans hv26) (hF.ev rfl) (by omega) (by omega)) fun a hF => wl hF rfl rfl rfl (r_load1 sc3 (hF.ev rfl) (hc26 0 _ rfl)) fun a hF => wl_bslice intEK [vi x] [x] rfl hF hS rfl mk29 rfl ⟨rfl, (hF.ev rfl), trivial⟩ rfl rfl rfl rfl fun gl_28 w4 a hS hF => ?_
   refine wl_append (q := 2) hF hS rfl rfl (hS.own_rd (i := 0) rfl) mk29 rfl (hF.ev rfl) (hF.ev rfl) (by have := in_le xs ys k; simp only [List.length_cons, List.length_nil]; omega) (by have := in_le xs ys k; simp only [List.length_cons, List.length_nil]; unfold maxLen; omega) ?_; intro A_29 c_29 w5 a hS_ hF; replace hS := hS_; clear hS_; dsimp only [List.set, List.length_cons, List.length_nil] at hS hF
   refine ga 1 hF rfl fun a hF => wl_nil ?_
   refine xt ?_
   refine hK8 _ _ <| rl hF rfl fun a hF => ?_
   refine xt ?_
   refine ⟨(k + 1, _, _), ⟨by dsimp only; omega, ?_, (((((hF.nil.keep hF (t := 0) rfl).keep hF (t := 1) rfl).keep hF (t := 6) rfl).keep hF (t := 7) rfl).keepE hF (t := 8) rfl (wk (by omega)))⟩, by dsimp only; omega⟩
   dsimp only
   first
     | rw [in_yes hx c22, out_yes hx c22]; exact hS.pick [1, 2] (by decide) rfl
     | rw [in_no hx c22, out_no hx c22]; exact hS.pick [1, 2] (by decide) rfl
  refine wp_region_lit <| ga 3 hF rfl fun a hF => ?_
  obtain ⟨g33, o33, m33, q33, hv33, hm33, hl33, hc33⟩ := Rd.idxF (hS.rd ha) hx
  refine wl hF rfl rfl rfl (r_index sl29 ((hF.ev rfl).trans hv33) (hF.ev rfl) (by omega) (by omega)) fun a hF => wl hF rfl rfl rfl (r_load1 sc3 (hF.ev rfl) (hc33 0 _ rfl)) fun a hF => wl_bslice intEK [vi x] [x] rfl hF hS rfl mk29 rfl ⟨rfl, (hF.ev rfl), trivial⟩ rfl rfl rfl rfl fun gl_35 w6 a hS hF => ?_
  refine wl_append (q := 1) hF hS rfl rfl (hS.own_rd (i := 0) rfl) mk29 rfl (hF.ev rfl) (hF.ev rfl) (by have := out_le xs ys k; simp only [List.length_cons, List.length_nil]; omega) (by have := out_le xs ys k; simp only [List.length_cons, List.length_nil]; unfold maxLen; omega) ?_; intro A_36 c_36 w7 a hS_ hF; replace hS := hS_; clear hS_; dsimp only [List.set, List.length_cons, List.length_nil] at hS hF
  refine ga 1 hF rfl fun a hF => wl_nil ?_
  refine xt ?_
  refine hK8 _ _ <| rl hF rfl fun a hF => ?_
  refine xt ?_
  refine ⟨(k + 1, _, _), ⟨by dsimp only; omega, ?_, (((((hF.nil.keep hF (t := 0) rfl).keep hF (t := 1) rfl).keep hF (t := 6) rfl).keep hF (t := 7) rfl).keepE hF (t := 8) rfl (wk (by omega)))⟩, by dsimp only; omega⟩
  dsimp only
  first
    | rw [in_yes hx c22, out_yes hx c22]; exact hS.pick [1, 2] (by decide) rfl
    | rw [in_no hx c22, out_no hx c22]; exact hS.pick [1, 2] (by decide) rfl
 refine wp_exit ?_
 refine xt ?_
 refine hK4 _ _ <| rg hF rfl fun a hF => ?_
 refine xr ?_
 obtain rfl : k = xs.length := by omega
 rw [List.take_length] at hS
 exact ret2 rfl hF rfl rfl ⟨(_, _), rfl, hS.pick [1, 0] (by decide) rfl⟩
set_option maxRecDepth 20000
def marked (h : Int) : Int := if h = 0 ∨ isHandle h = true ∧ h.tmod 2 = 0 then IntKind.i64.wrap (h + 1) else h
def isNeeded (e : Entry) (ns : List Int) : Bool := ns.any fun n => decide (e.low ≤ n) && decide (n < e.high)
def isPast (e : Entry) (ns : List Int) : Bool := !ns.any fun n => decide (n < e.high)
def dropB (pol key : Int) (ns : List Int) (e : Entry) : Bool := if pol = 1 then isPast e ns else if pol = 2 then !isNeeded e ns && (decide (key < 0) || decide (e.key = key)) else !isNeeded e ns
def splitK (pol key : Int) (es : List Entry) (ns : List Int) : List Entry := es.filter fun e => !dropB pol key ns e
def splitD (pol key : Int) (es : List Entry) (ns : List Int) : List Entry := es.filter fun e => dropB pol key ns e
section
variable {α : Type} {xs : List α} {x : α} {k : Nat} {q : α → Bool}
theorem any_nxt (h : (xs.take k).any q = false) (hx : xs[k]? = some x) (hp : q x = false) : (xs.take (k + 1)).any q = false := by
 rw [List.take_add_one, hx, List.any_append, h]; simp [hp]
theorem any_yes (hx : xs[k]? = some x) (hp : q x = true) : xs.any q = true := List.any_eq_true.2 ⟨x, List.mem_of_getElem? hx, hp⟩
theorem any_done (h : (xs.take k).any q = false) (hk : xs.length ≤ k) : xs.any q = false := by rwa [List.take_of_length_le hk] at h
theorem flt_yes (hx : xs[k]? = some x) (hp : q x = true) : (xs.take (k + 1)).filter q = (xs.take k).filter q ++ [x] := by
 rw [List.take_add_one, hx, List.filter_append]; simp [hp]
theorem flt_no (hx : xs[k]? = some x) (hp : q x = false) : (xs.take (k + 1)).filter q = (xs.take k).filter q := by
 rw [List.take_add_one, hx, List.filter_append]; simp [hp]
theorem flt_le (xs : List α) (q : α → Bool) (k : Nat) : ((xs.take k).filter q).length ≤ xs.length := Nat.le_trans (List.length_filter_le _ _) (by simp; omega)
end
theorem splitE_len (pol key : Int) (es : List Entry) (ns : List Int) : (splitK pol key es ns).length + (splitD pol key es ns).length = es.length := by
 unfold splitK splitD
 induction es with
 | nil => rfl
 | cons x xs ih =>
   simp only [List.filter_cons]
   cases h : dropB pol key ns x <;> simp <;> omega
theorem specMarked_c {W : World} {h : Int} (h1 : int64 h) : Calls Tryz.prog 123 #[vi h] W (Ret fun v w' => v = vi (marked h) ∧ Below W.heap.size W w') := by
 refine cfr Tryz.func123 Tryz.ntmps123 fun a hF => ?_
 have hS := Sep.refl W
 refine rg hF rfl fun a hF => wp_seq_k fun K2 hK2 => ws fun K3 hK3 => ga 3 hF rfl fun a hF => ?_
 apply wo 8 5 13 hF hS
 ·
  intro hg5 a hF
  refine ga 1 hF rfl fun a hF => ckr hF hS rfl (specIsHandle_c h1) fun w1 a hS hF => ga 1 hF rfl fun a hF => ?_
  apply wa 4 8 12 hF hS
  ·
   intro hg8 a hF
   refine ga 1 hF rfl fun a hF => wl_take hF rfl rfl rfl rfl <| wl hF rfl rfl rfl (r_rem (by first | decide | omega) (hF.ev rfl) ec) fun a hF => ?_
   exact je 4 hF hS rfl rfl rfl rfl
  intro a w2 hF hS
  exact je 5 hF hS rfl rfl rfl rfl
 intro a w3 hF hS
 refine wl_nil <| hK3 _ _ <| cx 13 hF rfl (fun c13 hF => ?_) fun c13 hF => ?_
 ·
  refine rg hF rfl fun a hF => ?_
  refine xr ?_
  refine ret1 rfl hF rfl ⟨congrArg vi (Eq.symm ?_), hS.old⟩
  unfold marked
  first | exact if_pos c13 | exact if_neg (by rintro (a | ⟨a, b⟩); exact c13.1 a; rcases c13.2 with c | c; (rw [c] at a; cases a); exact c b)
 refine wp_skip <| hK2 _ _ <| rg hF rfl fun a hF => ?_
 refine xr ?_
 refine ret1 rfl hF rfl ⟨congrArg vi (Eq.symm ?_), hS.old⟩
 unfold marked
 first | exact if_pos c13 | exact if_neg (by rintro (a | ⟨a, b⟩); exact c13.1 a; rcases c13.2 with c | c; (rw [c] at a; cases a); exact c b)
theorem specNeeded_c {W : World} {e : Entry} {va : Value} {xs : List Int} (ha : intEK.Rd W va xs) : Calls Tryz.prog 133 #[.agg e.enc.toArray, va] W (Ret fun v w' => v = .bool (isNeeded e xs) ∧ Below W.heap.size W w') := by
 refine cfr Tryz.func133 Tryz.ntmps133 fun a hF => ?_
 have hS := Sep.refl W
 obtain ⟨A_a, q_a, rfl, hq_a, hn_a⟩ := ha.sl; unfold maxLen at hn_a
 refine ws fun K1 hK1 => wl_box (cs := [_, _, _, _]) hF hS rfl (hF.ev rfl) rfl fun g1 w1 a hS _ hF => ge hK1 hF rfl fun a hF => wp_seq_k fun K2 hK2 => rg hF rfl fun a hF => wp_block ?_
 have hL_ := (((hF.nil.keep hF (t := 4) rfl).keep hF (t := 2) rfl).keep hF (t := 1) rfl)
 refine wp_loop_r (σ := Nat) (fun k L_ => (5, vi k) :: L_) (fun k => (k ≤ xs.length) ∧ ((xs.take k).any (fun n => decide (e.low ≤ n) && decide (n < e.high)) = false)) (fun k => xs.length - k) 0 hS (hL_.keepE hF (t := 5) rfl rfl) ?_ ?_
 · exact ⟨Nat.zero_le _, rfl⟩
 rintro k a w2 ⟨hk, hn⟩ hS hF; try dsimp only at hF; try dsimp only at hS
 refine wp_seq_k fun K4 hK4 => rg hF rfl fun a hF => cx 9 hF rfl (fun c9 hF => ?_) fun c9 hF => ?_
 ·
  have hlt : k < xs.length := by omega
  have hx := at0_nat hlt
  refine wp_skip <| hK4 _ _ <| wp_seq_k fun K6 hK6 => wp_block <| wp_seq_k fun K7 hK7 => wp_region_calm (by kernel_rfl) (by kernel_rfl) <| qb 4 0 hF tk hS rfl rfl rfl fun a hF => ?_
  obtain ⟨g16, o16, m16, q16, hv16, hm16, hl16, hc16⟩ := Rd.atF (ha) (a := a) (X := .tmp 15) (hF.ev rfl) (by omega) (by omega)
  refine wq hF rfl rfl rfl (fun w_ hB_ => r_index sl29 ((hF.ev rfl).trans hv16) (hF.ev rfl) (by omega) (by first | omega | (simp at hm16; omega))) fun a hF => ?_
  refine wq hF rfl rfl rfl (fun w_ hB_ => r_load1 sc3 (hF.ev rfl) (cellB (hS.ext hB_).old (hc16 0 _ rfl))) fun a hF => qa 2 hF tk rfl fun a hF => ?_
  apply wq_and (A := [_, _, _, _, _, _, _, _]) (pk := 27) hF (tc := 19) rfl
  ·
   intro hg19 a hF; try simp only [zb] at hg19
   refine qa 2 hF tk rfl fun a hF => wq_take hF rfl rfl rfl rfl ?_
   obtain ⟨g22, o22, m22, q22, hv22, hm22, hl22, hc22⟩ := Rd.atF (ha) (a := a) (X := .tmp 21) (hF.ev rfl) (by omega) (by omega)
   refine wq hF rfl rfl rfl (fun w_ hB_ => r_index sl29 ((hF.ev rfl).trans hv22) (hF.ev rfl) (by omega) (by first | omega | (simp at hm22; omega))) fun a hF => ?_
   refine wq_take hF rfl rfl rfl rfl <| wq hF rfl rfl rfl (fun w_ hB_ => r_load1 sc3 (hF.ev rfl) (cellB (hS.ext hB_).old (hc22 0 _ rfl))) fun a hF => qb 4 0 hF tk hS rfl rfl rfl fun a hF => ?_
   exact wpQuiet_nil ((Fr.pre (A := [_, _, _, _, _, _, _, _]) hF rfl).keep hF (t := 27) rfl)
  ·
   intro hg19 a hF; try simp only [zb] at hg19
   refine qa 8 hF tk rfl fun a hF => ?_
   exact wpQuiet_nil ((Fr.pre (A := [_, _, _, _, _, _, _, _]) hF rfl).keep hF (t := 27) rfl)
  intro a hF
  refine wpQuiet_nil ?_; intro w4 hB_; have hS := hS.ext hB_
  refine hK7 _ _ <| cx 27 hF rfl (fun c27 hF => ?_) fun c27 hF => ?_
  ·
   refine rg hF rfl fun a hF => ?_
   refine xr ?_
   first
     | (refine ret1 rfl hF rfl ⟨congrArg Value.bool (Eq.symm ?_), hS.old⟩; exact any_yes hx (by simp only [Bool.and_eq_true, decide_eq_true_eq]; exact c27))
     | (refine ret1 rfl hF rfl ⟨congrArg Value.bool (Eq.symm ?_), hS.old⟩; exact any_done hn (by omega))
  refine wp_skip ?_
  refine xt ?_
  refine hK6 _ _ <| rl hF rfl fun a hF => ?_
  refine xt ?_
  refine ⟨k + 1, ⟨by omega, any_nxt hn hx (by rw [Bool.and_eq_false_iff, decide_eq_false_iff_not, decide_eq_false_iff_not]; omega)⟩, hS, ((((hF.nil.keep hF (t := 4) rfl).keep hF (t := 2) rfl).keep hF (t := 1) rfl).keepE hF (t := 5) rfl (wk (by omega))), by omega⟩
 refine wp_exit ?_
 refine xt ?_
 refine hK2 _ _ <| rg hF rfl fun a hF => ?_
 refine xr ?_
 first
   | (refine ret1 rfl hF rfl ⟨congrArg Value.bool (Eq.symm ?_), hS.old⟩; exact any_yes hx (by simp only [Bool.and_eq_true, decide_eq_true_eq]; exact c27))
   | (refine ret1 rfl hF rfl ⟨congrArg Value.bool (Eq.symm ?_), hS.old⟩; exact any_done hn (by omega))
theorem specPast_c {W : World} {e : Entry} {va : Value} {xs : List Int} (ha : intEK.Rd W va xs) : Calls Tryz.prog 134 #[.agg e.enc.toArray, va] W (Ret fun v w' => v = .bool (isPast e xs) ∧ Below W.heap.size W w') := by
 refine cfr Tryz.func134 Tryz.ntmps134 fun a hF => ?_
 have hS := Sep.refl W
 obtain ⟨A_a, q_a, rfl, hq_a, hn_a⟩ := ha.sl; unfold maxLen at hn_a
 refine ws fun K1 hK1 => wl_box (cs := [_, _, _, _]) hF hS rfl (hF.ev rfl) rfl fun g1 w1 a hS _ hF => ge hK1 hF rfl fun a hF => wp_seq_k fun K2 hK2 => rg hF rfl fun a hF => wp_block ?_
 have hL_ := (((hF.nil.keep hF (t := 4) rfl).keep hF (t := 2) rfl).keep hF (t := 1) rfl)
 refine wp_loop_r (σ := Nat) (fun k L_ => (5, vi k) :: L_) (fun k => (k ≤ xs.length) ∧ ((xs.take k).any (fun n => decide (n < e.high)) = false)) (fun k => xs.length - k) 0 hS (hL_.keepE hF (t := 5) rfl rfl) ?_ ?_
 · exact ⟨Nat.zero_le _, rfl⟩
 rintro k a w2 ⟨hk, hn⟩ hS hF; try dsimp only at hF; try dsimp only at hS
 refine wp_seq_k fun K4 hK4 => rg hF rfl fun a hF => cx 9 hF rfl (fun c9 hF => ?_) fun c9 hF => ?_
 ·
  have hlt : k < xs.length := by omega
  have hx := at0_nat hlt
  refine wp_skip <| hK4 _ _ <| wp_seq_k fun K6 hK6 => wp_block <| wp_seq_k fun K7 hK7 => wp_region_calm (by kernel_rfl) (by kernel_rfl) <| qa 2 hF tk rfl fun a hF => ?_
  obtain ⟨g14, o14, m14, q14, hv14, hm14, hl14, hc14⟩ := Rd.atF (ha) (a := a) (X := .tmp 13) (hF.ev rfl) (by omega) (by omega)
  refine wq hF rfl rfl rfl (fun w_ hB_ => r_index sl29 ((hF.ev rfl).trans hv14) (hF.ev rfl) (by omega) (by first | omega | (simp at hm14; omega))) fun a hF => ?_
  refine wq hF rfl rfl rfl (fun w_ hB_ => r_load1 sc3 (hF.ev rfl) (cellB (hS.ext hB_).old (hc14 0 _ rfl))) fun a hF => qb 3 0 hF tk hS rfl rfl rfl fun a hF => ?_
  refine wpQuiet_nil ?_; intro w3 hB_; have hS := hS.ext hB_
  refine hK7 _ _ <| cx 18 hF rfl (fun c18 hF => ?_) fun c18 hF => ?_
  ·
   refine rg hF rfl fun a hF => ?_
   refine xr ?_
   refine ret1 rfl hF rfl ⟨congrArg Value.bool (Eq.symm ?_), hS.old⟩; unfold isPast
   first
     | (rw [any_yes (q := fun n => decide (n < e.high)) hx (decide_eq_true c18)]; rfl)
     | (rw [any_done (q := fun n => decide (n < e.high)) hn (by omega)]; rfl)
  refine wp_skip ?_
  refine xt ?_
  refine hK6 _ _ <| rl hF rfl fun a hF => ?_
  refine xt ?_
  refine ⟨k + 1, ⟨by omega, any_nxt hn hx (decide_eq_false (by omega))⟩, hS, ((((hF.nil.keep hF (t := 4) rfl).keep hF (t := 2) rfl).keep hF (t := 1) rfl).keepE hF (t := 5) rfl (wk (by omega))), by omega⟩
 refine wp_exit ?_
 refine xt ?_
 refine hK2 _ _ <| rg hF rfl fun a hF => ?_
 refine xr ?_
 refine ret1 rfl hF rfl ⟨congrArg Value.bool (Eq.symm ?_), hS.old⟩; unfold isPast
 first
   | (rw [any_yes (q := fun n => decide (n < e.high)) hx (decide_eq_true c18)]; rfl)
   | (rw [any_done (q := fun n => decide (n < e.high)) hn (by omega)]; rfl)
theorem specSplitE_c {W : World} {pol key : Int} {va vb : Value} {es : List Entry} {ns : List Int} (ha : entryEK.Rd W va es) (hb : intEK.Rd W vb ns) (hz : es.length ≤ 1048576) : Calls Tryz.prog 128 #[vi pol, vi key, va, vb] W (Ret (Mk W (fun (γ : Slv × Slv) => .tuple #[sv γ.1, sv γ.2]) (fun γ => [Own entryEK (sv γ.1) (splitK pol key es ns), Own entryEK (sv γ.2) (splitD pol key es ns)]))) := by
 refine cfr Tryz.func128 Tryz.ntmps128 fun a hF => ?_
 have hS := Sep.refl W
 obtain ⟨A_a, q_a, rfl, hq_a, hn_a⟩ := ha.sl; unfold maxLen at hn_a
 obtain ⟨A_b, q_b, rfl, hq_b, hn_b⟩ := hb.sl; unfold maxLen at hn_b
 refine rg hF rfl fun a hF => ws fun K2 hK2 => wl_bslice entryEK [] [] rfl hF hS rfl mk108 rfl trivial rfl rfl rfl rfl fun gl_14 w1 a hS hF => ge hK2 hF rfl fun a hF => ws fun K3 hK3 => wl_bslice entryEK [] [] rfl hF hS rfl mk108 rfl trivial rfl rfl rfl rfl fun gl_15 w2 a hS hF => ge hK3 hF rfl fun a hF => ?_
 refine wp_seq_k fun K4 hK4 => rg hF rfl fun a hF => wp_block ?_
 replace hS := hS.pull (p := 0) rfl; dsimp only [List.eraseIdx] at hS
 replace hS := hS.pull (p := 1) rfl; dsimp only [List.eraseIdx] at hS
 have hL_ := ((((((hF.nil.keep hF (t := 9) rfl).keep hF (t := 8) rfl).keep hF (t := 3) rfl).keep hF (t := 2) rfl).keep hF (t := 1) rfl).keep hF (t := 0) rfl)
 refine wp_loop_m (σ := Nat × Slv × Slv) (fun z L_ => (12, vi z.1) :: (10, sv z.2.1) :: (11, sv z.2.2) :: L_) (fun z l_ => (Own entryEK (sv z.2.1) ((es.take z.1).filter fun e => !dropB pol key ns e)) :: (Own entryEK (sv z.2.2) ((es.take z.1).filter fun e => dropB pol key ns e)) :: l_) (fun z => (z.1 ≤ es.length)) (fun z => es.length - z.1) (0, (_, _, _), (_, _, _)) (hS) (((hL_.keepE hF (t := 11) rfl rfl).keepE hF (t := 10) rfl rfl).keepE hF (t := 12) rfl rfl) ?_ ?_
 · exact Nat.zero_le _
 rintro ⟨k, ⟨Ak, nk, ck⟩, ⟨Ad, nd, cd⟩⟩ a w3 hk hS hF; try dsimp only at hF; try dsimp only at hS; try dsimp only at hk
 have hnk := hS.own_len (q := 0) (s := (Ak, nk, ck)) rfl
 have hnd := hS.own_len (q := 1) (s := (Ad, nd, cd)) rfl
 replace hS : Sep W (Own entryEK (.slice Ak nk ck) _ :: Own entryEK (.slice Ad nd cd) _ :: _) _ := hS
 have hk1 := flt_le es (fun e => !dropB pol key ns e) k
 have hd1 := flt_le es (fun e => dropB pol key ns e) k
 refine wp_seq_k fun K6 hK6 => rg hF rfl fun a hF => cx 19 hF rfl (fun c19 hF => ?_) fun c19 hF => ?_
 ·
  have hlt : k < es.length := by omega
  have hx := at0_nat hlt
  refine wp_skip <| hK6 _ _ <| wp_seq_k fun K8 hK8 => wp_block <| ws fun K9 hK9 => ga 2 hF rfl fun a hF => ?_
  obtain ⟨g24, o24, m24, q24, hv24, hm24, hl24, hc24⟩ := Rd.atF (ha) (a := a) (X := .tmp 23) (hF.ev rfl) (by omega) (by omega)
  refine wl hF rfl rfl rfl (r_index sl108 ((hF.ev rfl).trans hv24) (hF.ev rfl) (by omega) (by first | omega | (simp at hm24; omega))) fun a hF => ?_
  refine wl hF rfl rfl rfl (r_loadn ag139 (hF.ev rfl) (fun j_ u_ hu_ => cellB hS.old (hc24 j_ u_ hu_)) sz139) fun a hF => ga 1 hF rfl fun a hF => ckr hF hS rfl (specNeeded_c (e := at0 es (k : Int)) (hS.rd hb)) fun w4 a hS hF => ge hK9 hF rfl fun a hF => wp_seq_k fun K10 hK10 => rg hF rfl fun a hF => wp_block ?_
  refine rg hF rfl fun a hF => cx 30 hF rfl (fun c30 hF => ?_) fun c30 hF => ?_
  ·
   refine wp_region_lit <| ga 2 hF rfl fun a hF => ?_
   obtain ⟨g34, o34, m34, q34, hv34, hm34, hl34, hc34⟩ := Rd.atF (ha) (a := a) (X := .tmp 33) (hF.ev rfl) (by omega) (by omega)
   refine wl hF rfl rfl rfl (r_index sl108 ((hF.ev rfl).trans hv34) (hF.ev rfl) (by omega) (by first | omega | (simp at hm34; omega))) fun a hF => ?_
   refine wl hF rfl rfl rfl (r_loadn ag139 (hF.ev rfl) (fun j_ u_ hu_ => cellB hS.old (hc34 j_ u_ hu_)) sz139) fun a hF => ga 1 hF rfl fun a hF => ckr hF hS rfl (specPast_c (e := at0 es (k : Int)) (hS.rd hb)) fun w5 a hS hF => ga 1 hF rfl fun a hF => wl_nil ?_
   refine xt ?_
   refine hK10 _ _ <| rg hF rfl fun a hF => cx 54 hF rfl (fun c54 hF => ?_) fun c54 hF => ?_
   ·
    refine wp_region_lit <| ga 3 hF rfl fun a hF => ?_
    obtain ⟨g58, o58, m58, q58, hv58, hm58, hl58, hc58⟩ := Rd.atF (ha) (a := a) (X := .tmp 57) (hF.ev rfl) (by omega) (by omega)
    refine wl hF rfl rfl rfl (r_index sl108 ((hF.ev rfl).trans hv58) (hF.ev rfl) (by omega) (by first | omega | (simp at hm58; omega))) fun a hF => ?_
    refine wl hF rfl rfl rfl (r_loadn ag139 (hF.ev rfl) (fun j_ u_ hu_ => cellB hS.old (hc58 j_ u_ hu_)) sz139) fun a hF => wl_bslice entryEK [.agg (at0 es (k : Int)).enc.toArray] [at0 es (k : Int)] rfl hF hS rfl mk108 rfl ⟨rfl, (hF.ev rfl), trivial⟩ rfl rfl rfl rfl fun gl_60 w6 a hS hF => ?_
    refine wl_append (q := 2) hF hS rfl rfl (hS.own_rd (i := 0) rfl) mk108 rfl (hF.ev rfl) (hF.ev rfl) (by simp; omega) (by unfold maxLen; simp; omega) ?_; intro A_61 c_61 w7 a hS_ hF; replace hS := hS_; clear hS_; dsimp only [List.set, List.length_cons, List.length_nil] at hS hF
    refine ga 1 hF rfl fun a hF => wl_nil ?_
    refine xt ?_
    refine hK8 _ _ <| rl hF rfl fun a hF => ?_
    refine xt ?_
    have hd_ : dropB pol key ns (at0 es (k : Int)) = true := by
      unfold dropB
      rw [if_pos c30]; exact c54
    rw [← flt_yes (q := fun e => dropB pol key ns e) hx hd_, ← flt_no (q := fun e => !dropB pol key ns e) hx (by rw [hd_]; rfl)] at hS
    refine ⟨(k + 1, (_, _, _), (_, _, _)), (by dsimp only; omega), (hS.pick [1, 2] (by decide) rfl), (((((((((hF.nil.keep hF (t := 9) rfl).keep hF (t := 8) rfl).keep hF (t := 3) rfl).keep hF (t := 2) rfl).keep hF (t := 1) rfl).keep hF (t := 0) rfl).keepE hF (t := 11) rfl rfl).keepE hF (t := 10) rfl rfl).keepE hF (t := 12) rfl (wk (by omega))), by dsimp only; omega⟩
   refine wp_region_lit <| ga 3 hF rfl fun a hF => ?_
   obtain ⟨g65, o65, m65, q65, hv65, hm65, hl65, hc65⟩ := Rd.atF (ha) (a := a) (X := .tmp 64) (hF.ev rfl) (by omega) (by omega)
   refine wl hF rfl rfl rfl (r_index sl108 ((hF.ev rfl).trans hv65) (hF.ev rfl) (by omega) (by first | omega | (simp at hm65; omega))) fun a hF => ?_
   refine wl hF rfl rfl rfl (r_loadn ag139 (hF.ev rfl) (fun j_ u_ hu_ => cellB hS.old (hc65 j_ u_ hu_)) sz139) fun a hF => wl_bslice entryEK [.agg (at0 es (k : Int)).enc.toArray] [at0 es (k : Int)] rfl hF hS rfl mk108 rfl ⟨rfl, (hF.ev rfl), trivial⟩ rfl rfl rfl rfl fun gl_67 w8 a hS hF => ?_
   refine wl_append (q := 1) hF hS rfl rfl (hS.own_rd (i := 0) rfl) mk108 rfl (hF.ev rfl) (hF.ev rfl) (by simp; omega) (by unfold maxLen; simp; omega) ?_; intro A_68 c_68 w9 a hS_ hF; replace hS := hS_; clear hS_; dsimp only [List.set, List.length_cons, List.length_nil] at hS hF
   refine ga 1 hF rfl fun a hF => wl_nil ?_
   refine xt ?_
   refine hK8 _ _ <| rl hF rfl fun a hF => ?_
   refine xt ?_
   have hd_ : dropB pol key ns (at0 es (k : Int)) = false := by
     unfold dropB
     rw [if_pos c30]; exact c54
   rw [← flt_no (q := fun e => dropB pol key ns e) hx hd_, ← flt_yes (q := fun e => !dropB pol key ns e) hx (by rw [hd_]; rfl)] at hS
   refine ⟨(k + 1, (_, _, _), (_, _, _)), (by dsimp only; omega), (hS.pick [1, 2] (by decide) rfl), (((((((((hF.nil.keep hF (t := 9) rfl).keep hF (t := 8) rfl).keep hF (t := 3) rfl).keep hF (t := 2) rfl).keep hF (t := 1) rfl).keep hF (t := 0) rfl).keepE hF (t := 11) rfl rfl).keepE hF (t := 10) rfl rfl).keepE hF (t := 12) rfl (wk (by omega))), by dsimp only; omega⟩
  refine rg hF rfl fun a hF => cx 38 hF rfl (fun c38 hF => ?_) fun c38 hF => ?_
  ·
   refine wp_region_lit <| ga 2 hF rfl fun a hF => ?_
   apply wa 12 41 53 hF hS
   ·
    intro hg41 a hF
    refine ga 3 hF rfl fun a hF => ?_
    apply wo 8 44 52 hF hS
    ·
     intro hg44 a hF
     refine ga 2 hF rfl fun a hF => wl_take hF rfl rfl rfl rfl ?_
     obtain ⟨g47, o47, m47, q47, hv47, hm47, hl47, hc47⟩ := Rd.atF (ha) (a := a) (X := .tmp 46) (hF.ev rfl) (by omega) (by omega)
     refine wl hF rfl rfl rfl (r_index sl108 ((hF.ev rfl).trans hv47) (hF.ev rfl) (by omega) (by first | omega | (simp at hm47; omega))) fun a hF => ?_
     refine ga 1 hF rfl fun a hF => wl_take hF rfl rfl rfl rfl <| wl hF rfl rfl rfl (r_load1 sc3 (hF.ev rfl) (cellB hS.old (hc47 1 _ rfl))) fun a hF => ?_
     exact je 8 hF hS rfl rfl rfl rfl
    intro a w10 hF hS
    exact je 5 hF hS rfl rfl rfl rfl
   intro a w11 hF hS
   refine ga 1 hF rfl fun a hF => wl_nil ?_
   refine xt ?_
   refine hK10 _ _ <| rg hF rfl fun a hF => cx 54 hF rfl (fun c54 hF => ?_) fun c54 hF => ?_
   ·
    refine wp_region_lit <| ga 3 hF rfl fun a hF => ?_
    obtain ⟨g58, o58, m58, q58, hv58, hm58, hl58, hc58⟩ := Rd.atF (ha) (a := a) (X := .tmp 57) (hF.ev rfl) (by omega) (by omega)
    refine wl hF rfl rfl rfl (r_index sl108 ((hF.ev rfl).trans hv58) (hF.ev rfl) (by omega) (by first | omega | (simp at hm58; omega))) fun a hF => ?_
    refine wl hF rfl rfl rfl (r_loadn ag139 (hF.ev rfl) (fun j_ u_ hu_ => cellB hS.old (hc58 j_ u_ hu_)) sz139) fun a hF => wl_bslice entryEK [.agg (at0 es (k : Int)).enc.toArray] [at0 es (k : Int)] rfl hF hS rfl mk108 rfl ⟨rfl, (hF.ev rfl), trivial⟩ rfl rfl rfl rfl fun gl_60 w12 a hS hF => ?_
    refine wl_append (q := 2) hF hS rfl rfl (hS.own_rd (i := 0) rfl) mk108 rfl (hF.ev rfl) (hF.ev rfl) (by simp; omega) (by unfold maxLen; simp; omega) ?_; intro A_61 c_61 w13 a hS_ hF; replace hS := hS_; clear hS_; dsimp only [List.set, List.length_cons, List.length_nil] at hS hF
    refine ga 1 hF rfl fun a hF => wl_nil ?_
    refine xt ?_
    refine hK8 _ _ <| rl hF rfl fun a hF => ?_
    refine xt ?_
    have hd_ : dropB pol key ns (at0 es (k : Int)) = true := by
      unfold dropB
      rw [if_neg c30, if_pos c38]; simpa using c54
    rw [← flt_yes (q := fun e => dropB pol key ns e) hx hd_, ← flt_no (q := fun e => !dropB pol key ns e) hx (by rw [hd_]; rfl)] at hS
    refine ⟨(k + 1, (_, _, _), (_, _, _)), (by dsimp only; omega), (hS.pick [1, 2] (by decide) rfl), (((((((((hF.nil.keep hF (t := 9) rfl).keep hF (t := 8) rfl).keep hF (t := 3) rfl).keep hF (t := 2) rfl).keep hF (t := 1) rfl).keep hF (t := 0) rfl).keepE hF (t := 11) rfl rfl).keepE hF (t := 10) rfl rfl).keepE hF (t := 12) rfl (wk (by omega))), by dsimp only; omega⟩
   refine wp_region_lit <| ga 3 hF rfl fun a hF => ?_
   obtain ⟨g65, o65, m65, q65, hv65, hm65, hl65, hc65⟩ := Rd.atF (ha) (a := a) (X := .tmp 64) (hF.ev rfl) (by omega) (by omega)
   refine wl hF rfl rfl rfl (r_index sl108 ((hF.ev rfl).trans hv65) (hF.ev rfl) (by omega) (by first | omega | (simp at hm65; omega))) fun a hF => ?_
   refine wl hF rfl rfl rfl (r_loadn ag139 (hF.ev rfl) (fun j_ u_ hu_ => cellB hS.old (hc65 j_ u_ hu_)) sz139) fun a hF => wl_bslice entryEK [.agg (at0 es (k : Int)).enc.toArray] [at0 es (k : Int)] rfl hF hS rfl mk108 rfl ⟨rfl, (hF.ev rfl), trivial⟩ rfl rfl rfl rfl fun gl_67 w14 a hS hF => ?_
   refine wl_append (q := 1) hF hS rfl rfl (hS.own_rd (i := 0) rfl) mk108 rfl (hF.ev rfl) (hF.ev rfl) (by simp; omega) (by unfold maxLen; simp; omega) ?_; intro A_68 c_68 w15 a hS_ hF; replace hS := hS_; clear hS_; dsimp only [List.set, List.length_cons, List.length_nil] at hS hF
   refine ga 1 hF rfl fun a hF => wl_nil ?_
   refine xt ?_
   refine hK8 _ _ <| rl hF rfl fun a hF => ?_
   refine xt ?_
   have hd_ : dropB pol key ns (at0 es (k : Int)) = false := by
     unfold dropB
     rw [if_neg c30, if_pos c38]; rcases c54 with h | h; (rw [h]; rfl); (rw [decide_eq_false (show ¬ key < 0 by omega), decide_eq_false h.2]; simp)
   rw [← flt_no (q := fun e => dropB pol key ns e) hx hd_, ← flt_yes (q := fun e => !dropB pol key ns e) hx (by rw [hd_]; rfl)] at hS
   refine ⟨(k + 1, (_, _, _), (_, _, _)), (by dsimp only; omega), (hS.pick [1, 2] (by decide) rfl), (((((((((hF.nil.keep hF (t := 9) rfl).keep hF (t := 8) rfl).keep hF (t := 3) rfl).keep hF (t := 2) rfl).keep hF (t := 1) rfl).keep hF (t := 0) rfl).keepE hF (t := 11) rfl rfl).keepE hF (t := 10) rfl rfl).keepE hF (t := 12) rfl (wk (by omega))), by dsimp only; omega⟩
  refine wp_skip ?_
  refine xt ?_
  refine hK10 _ _ <| rg hF rfl fun a hF => cx 54 hF rfl (fun c54 hF => ?_) fun c54 hF => ?_
  ·
   refine wp_region_lit <| ga 3 hF rfl fun a hF => ?_
   obtain ⟨g58, o58, m58, q58, hv58, hm58, hl58, hc58⟩ := Rd.atF (ha) (a := a) (X := .tmp 57) (hF.ev rfl) (by omega) (by omega)
   refine wl hF rfl rfl rfl (r_index sl108 ((hF.ev rfl).trans hv58) (hF.ev rfl) (by omega) (by first | omega | (simp at hm58; omega))) fun a hF => ?_
   refine wl hF rfl rfl rfl (r_loadn ag139 (hF.ev rfl) (fun j_ u_ hu_ => cellB hS.old (hc58 j_ u_ hu_)) sz139) fun a hF => wl_bslice entryEK [.agg (at0 es (k : Int)).enc.toArray] [at0 es (k : Int)] rfl hF hS rfl mk108 rfl ⟨rfl, (hF.ev rfl), trivial⟩ rfl rfl rfl rfl fun gl_60 w16 a hS hF => ?_
   refine wl_append (q := 2) hF hS rfl rfl (hS.own_rd (i := 0) rfl) mk108 rfl (hF.ev rfl) (hF.ev rfl) (by simp; omega) (by unfold maxLen; simp; omega) ?_; intro A_61 c_61 w17 a hS_ hF; replace hS := hS_; clear hS_; dsimp only [List.set, List.length_cons, List.length_nil] at hS hF
   refine ga 1 hF rfl fun a hF => wl_nil ?_
   refine xt ?_
   refine hK8 _ _ <| rl hF rfl fun a hF => ?_
   refine xt ?_
   have hd_ : dropB pol key ns (at0 es (k : Int)) = true := by
     unfold dropB
     rw [if_neg c30, if_neg c38]; simpa using c54
   rw [← flt_yes (q := fun e => dropB pol key ns e) hx hd_, ← flt_no (q := fun e => !dropB pol key ns e) hx (by rw [hd_]; rfl)] at hS
   refine ⟨(k + 1, (_, _, _), (_, _, _)), (by dsimp only; omega), (hS.pick [1, 2] (by decide) rfl), (((((((((hF.nil.keep hF (t := 9) rfl).keep hF (t := 8) rfl).keep hF (t := 3) rfl).keep hF (t := 2) rfl).keep hF (t := 1) rfl).keep hF (t := 0) rfl).keepE hF (t := 11) rfl rfl).keepE hF (t := 10) rfl rfl).keepE hF (t := 12) rfl (wk (by omega))), by dsimp only; omega⟩
  refine wp_region_lit <| ga 3 hF rfl fun a hF => ?_
  obtain ⟨g65, o65, m65, q65, hv65, hm65, hl65, hc65⟩ := Rd.atF (ha) (a := a) (X := .tmp 64) (hF.ev rfl) (by omega) (by omega)
  refine wl hF rfl rfl rfl (r_index sl108 ((hF.ev rfl).trans hv65) (hF.ev rfl) (by omega) (by first | omega | (simp at hm65; omega))) fun a hF => ?_
  refine wl hF rfl rfl rfl (r_loadn ag139 (hF.ev rfl) (fun j_ u_ hu_ => cellB hS.old (hc65 j_ u_ hu_)) sz139) fun a hF => wl_bslice entryEK [.agg (at0 es (k : Int)).enc.toArray] [at0 es (k : Int)] rfl hF hS rfl mk108 rfl ⟨rfl, (hF.ev rfl), trivial⟩ rfl rfl rfl rfl fun gl_67 w18 a hS hF => ?_
  refine wl_append (q := 1) hF hS rfl rfl (hS.own_rd (i := 0) rfl) mk108 rfl (hF.ev rfl) (hF.ev rfl) (by simp; omega) (by unfold maxLen; simp; omega) ?_; intro A_68 c_68 w19 a hS_ hF; replace hS := hS_; clear hS_; dsimp only [List.set, List.length_cons, List.length_nil] at hS hF
  refine ga 1 hF rfl fun a hF => wl_nil ?_
  refine xt ?_
  refine hK8 _ _ <| rl hF rfl fun a hF => ?_
  refine xt ?_
  have hd_ : dropB pol key ns (at0 es (k : Int)) = false := by
    unfold dropB
    rw [if_neg c30, if_neg c38]; simpa using c54
  rw [← flt_no (q := fun e => dropB pol key ns e) hx hd_, ← flt_yes (q := fun e => !dropB pol key ns e) hx (by rw [hd_]; rfl)] at hS
  refine ⟨(k + 1, (_, _, _), (_, _, _)), (by dsimp only; omega), (hS.pick [1, 2] (by decide) rfl), (((((((((hF.nil.keep hF (t := 9) rfl).keep hF (t := 8) rfl).keep hF (t := 3) rfl).keep hF (t := 2) rfl).keep hF (t := 1) rfl).keep hF (t := 0) rfl).keepE hF (t := 11) rfl rfl).keepE hF (t := 10) rfl rfl).keepE hF (t := 12) rfl (wk (by omega))), by dsimp only; omega⟩
 refine wp_exit ?_
 refine xt ?_
 refine hK4 _ _ <| rg hF rfl fun a hF => ?_
 refine xr ?_
 obtain rfl : k = es.length := by omega
 rw [List.take_length] at hS
 exact ret2 rfl hF rfl rfl ⟨((_, _, _), (_, _, _)), rfl, hS.pick [0, 1] (by decide) rfl⟩
theorem specLimboLimit_c {W : World} (c : Config) : Calls Tryz.prog 129 #[.agg c.enc.toArray] W (Ret fun v w' => v = vi (limboLimit c) ∧ Below W.heap.size W w') := by
 refine cfr Tryz.func129 Tryz.ntmps129 fun a hF => ?_
 have hS := Sep.refl W
 refine ws fun K1 hK1 => wl_box (cs := [_, _, _, _, _, _]) hF hS rfl (hF.ev rfl) rfl fun g1 w1 a hS _ hF => ge hK1 hF rfl fun a hF => wp_seq_k fun K2 hK2 => ws fun K3 hK3 => gB 1 0 hF hS rfl rfl rfl fun a hF => ckr hF hS rfl (specIsConfig_c c) fun w2 a hS hF => ?_
 refine ge hK3 hF rfl fun a hF => ?_
 first | refine wc_dec (hF.ev rfl) (fun c5 => ?_) (fun c5 => ?_) | refine wc_ndec (hF.ev rfl) (fun c5 => ?_) (fun c5 => ?_) | refine wc_b (hF.ev rfl) (fun c5 => ?_) (fun c5 => ?_)
 ·
  refine rg hF rfl fun a hF => ?_
  refine xr ?_
  refine ret1 rfl hF rfl ⟨congrArg vi ?_, hS.old⟩
  unfold limboLimit
  first | (rw [if_neg c5]; done) | (rw [if_pos c5]; unfold Config.ok at c5; simp only [w64]; omega)
 refine wp_skip <| hK2 _ _ <| rh 0 hF hS rfl rfl rfl fun a hF => ?_
 refine xr ?_
 refine ret1 rfl hF rfl ⟨congrArg vi ?_, hS.old⟩
 unfold limboLimit
 first | (rw [if_neg c5]; done) | (rw [if_pos c5]; unfold Config.ok at c5; simp only [w64]; omega)
set_option maxRecDepth 20000
variable {tl : List Value}
/-- what MustFlush answers -/
def mustFlush (c : Config) (t : Thread) : Bool := decide c.ok && (if c.policy = 2 then t.buffer.any (fun e => decide (e.key = t.op.key)) else decide (c.batch ≤ (t.buffer.length : Int)))
section
variable {c : Config} {t : Thread}
theorem mf_1 (h : ¬ c.ok) : mustFlush c t = false := by simp [mustFlush, h]
theorem mf_2 (h : c.ok) (h2 : ¬ c.policy = 2) : mustFlush c t = decide (c.batch ≤ (t.buffer.length : Int)) := by simp [mustFlush, h, h2]
theorem mf_3 (h : c.ok) (h2 : c.policy = 2) : mustFlush c t = t.buffer.any (fun e => decide (e.key = t.op.key)) := by simp [mustFlush, h, h2]
end
def takeS (s : Sl.State) (t : Sl.Thread) (p : Int) : Sl.State × Sl.Thread :=
  if t.pc = 30 then if s.config.capacity ≤ at0 s.cells 1 then (s, endT t 2 0) else (s, { t with seen := at0 s.cells 1, pc := 31 })
  else if t.pc = 31 then
    if (0 ≤ t.seen ∧ t.seen ≤ s.config.capacity - 1) ∧ hitB s.cells 1 t.seen = true then (swapS s 1 t.seen (IntKind.i64.wrap (t.seen + 1)), { t with node := makeHandle t.seen (at0 s.generations t.seen), pc := 32 })
    else ({ s with retries := IntKind.i64.wrap (s.retries + 1) }, { t with pc := 30 })
  else if t.pc = 32 then (putS (faultS s t.node) (cellOf s t.node 1) t.op.value, { t with pc := 33 })
  else if t.pc = 33 then (putS (faultS s t.node) (cellOf s t.node 0) 0, { t with pc := 34 })
  else if t.pc = 34 then (putS s (hazardCell s.config p 1) t.node, { t with pc := 35 })
  else (s, t)
def headS (s : Sl.State) (t : Sl.Thread) (p : Int) : Sl.State × Sl.Thread :=
  if t.pc = 35 then (s, { t with curr := unmarked (loadC s.cells (headCell s.config t.op.key)), pc := if unmarked (loadC s.cells (headCell s.config t.op.key)) = 0 then 41 else 36 })
  else if t.pc = 36 then (putS s (hazardCell s.config p 0) t.curr, { t with pc := 37 })
  else if t.pc = 37 then if loadC s.cells (headCell s.config t.op.key) = t.curr then (s, { t with pc := 38 }) else ({ s with retries := IntKind.i64.wrap (s.retries + 1) }, { t with pc := 35 })
  else if t.pc = 38 then (faultS s t.curr, { t with stamp := loadC s.cells (cellOf s t.curr 0), pc := if loadC s.cells (cellOf s t.curr 0) = 0 then 39 else 41 })
  else if t.pc = 39 then (s, { t with seen := at0 s.cells 0, pc := 40 })
  else if t.pc = 40 then (swapS (faultS s t.curr) (cellOf s t.curr 0) 0 t.seen, { t with pc := 38 })
  else if t.pc = 41 then (putS (faultS s t.node) (cellOf s t.node 2) t.curr, { t with pc := 42 })
  else if t.pc = 42 then
    if hitB s.cells (headCell s.config t.op.key) t.curr = true then (swapS s (headCell s.config t.op.key) t.curr t.node, { t with pc := 43 })
    else ({ swapS s (headCell s.config t.op.key) t.curr t.node with retries := IntKind.i64.wrap (s.retries + 1) }, { t with pc := 35 })
  else (s, t)
def newE (s : Sl.State) (t : Sl.Thread) : Entry := ⟨t.curr, t.op.key, t.stamp, loadC s.cells (cellOf s t.node 0)⟩
def ownS (s : Sl.State) (t : Sl.Thread) (p : Int) : Sl.State × Sl.Thread :=
  if t.pc = 43 then (s, { t with seen := at0 s.cells 0, pc := 44 })
  else if t.pc = 44 then (swapS (faultS s t.node) (cellOf s t.node 0) 0 t.seen, { t with pc := 45 })
  else if t.pc = 45 then (faultS s t.node, if (¬ t.curr = 0 ∧ isEntry (newE s t) = true) ∧ (t.buffer.length : Int) < 100 then { t with buffer := t.buffer ++ [newE s t], pc := 46 } else { t with pc := 46 })
  else if t.pc = 46 then (putS s (hazardCell s.config p 0) 0, { t with pc := 47 })
  else if t.pc = 47 then (putS s (hazardCell s.config p 1) 0, if mustFlush s.config t = true then { clearT t with pc := 50 } else endT t 0 0)
  else (s, t)
theorem swapS_no {s : Sl.State} {a u v : Int} (h : ¬ hitB s.cells a u = true) : swapS s a u v = s := by unfold swapS; rw [if_neg h, if_neg h]
theorem Fit.node {s : Sl.State} {t : Sl.Thread} (h : Fit s t) : int64 t.node := h.wt.2.2.2.2.1
theorem Fit.entry {s : Sl.State} {t : Sl.Thread} (h : Fit s t) : (newE s t).wf := ⟨h.curr, h.wt.2.1.2.1, h.wt.2.2.2.2.2.2.2.2.2.1, int64_loadC h.wc⟩
theorem specMustFlush_c {W : World} {c : Config} {t : Thread} {cs : List Value} (hm : threadEK.K W t cs) : Calls Tryz.prog 120 #[.agg c.enc.toArray, .agg cs.toArray] W (Ret fun v w' => v = .bool (mustFlush c t) ∧ Below W.heap.size W w') := by
 refine cfr Tryz.func120 Tryz.ntmps120 fun a hF => ?_
 have hS := Sep.refl W
 obtain ⟨v0, v1, v2, v3, v4, rfl, r0, r1, r2, r3, r4⟩ := hm
 obtain ⟨A_b, q_b, rfl, hq_b, hn_b⟩ := r2.sl; unfold maxLen at hn_b
 refine ws fun K1 hK1 => wl_box (cs := [_, _, _, _, _, _]) hF hS rfl (hF.ev rfl) rfl fun g1 w1 a hS _ hF => wl_box (cs := [_, _, _, _, _, _, _, _, _, _, _, _, _, _, _, _, _, _, _]) hF hS rfl (hF.ev rfl) rfl fun g2 w2 a hS _ hF => ge hK1 hF rfl fun a hF => wp_seq_k fun K2 hK2 => ws fun K3 hK3 => gB 1 1 hF hS rfl rfl rfl fun a hF => ?_
 refine ckr hF hS rfl (specIsConfig_c _) fun w3 a hS hF => ge hK3 hF rfl fun a hF => cx 8 hF rfl (fun c8 hF => ?_) fun c8 hF => ?_
 ·
  refine rg hF rfl fun a hF => ?_
  refine xr ?_
  refine ret1 rfl hF rfl ⟨congrArg Value.bool (Eq.symm ?_), hS.old⟩
  first
    | exact mf_1 c8
    | exact mf_2 c8 c11
    | exact (mf_3 c8 c11).trans (any_yes hx (decide_eq_true c34))
    | exact (mf_3 c8 c11).trans (any_done hn (by omega))
 refine wp_skip <| hK2 _ _ <| wp_seq_k fun K5 hK5 => rh 1 hF hS rfl rfl rfl fun a hF => cx 11 hF rfl (fun c11 hF => ?_) fun c11 hF => ?_
 ·
  refine ws fun K7 hK7 => gB 4 0 hF hS rfl rfl rfl fun a hF => gf hK7 1 hF hS rfl rfl rfl fun a hF => ?_
  refine xr ?_
  refine ret1 rfl hF rfl ⟨congrArg Value.bool (Eq.symm ?_), hS.old⟩
  first
    | exact mf_1 c8
    | exact mf_2 c8 c11
    | exact (mf_3 c8 c11).trans (any_yes hx (decide_eq_true c34))
    | exact (mf_3 c8 c11).trans (any_done hn (by omega))
 refine wp_skip <| hK5 _ _ <| wp_seq_k fun K8 hK8 => rg hF rfl fun a hF => wp_block ?_
 have hL_ := ((hF.nil.keep hF (t := 4) rfl).keep hF (t := 3) rfl)
 refine wp_loop_r (σ := Nat) (fun k L_ => (5, vi k) :: L_) (fun k => (k ≤ t.buffer.length) ∧ ((t.buffer.take k).any (fun e => decide (e.key = t.op.key)) = false)) (fun k => t.buffer.length - k) 0 hS (hL_.keepE hF (t := 5) rfl rfl) ?_ ?_
 · exact ⟨Nat.zero_le _, by simp⟩
 rintro k a w4 ⟨hk, hn⟩ hS hF; try dsimp only at hF; try dsimp only at hS
 refine wp_seq_k fun K10 hK10 => rh 0 hF hS rfl rfl rfl fun a hF => cx 22 hF rfl (fun c22 hF => ?_) fun c22 hF => ?_
 ·
  have hlt : k < t.buffer.length := by omega
  have hx := at0_nat hlt
  refine wp_skip <| hK10 _ _ <| wp_seq_k fun K12 hK12 => wp_block <| wp_seq_k fun K13 hK13 => wp_region_calm (by kernel_rfl) (by kernel_rfl) <| qb 3 0 hF tk hS rfl rfl rfl fun a hF => ?_
  obtain ⟨g28, o28, m28, q28, hv28, hm28, hl28, hc28⟩ := Rd.atF (r2) (a := a) (X := .tmp 27) (hF.ev rfl) (by omega) (by omega)
  refine wq hF rfl rfl rfl (fun w_ hB_ => r_index sl108 ((hF.ev rfl).trans hv28) (hF.ev rfl) (by omega) (by first | omega | (simp at hm28; omega))) fun a hF => ?_
  refine qa 1 hF tk rfl fun a hF => wq hF rfl rfl rfl (fun w_ hB_ => r_load1 sc3 (hF.ev rfl) (cellB (hS.ext hB_).old (hc28 1 _ rfl))) fun a hF => qb 4 0 hF tk hS rfl rfl rfl fun a hF => ?_
  refine wpQuiet_nil ?_; intro w5 hB_; have hS := hS.ext hB_
  refine hK13 _ _ <| cx 34 hF rfl (fun c34 hF => ?_) fun c34 hF => ?_
  ·
   refine rg hF rfl fun a hF => ?_
   refine xr ?_
   refine ret1 rfl hF rfl ⟨congrArg Value.bool (Eq.symm ?_), hS.old⟩
   first
     | exact mf_1 c8
     | exact mf_2 c8 c11
     | exact (mf_3 c8 c11).trans (any_yes hx (decide_eq_true c34))
     | exact (mf_3 c8 c11).trans (any_done hn (by omega))
  refine wp_skip ?_
  refine xt ?_
  refine hK12 _ _ <| rl hF rfl fun a hF => ?_
  refine xt ?_
  refine ⟨k + 1, ⟨by omega, any_nxt hn hx (decide_eq_false c34)⟩, hS, (((hF.nil.keep hF (t := 4) rfl).keep hF (t := 3) rfl).keepE hF (t := 5) rfl (wk (by omega))), by omega⟩
 refine wp_exit ?_
 refine xt ?_
 refine hK8 _ _ <| rg hF rfl fun a hF => ?_
 refine xr ?_
 refine ret1 rfl hF rfl ⟨congrArg Value.bool (Eq.symm ?_), hS.old⟩
 first
   | exact mf_1 c8
   | exact mf_2 c8 c11
   | exact (mf_3 c8 c11).trans (any_yes hx (decide_eq_true c34))
   | exact (mf_3 c8 c11).trans (any_done hn (by omega))
theorem l14Take_c {W w : World} {l : List Res} {g gt ot mt ct p : Nat} {z0 z1 : Slv} {s : Sl.State} {t : Sl.Thread} (hp : p < s.threads.length) (hf : Fit s t) (hS : Sep W (Box g ((s).encw tl (sv z0) (sv z1) (.slice (some ⟨gt, ot, none⟩) mt ct)) :: Own intEK (sv z0) (s).cells :: Own intEK (sv z1) (s).generations :: Own threadEK (.slice (some ⟨gt, ot, none⟩) mt ct) (s.threads.set p t) :: l) w) : Calls Tryz.prog 95 #[.pointer (some ⟨g, 0, none⟩), vi (p : Int)] w (Ret fun v w' => v = .tuple #[] ∧ Sep W (Box g (((takeS s t (p : Int)).1).encw tl (sv z0) (sv z1) (.slice (some ⟨gt, ot, none⟩) mt ct)) :: Own intEK (sv z0) ((takeS s t (p : Int)).1).cells :: Own intEK (sv z1) ((takeS s t (p : Int)).1).generations :: Own threadEK (.slice (some ⟨gt, ot, none⟩) mt ct) (s.threads.set p (takeS s t (p : Int)).2) :: l) w') := by
 refine cfr Tryz.func95 Tryz.ntmps95 fun a hF => ?_
 have hl0 := hS.own_len (q := 1) rfl
 have hl1 := hS.own_len (q := 2) rfl
 have hmt : mt = s.threads.length := by have := hS.own_len (q := 3) (s := (some ⟨gt, ot, none⟩, mt, ct)) rfl; simpa using this
 have hlc := hf.two
 have hlg := hf.lg
 have hcb := hf.ok; unfold Config.ok at hcb
 have hwc : IntKind.i64.wrap (s.config.capacity - 1) = s.config.capacity - 1 := w64_id (by omega) (by omega)
 refine ws fun K1 hK1 => gB 5 0 hF hS rfl rfl rfl fun a hF => ?_
 refine wl hF rfl rfl rfl (r_index sl73 (hF.ev rfl) (hF.ev rfl) (by omega) (by first | omega | (dsimp only; omega))) fun a hF => ?_
 refine ge hK1 hF rfl fun a hF => ws fun K2 hK2 => ga 3 hF rfl fun a hF => wl hF rfl rfl rfl (r_load1 sc3 (hF.ev rfl) (hS.elt1 (q := 3) (j := 0) hp rfl (fun _ => rfl))) fun a hF => wl_nil <| hK2 _ _ <| wp_block <| rg hF rfl fun a hF => ?_
 refine cx 15 hF rfl (fun c15 hF => ?_) fun c15 hF => ?_
 ·
  refine ws fun K4 hK4 => gB 5 0 hF hS rfl rfl rfl fun a hF => ?_
  obtain ⟨g22, o22, m22, q22, hv22, hm22, hl22, hc22⟩ := Rd.atF ((hS.own_rd (i := 1) rfl)) (a := a) (X := .const (.int .i64 1)) ec (by omega) (by omega)
  refine wl hF rfl rfl rfl (r_index sl29 ((hF.ev rfl).trans hv22) ec (by omega) (by first | omega | (simp at hm22; omega))) fun a hF => ?_
  refine wl hF rfl rfl rfl (r_load1 sc3 (hF.ev rfl) (hc22 0 _ rfl)) fun a hF => ga 2 hF rfl fun a hF => ?_
  refine es 3 11 hF hS hp rfl rfl rfl rfl rfl rfl fun w1 hS => ?_
  refine wl_nil <| hK4 _ _ <| ws fun K5 hK5 => ga 3 hF rfl fun a hF => ?_
  refine es 3 0 hF hS hp rfl rfl rfl rfl rfl rfl fun w2 hS => ?_
  refine wl_nil <| hK5 _ _ <| wp_seq_k fun K6 hK6 => wp_region_calm (by kernel_rfl) (by kernel_rfl) <| qa 3 hF tk rfl fun a hF => wq hF rfl rfl rfl (fun w_ hB_ => r_load1 sc3 (hF.ev rfl) ((hS.ext hB_).elt1 (q := 3) (j := 11) hp rfl (fun _ => rfl))) fun a hF => qb 6 0 hF tk hS rfl rfl rfl fun a hF => ?_
  refine wpQuiet_nil ?_; intro w3 hB_; have hS := hS.ext hB_
  refine hK6 _ _ <| cx 38 hF rfl (fun c38 hF => ?_) fun c38 hF => ?_
  ·
   refine wp_region_lit <| ga 2 hF rfl fun a hF => ?_
   replace hS := hS.pm 4 [0, 3, 1, 2] rfl
   refine ck hF rfl (l10Finish_c (s := s) hp hS) ?_; rintro v w4 a ⟨rfl, hS⟩ hF
   refine wl_nil ?_
   refine xt ?_
   refine ret0n rfl hF ⟨rfl, ?_⟩
   unfold takeS
   rw [if_pos c15, if_pos c38]
   exact (hS.pm 4 [0, 2, 3, 1] rfl)
  refine wp_skip ?_
  refine xt ?_
  refine ret0n rfl hF ⟨rfl, ?_⟩
  unfold takeS
  rw [if_pos c15, if_neg c38]
  exact hS
 refine rg hF rfl fun a hF => cx 42 hF rfl (fun c42 hF => ?_) fun c42 hF => ?_
 ·
  refine wp_seq_k fun K8 hK8 => wp_seq_k fun K9 hK9 => wp_region_J (is := [0, 1, 2, 3, 4, 5, 6, 7, 8, 9, 10, 11, 12, 13, 14, 15, 16, 17, 18, 19, 20, 21, 22, 23, 24, 25]) (fun (_ : Unit) r => r) _ (()) [23, 24, 25] (by kernel_rfl) hF hS (by kernel_rfl) <| tq 3 rfl <| tj_load [10, 11, 12, 13, 14, 15, 16, 17, 18, 19, 20, 21, 22, 23, 24, 25] (by kernel_rfl) rfl (gw0 rfl) rfl rfl (fun a w_ x_ hF hS => r_load1 sc3 (hF.ev rfl) (hS.elt1 (q := 3) (j := 11) hp rfl (fun _ => rfl))) <| tq 4 rfl <| tj_load [9, 10, 11, 12, 13, 14, 15, 16, 17, 18, 19, 20, 21, 22, 23, 24, 25] (by kernel_rfl) rfl (gw0 rfl) rfl rfl (fun a w_ x_ hF hS => r_load1 sc3 (hF.ev rfl) (hS.box (i := 0) rfl rfl)) ?_
  refine tq 1 rfl <| tj_rd (by kernel_rfl) rfl (gw0 rfl) rfl rfl (fun a w_ hF => r_call3 en41 (hF.ev rfl) ec (hF.ev rfl)) (fun w_ hS => l1In_c _ _ _) <| tq 2 rfl ?_
  refine tj_split 56 rfl ?_ ?_ <;> intro b56 <;> try simp only [zb] at b56
  ·
   refine tq 10 rfl ?_
   refine tj_fin (tl := [_, _, _]) (by kernel_rfl) rfl ?_; intro a w5 hF hS; try dsimp only at hS
   refine ga 3 hF rfl fun a hF => wl_nil ⟨rfl, ?_⟩
   refine hK9 _ _ <| wc_true (hF.ev rfl) <| ws fun K10 hK10 => gB 8 0 hF hS rfl rfl rfl fun a hF => wv 0 hF hS rfl rfl rfl rfl rfl rfl fun w6 hS => wl_nil <| hK10 _ _ <| ws fun K11 hK11 => ?_
   refine ga 3 hF rfl fun a hF => ?_
   refine es 3 0 hF hS hp rfl rfl rfl rfl rfl rfl fun w7 hS => ?_
   refine wl_nil (hK11 _ _ ?_)
   refine xr ?_
   refine ret0 rfl hF ⟨rfl, ?_⟩
   unfold takeS
   rw [if_neg c15, if_pos c42, if_neg (fun h => by rw [hwc] at b56; exact b56 h.1)]
   exact hS
  refine tq 4 rfl <| tj_load [23, 24, 25] (by kernel_rfl) rfl (gw1 rfl rfl rfl rfl) rfl rfl (fun a w_ x_ hF hS => r_load1 sc3 (hF.ev rfl) (hS.elt1 (q := 3) (j := 11) hp rfl (fun _ => rfl))) <| tq 3 rfl <| tj_load [22, 23, 24, 25] (by kernel_rfl) rfl (gw1 rfl rfl rfl rfl) rfl rfl (fun a w_ x_ hF hS => r_load1 sc3 (hF.ev rfl) (hS.elt1 (q := 3) (j := 11) hp rfl (fun _ => rfl))) <| tq 1 rfl ?_
  refine tj_fin (tl := [_, _, _]) (by kernel_rfl) rfl ?_; intro a w8 hF hS; try dsimp only at hS
  refine ck hF rfl (l9Swap_c (s := s) hS) ?_; rintro v w9 a ⟨rfl, hS⟩ hF
  refine ga 2 hF rfl fun a hF => wl_nil ⟨rfl, ?_⟩
  refine hK9 _ _ <| cx 69 hF rfl (fun c69 hF => ?_) fun c69 hF => ?_
  ·
   refine ws fun K12 hK12 => gB 8 0 hF hS rfl rfl rfl fun a hF => wv 0 hF hS rfl rfl rfl rfl rfl rfl fun w10 hS => wl_nil <| hK12 _ _ <| ws fun K13 hK13 => ga 3 hF rfl fun a hF => ?_
   refine es 3 0 hF hS hp rfl rfl rfl rfl rfl rfl fun w11 hS => ?_
   refine wl_nil (hK13 _ _ ?_)
   refine xr ?_
   have hq : ¬ hitB s.cells 1 t.seen = true := fun h => by rw [h] at c69; simp at c69
   refine ret0 rfl hF ⟨rfl, ?_⟩
   unfold takeS
   rw [if_neg c15, if_pos c42, if_neg (fun h => hq h.2)]
   rw [swapS_no hq] at hS
   exact hS
  have hin : (0 ≤ t.seen ∧ t.seen ≤ s.config.capacity - 1) ∧ hitB s.cells 1 t.seen = true := ⟨by rw [hwc] at b56; exact b56, by simpa using c69⟩
  refine wp_skip <| hK8 _ _ <| wp_seq_k fun K14 hK14 => ?_
  refine wp_region_todo (is := [0, 1, 2, 3, 4, 5, 6, 7, 8, 9, 10, 11, 12, 13, 14, 15, 16, 17, 18]) [] [18] (by kernel_rfl) hF hS ⟨trivial, by decide, by decide, by decide⟩ (by kernel_rfl) ?_; intro hl_ wd hSd
  refine tp 4 hl_ rfl <| todo_load [15, 16, 17, 18] hl_ (by kernel_rfl) rfl (gw0 rfl) rfl rfl rfl (fun a w_ hF hB_ => r_load1 sc3 (hF.ev rfl) ((hSd.ext hB_).elt1 (q := 3) (j := 11) hp rfl (fun _ => rfl))) <| tp 3 hl_ rfl <| todo_load [13, 14, 15, 16, 17, 18] hl_ (by kernel_rfl) rfl (gw0 rfl) rfl rfl rfl (fun a w_ hF hB_ => r_load1 sc29 (hF.ev rfl) ((hSd.ext hB_).box (i := 0) rfl rfl)) <| tp 3 hl_ rfl <| todo_load [13, 14, 15, 16, 17, 18] hl_ (by kernel_rfl) rfl (gw0 rfl) rfl rfl rfl (fun a w_ hF hB_ => r_load1 sc3 (hF.ev rfl) ((hSd.ext hB_).elt1 (q := 3) (j := 11) hp rfl (fun _ => rfl))) ?_
  obtain ⟨g94, o94, m94, q94, hv94, hm94, hl94, hc94⟩ := Rd.idxF ((hSd.own_rd (i := 2) rfl)) (at0_get (i := t.seen) (by omega) (by omega))
  refine todo_pure hl_ (by kernel_rfl) rfl (gw0 rfl) rfl rfl rfl (fun a w_ hF => r_index sl29 ((hF.ev rfl).trans hv94) (hF.ev rfl) (by omega) (by first | omega | (simp at hm94; omega))) ?_
  refine todo_load [15, 16, 17, 18] hl_ (by kernel_rfl) rfl (gw0 rfl) rfl rfl rfl (fun a w_ hF hB_ => r_load1 sc3 (hF.ev rfl) (cellB hB_ (hc94 0 _ rfl))) <| todo_rd hl_ rfl (by kernel_rfl) rfl rfl rfl rfl rfl (fun a w_ hF => r_call2 en106 (hF.ev rfl) (hF.ev rfl)) (fun w_ hS => specMakeHandle_c) <| tp 2 hl_ rfl ?_
  refine todo_fin hl_ rfl (by kernel_rfl) (tl := [_]) rfl ?_; intro a w12 hF hA_
  have hS := hA_.sep; clear hA_
  clear hl_; try clear hSd
  try dsimp only [List.cons_append, List.nil_append, List.set] at hS
  try clear wd
  refine es 3 7 hF hS hp rfl rfl rfl rfl rfl rfl fun w13 hS => ?_
  refine wl_nil ⟨rfl, ?_⟩
  refine hK14 _ _ <| wp_region_lit <| ga 3 hF rfl fun a hF => ?_
  refine es 3 0 hF hS hp rfl rfl rfl rfl rfl rfl fun w14 hS => ?_
  refine wl_nil ?_
  refine xt ?_
  refine ret0n rfl hF ⟨rfl, ?_⟩
  unfold takeS
  rw [if_neg c15, if_pos c42, if_pos hin]
  exact hS
 refine rg hF rfl fun a hF => cx 102 hF rfl (fun c102 hF => ?_) fun c102 hF => ?_
 ·
  refine wp_seq_k fun K16 hK16 => wp_region_J (is := [0, 1, 2, 3, 4, 5, 7, 8, 9, 10, 11, 6, 12]) (fun (f : Int) r => Box g (s.encfw tl (sv z0) (sv z1) (.slice (some ⟨gt, ot, none⟩) mt ct) f) :: r) _ (s.faults) [12] (by kernel_rfl) hF hS (by kernel_rfl) <| tq 5 rfl <| tj_load [6, 12] (by kernel_rfl) rfl (gw0 rfl) rfl rfl (fun a w_ x_ hF hS => r_load1 sc3 (hF.ev rfl) (hS.elt1 (q := 3) (j := 7) hp rfl (fun _ => rfl))) <| tq 4 rfl <| tj_load [12] (by kernel_rfl) rfl (gw0 rfl) rfl rfl (fun a w_ x_ hF hS => r_load1 sc3 (hF.ev rfl) (hS.elt1 (q := 3) (j := 3) hp rfl (fun _ => rfl))) ?_
  refine tj_mc (by kernel_rfl) rfl (gw0 rfl) rfl rfl (fun a w_ hF => r_call3 en118 (hF.ev rfl) (hF.ev rfl) ec) (fun w_ hS => calls_unit (l9Cell_c (s := s) hf.node hf.lg (hS.pm 4 [0, 2, 1, 3] rfl))) (fun _ w_ h_ => ⟨_, (h_.pm 4 [0, 2, 1, 3] rfl)⟩) ?_; intro _
  refine tj_fin (tl := [_]) (by kernel_rfl) rfl ?_; intro a w15 hF hS; try dsimp only at hS
  replace hS := hS.pm 4 [0, 2, 1, 3] rfl
  refine ck hF rfl (l9Put_c (s := faultS s t.node) hS) ?_; rintro v w16 a ⟨rfl, hS⟩ hF
  refine wl_nil ⟨rfl, ?_⟩
  refine hK16 _ _ <| wp_region_lit <| ga 3 hF rfl fun a hF => ?_
  refine es 3 0 hF hS hp rfl rfl rfl rfl rfl rfl fun w17 hS => ?_
  refine wl_nil ?_
  refine xt ?_
  refine ret0n rfl hF ⟨rfl, ?_⟩
  unfold takeS
  rw [if_neg c15, if_neg c42, if_pos c102]
  exact hS
 refine rg hF rfl fun a hF => cx 120 hF rfl (fun c120 hF => ?_) fun c120 hF => ?_
 ·
  refine ws fun K18 hK18 => ga 5 hF rfl fun a hF => wl hF rfl rfl rfl (r_load1 sc3 (hF.ev rfl) (hS.elt1 (q := 3) (j := 7) hp rfl (fun _ => rfl))) fun a hF => ?_
  replace hS := hS.pm 4 [0, 2, 1, 3] rfl
  refine ck hF rfl (l9Cell_c (s := s) hf.node hf.lg hS) ?_; rintro v w18 a ⟨rfl, hS⟩ hF
  replace hS := hS.pm 4 [0, 2, 1, 3] rfl
  refine ck hF rfl (l9Put_c (s := faultS s t.node) hS) ?_; rintro v w19 a ⟨rfl, hS⟩ hF
  refine wl_nil <| hK18 _ _ <| wp_region_lit <| ga 3 hF rfl fun a hF => ?_
  refine es 3 0 hF hS hp rfl rfl rfl rfl rfl rfl fun w20 hS => ?_
  refine wl_nil ?_
  refine xt ?_
  refine ret0n rfl hF ⟨rfl, ?_⟩
  unfold takeS
  rw [if_neg c15, if_neg c42, if_neg c102, if_pos c120]
  exact hS
 refine rg hF rfl fun a hF => cx 133 hF rfl (fun c133 hF => ?_) fun c133 hF => ?_
 ·
  refine wp_seq_k fun K20 hK20 => wp_region_J (is := [0, 1, 2, 3, 4, 5, 7, 8, 9, 10, 6, 11]) (fun (_ : Unit) r => r) _ (()) [11] (by kernel_rfl) hF hS (by kernel_rfl) <| tq 4 rfl <| tj_load [6, 11] (by kernel_rfl) rfl (gw0 rfl) rfl rfl (fun a w_ x_ hF hS => r_loadn ag25 (hF.ev rfl) (hS.boxn (vs := [_, _, _, _, _, _]) (i := 0) (m := 6) rfl rfl) sz25) <| tq 4 rfl <| tj_load [11] (by kernel_rfl) rfl (gw0 rfl) rfl rfl (fun a w_ x_ hF hS => r_load1 sc3 (hF.ev rfl) (hS.elt1 (q := 3) (j := 7) hp rfl (fun _ => rfl))) <| tj_rd (by kernel_rfl) rfl (gw0 rfl) rfl rfl (fun a w_ hF => r_call3 en117 (hF.ev rfl) (hF.ev rfl) ec) (fun w_ hS => specHazardCell_c _ _ _) ?_
  refine tj_fin (tl := [_]) (by kernel_rfl) rfl ?_; intro a w21 hF hS; try dsimp only at hS
  refine ck hF rfl (l9Put_c (s := s) hS) ?_; rintro v w22 a ⟨rfl, hS⟩ hF
  refine wl_nil ⟨rfl, ?_⟩
  refine hK20 _ _ <| wp_region_lit <| ga 3 hF rfl fun a hF => ?_
  refine es 3 0 hF hS hp rfl rfl rfl rfl rfl rfl fun w23 hS => ?_
  refine wl_nil ?_
  refine xt ?_
  refine ret0n rfl hF ⟨rfl, ?_⟩
  unfold takeS
  rw [if_neg c15, if_neg c42, if_neg c102, if_neg c120, if_pos c133]
  exact hS
 refine wp_skip ?_
 refine xt ?_
 refine ret0n rfl hF ⟨rfl, ?_⟩
 unfold takeS
 rw [if_neg c15, if_neg c42, if_neg c102, if_neg c120, if_neg c133]
 exact hS
theorem l14Head_c {W w : World} {l : List Res} {g gt ot mt ct p : Nat} {z0 z1 : Slv} {s : Sl.State} {t : Sl.Thread} (hp : p < s.threads.length) (hf : Fit s t) (hS : Sep W (Box g ((s).encw tl (sv z0) (sv z1) (.slice (some ⟨gt, ot, none⟩) mt ct)) :: Own intEK (sv z0) (s).cells :: Own intEK (sv z1) (s).generations :: Own threadEK (.slice (some ⟨gt, ot, none⟩) mt ct) (s.threads.set p t) :: l) w) : Calls Tryz.prog 96 #[.pointer (some ⟨g, 0, none⟩), vi (p : Int)] w (Ret fun v w' => v = .tuple #[] ∧ Sep W (Box g (((headS s t (p : Int)).1).encw tl (sv z0) (sv z1) (.slice (some ⟨gt, ot, none⟩) mt ct)) :: Own intEK (sv z0) ((headS s t (p : Int)).1).cells :: Own intEK (sv z1) ((headS s t (p : Int)).1).generations :: Own threadEK (.slice (some ⟨gt, ot, none⟩) mt ct) (s.threads.set p (headS s t (p : Int)).2) :: l) w') := by
 refine cfr Tryz.func96 Tryz.ntmps96 fun a hF => ?_
 have hl0 := hS.own_len (q := 1) rfl
 have hl1 := hS.own_len (q := 2) rfl
 have hmt : mt = s.threads.length := by have := hS.own_len (q := 3) (s := (some ⟨gt, ot, none⟩, mt, ct)) rfl; simpa using this
 have hlc := hf.two
 refine ws fun K1 hK1 => gB 5 0 hF hS rfl rfl rfl fun a hF => ?_
 refine wl hF rfl rfl rfl (r_index sl73 (hF.ev rfl) (hF.ev rfl) (by omega) (by first | omega | (dsimp only; omega))) fun a hF => ?_
 refine ge hK1 hF rfl fun a hF => wp_seq_k fun K2 hK2 => wp_region_calm (by kernel_rfl) (by kernel_rfl) <| qa 3 hF tk rfl fun a hF => wq hF rfl rfl rfl (fun w_ hB_ => r_loadn ag25 (hF.ev rfl) ((hS.ext hB_).boxn (vs := [_, _, _, _, _, _]) (i := 0) (m := 6) rfl rfl) sz25) fun a hF => qa 4 hF tk rfl fun a hF => wq hF rfl rfl rfl (fun w_ hB_ => r_load1 sc3 (hF.ev rfl) ((hS.ext hB_).elt1 (q := 3) (j := 2) hp rfl (fun _ => rfl))) fun a hF => ?_
 refine qk hF rfl (fun w_ hB_ => specHeadCell_c _ _) fun a hF => qa 1 hF tk rfl fun a hF => ?_
 refine wpQuiet_nil ?_; intro w1 hB_; have hS := hS.ext hB_
 refine hK2 _ _ <| ws fun K3 hK3 => ga 3 hF rfl fun a hF => wl hF rfl rfl rfl (r_load1 sc3 (hF.ev rfl) (hS.elt1 (q := 3) (j := 0) hp rfl (fun _ => rfl))) fun a hF => wl_nil <| hK3 _ _ <| wp_block <| rg hF rfl fun a hF => ?_
 refine cx 26 hF rfl (fun c26 hF => ?_) fun c26 hF => ?_
 ·
  refine ws fun K5 hK5 => ga 3 hF rfl fun a hF => ckr hF hS rfl (l9LoadR_c (fun j u hu => hS.box7 (i := 0) rfl j u hu) (hS.own_rd (i := 1) rfl)) fun w2 a hS hF => ckr hF hS rfl (specUnmarked_c (int64_loadC hf.wc)) fun w3 a hS hF => ga 2 hF rfl fun a hF => ?_
  refine es 3 9 hF hS hp rfl rfl rfl rfl rfl rfl fun w4 hS => ?_
  refine wl_nil <| hK5 _ _ <| ws fun K6 hK6 => ga 3 hF rfl fun a hF => ?_
  refine es 3 0 hF hS hp rfl rfl rfl rfl rfl rfl fun w5 hS => ?_
  refine wl_nil <| hK6 _ _ <| ws fun K7 hK7 => ga 3 hF rfl fun a hF => wl hF rfl rfl rfl (r_load1 sc3 (hF.ev rfl) (hS.elt1 (q := 3) (j := 9) hp rfl (fun _ => rfl))) fun a hF => ge hK7 hF rfl fun a hF => cx 42 hF rfl (fun c42 hF => ?_) fun c42 hF => ?_
  ·
   refine wp_region_lit <| ga 3 hF rfl fun a hF => ?_
   refine es 3 0 hF hS hp rfl rfl rfl rfl rfl rfl fun w6 hS => ?_
   refine wl_nil ?_
   refine xt ?_
   refine ret0n rfl hF ⟨rfl, ?_⟩
   unfold headS
   rw [if_pos c26, if_pos c42]
   exact hS
  refine wp_skip ?_
  refine xt ?_
  refine ret0n rfl hF ⟨rfl, ?_⟩
  unfold headS
  rw [if_pos c26, if_neg c42]
  exact hS
 refine rg hF rfl fun a hF => cx 46 hF rfl (fun c46 hF => ?_) fun c46 hF => ?_
 ·
  refine wp_seq_k fun K9 hK9 => wp_region_J (is := [0, 1, 2, 3, 4, 5, 7, 8, 9, 10, 6, 11]) (fun (_ : Unit) r => r) _ (()) [11] (by kernel_rfl) hF hS (by kernel_rfl) <| tq 4 rfl <| tj_load [6, 11] (by kernel_rfl) rfl (gw0 rfl) rfl rfl (fun a w_ x_ hF hS => r_loadn ag25 (hF.ev rfl) (hS.boxn (vs := [_, _, _, _, _, _]) (i := 0) (m := 6) rfl rfl) sz25) <| tq 4 rfl <| tj_load [11] (by kernel_rfl) rfl (gw0 rfl) rfl rfl (fun a w_ x_ hF hS => r_load1 sc3 (hF.ev rfl) (hS.elt1 (q := 3) (j := 9) hp rfl (fun _ => rfl))) <| tj_rd (by kernel_rfl) rfl (gw0 rfl) rfl rfl (fun a w_ hF => r_call3 en117 (hF.ev rfl) (hF.ev rfl) ec) (fun w_ hS => specHazardCell_c _ _ _) ?_
  refine tj_fin (tl := [_]) (by kernel_rfl) rfl ?_; intro a w7 hF hS; try dsimp only at hS
  refine ck hF rfl (l9Put_c (s := s) hS) ?_; rintro v w8 a ⟨rfl, hS⟩ hF
  refine wl_nil ⟨rfl, ?_⟩
  refine hK9 _ _ <| wp_region_lit <| ga 3 hF rfl fun a hF => ?_
  refine es 3 0 hF hS hp rfl rfl rfl rfl rfl rfl fun w9 hS => ?_
  refine wl_nil ?_
  refine xt ?_
  refine ret0n rfl hF ⟨rfl, ?_⟩
  unfold headS
  rw [if_neg c26, if_pos c46]
  exact hS
 refine rg hF rfl fun a hF => cx 63 hF rfl (fun c63 hF => ?_) fun c63 hF => ?_
 ·
  refine ws fun K11 hK11 => ga 3 hF rfl fun a hF => ?_
  refine es 3 0 hF hS hp rfl rfl rfl rfl rfl rfl fun w10 hS => ?_
  refine wl_nil <| hK11 _ _ <| wp_seq_k fun K12 hK12 => wp_region_calm (by kernel_rfl) (by kernel_rfl) <| qa 2 hF tk rfl fun a hF => qk hF rfl (fun w_ hB_ => l9LoadR_c (fun j u hu => (hS.ext hB_).box7 (i := 0) rfl j u hu) ((hS.ext hB_).own_rd (i := 1) rfl)) fun a hF => qa 3 hF tk rfl fun a hF => wq hF rfl rfl rfl (fun w_ hB_ => r_load1 sc3 (hF.ev rfl) ((hS.ext hB_).elt1 (q := 3) (j := 9) hp rfl (fun _ => rfl))) fun a hF => ?_
  refine qa 1 hF tk rfl fun a hF => ?_
  refine wpQuiet_nil ?_; intro w11 hB_; have hS := hS.ext hB_
  refine hK12 _ _ <| cx 75 hF rfl (fun c75 hF => ?_) fun c75 hF => ?_
  ·
   refine ws fun K13 hK13 => gB 8 0 hF hS rfl rfl rfl fun a hF => wv 0 hF hS rfl rfl rfl rfl rfl rfl fun w12 hS => wl_nil <| hK13 _ _ <| wp_region_lit <| ga 3 hF rfl fun a hF => ?_
   refine es 3 0 hF hS hp rfl rfl rfl rfl rfl rfl fun w13 hS => ?_
   refine wl_nil ?_
   refine xt ?_
   refine ret0n rfl hF ⟨rfl, ?_⟩
   unfold headS
   rw [if_neg c26, if_neg c46, if_pos c63, if_neg c75]
   exact hS
  refine wp_skip ?_
  refine xt ?_
  refine ret0n rfl hF ⟨rfl, ?_⟩
  unfold headS
  rw [if_neg c26, if_neg c46, if_pos c63, if_pos c75]
  exact hS
 refine rg hF rfl fun a hF => cx 87 hF rfl (fun c87 hF => ?_) fun c87 hF => ?_
 ·
  refine ws fun K15 hK15 => ga 6 hF rfl fun a hF => wl hF rfl rfl rfl (r_load1 sc3 (hF.ev rfl) (hS.elt1 (q := 3) (j := 9) hp rfl (fun _ => rfl))) fun a hF => ?_
  replace hS := hS.pm 4 [0, 2, 1, 3] rfl
  refine ck hF rfl (l9Cell_c (s := s) hf.curr hf.lg hS) ?_; rintro v w14 a ⟨rfl, hS⟩ hF
  refine ckr hF hS rfl (l9LoadR_c (fun j u hu => hS.box7 (i := 0) rfl j u hu) (hS.own_rd (i := 2) rfl)) fun w15 a hS hF => ga 2 hF rfl fun a hF => ?_
  refine es 3 12 hF hS hp rfl rfl rfl rfl rfl rfl fun w16 hS => ?_
  refine wl_nil <| hK15 _ _ <| ws fun K16 hK16 => ga 3 hF rfl fun a hF => ?_
  refine es 3 0 hF hS hp rfl rfl rfl rfl rfl rfl fun w17 hS => ?_
  refine wl_nil <| hK16 _ _ <| ws fun K17 hK17 => ga 3 hF rfl fun a hF => wl hF rfl rfl rfl (r_load1 sc3 (hF.ev rfl) (hS.elt1 (q := 3) (j := 12) hp rfl (fun _ => rfl))) fun a hF => ge hK17 hF rfl fun a hF => cx 107 hF rfl (fun c107 hF => ?_) fun c107 hF => ?_
  ·
   refine wp_region_lit <| ga 3 hF rfl fun a hF => ?_
   refine es 3 0 hF hS hp rfl rfl rfl rfl rfl rfl fun w18 hS => ?_
   refine wl_nil ?_
   refine xt ?_
   refine ret0n rfl hF ⟨rfl, ?_⟩
   unfold headS
   rw [if_neg c26, if_neg c46, if_neg c63, if_pos c87, if_pos c107]
   exact (hS.pm 4 [0, 2, 1, 3] rfl)
  refine wp_skip ?_
  refine xt ?_
  refine ret0n rfl hF ⟨rfl, ?_⟩
  unfold headS
  rw [if_neg c26, if_neg c46, if_neg c63, if_pos c87, if_neg c107]
  exact (hS.pm 4 [0, 2, 1, 3] rfl)
 refine rg hF rfl fun a hF => cx 111 hF rfl (fun c111 hF => ?_) fun c111 hF => ?_
 ·
  refine ws fun K19 hK19 => gB 5 0 hF hS rfl rfl rfl fun a hF => ?_
  obtain ⟨g118, o118, m118, q118, hv118, hm118, hl118, hc118⟩ := Rd.atF ((hS.own_rd (i := 1) rfl)) (a := a) (X := .const (.int .i64 0)) ec (by omega) (by omega)
  refine wl hF rfl rfl rfl (r_index sl29 ((hF.ev rfl).trans hv118) ec (by omega) (by first | omega | (simp at hm118; omega))) fun a hF => ?_
  refine wl hF rfl rfl rfl (r_load1 sc3 (hF.ev rfl) (hc118 0 _ rfl)) fun a hF => ga 2 hF rfl fun a hF => ?_
  refine es 3 11 hF hS hp rfl rfl rfl rfl rfl rfl fun w19 hS => ?_
  refine wl_nil <| hK19 _ _ <| wp_region_lit <| ga 3 hF rfl fun a hF => ?_
  refine es 3 0 hF hS hp rfl rfl rfl rfl rfl rfl fun w20 hS => ?_
  refine wl_nil ?_
  refine xt ?_
  refine ret0n rfl hF ⟨rfl, ?_⟩
  unfold headS
  rw [if_neg c26, if_neg c46, if_neg c63, if_neg c87, if_pos c111]
  exact hS
 refine rg hF rfl fun a hF => cx 125 hF rfl (fun c125 hF => ?_) fun c125 hF => ?_
 ·
  refine wp_seq_k fun K21 hK21 => wp_region_J (is := [0, 1, 2, 3, 4, 5, 7, 8, 9, 10, 6, 11]) (fun (f : Int) r => Box g (s.encfw tl (sv z0) (sv z1) (.slice (some ⟨gt, ot, none⟩) mt ct) f) :: r) _ (s.faults) [11] (by kernel_rfl) hF hS (by kernel_rfl) <| tq 5 rfl <| tj_load [6, 11] (by kernel_rfl) rfl (gw0 rfl) rfl rfl (fun a w_ x_ hF hS => r_load1 sc3 (hF.ev rfl) (hS.elt1 (q := 3) (j := 9) hp rfl (fun _ => rfl))) <| tq 3 rfl <| tj_load [11] (by kernel_rfl) rfl (gw0 rfl) rfl rfl (fun a w_ x_ hF hS => r_load1 sc3 (hF.ev rfl) (hS.elt1 (q := 3) (j := 11) hp rfl (fun _ => rfl))) ?_
  refine tj_mc (by kernel_rfl) rfl (gw0 rfl) rfl rfl (fun a w_ hF => r_call3 en118 (hF.ev rfl) (hF.ev rfl) ec) (fun w_ hS => calls_unit (l9Cell_c (s := s) hf.curr hf.lg (hS.pm 4 [0, 2, 1, 3] rfl))) (fun _ w_ h_ => ⟨_, (h_.pm 4 [0, 2, 1, 3] rfl)⟩) ?_; intro _
  refine tj_fin (tl := [_]) (by kernel_rfl) rfl ?_; intro a w21 hF hS; try dsimp only at hS
  replace hS := hS.pm 4 [0, 2, 1, 3] rfl
  refine ck hF rfl (l9Swap_c (s := faultS s t.curr) hS) ?_; rintro v w22 a ⟨rfl, hS⟩ hF
  refine wl_nil ⟨rfl, ?_⟩
  refine hK21 _ _ <| wp_region_lit <| ga 3 hF rfl fun a hF => ?_
  refine es 3 0 hF hS hp rfl rfl rfl rfl rfl rfl fun w23 hS => ?_
  refine wl_nil ?_
  refine xt ?_
  refine ret0n rfl hF ⟨rfl, ?_⟩
  unfold headS
  rw [if_neg c26, if_neg c46, if_neg c63, if_neg c87, if_neg c111, if_pos c125]
  exact hS
 refine rg hF rfl fun a hF => cx 142 hF rfl (fun c142 hF => ?_) fun c142 hF => ?_
 ·
  refine wp_seq_k fun K23 hK23 => wp_region_J (is := [0, 1, 2, 3, 4, 5, 7, 8, 9, 10, 6, 11]) (fun (f : Int) r => Box g (s.encfw tl (sv z0) (sv z1) (.slice (some ⟨gt, ot, none⟩) mt ct) f) :: r) _ (s.faults) [11] (by kernel_rfl) hF hS (by kernel_rfl) <| tq 5 rfl <| tj_load [6, 11] (by kernel_rfl) rfl (gw0 rfl) rfl rfl (fun a w_ x_ hF hS => r_load1 sc3 (hF.ev rfl) (hS.elt1 (q := 3) (j := 7) hp rfl (fun _ => rfl))) <| tq 3 rfl <| tj_load [11] (by kernel_rfl) rfl (gw0 rfl) rfl rfl (fun a w_ x_ hF hS => r_load1 sc3 (hF.ev rfl) (hS.elt1 (q := 3) (j := 9) hp rfl (fun _ => rfl))) ?_
  refine tj_mc (by kernel_rfl) rfl (gw0 rfl) rfl rfl (fun a w_ hF => r_call3 en118 (hF.ev rfl) (hF.ev rfl) ec) (fun w_ hS => calls_unit (l9Cell_c (s := s) hf.node hf.lg (hS.pm 4 [0, 2, 1, 3] rfl))) (fun _ w_ h_ => ⟨_, (h_.pm 4 [0, 2, 1, 3] rfl)⟩) ?_; intro _
  refine tj_fin (tl := [_]) (by kernel_rfl) rfl ?_; intro a w24 hF hS; try dsimp only at hS
  replace hS := hS.pm 4 [0, 2, 1, 3] rfl
  refine ck hF rfl (l9Put_c (s := faultS s t.node) hS) ?_; rintro v w25 a ⟨rfl, hS⟩ hF
  refine wl_nil ⟨rfl, ?_⟩
  refine hK23 _ _ <| wp_region_lit <| ga 3 hF rfl fun a hF => ?_
  refine es 3 0 hF hS hp rfl rfl rfl rfl rfl rfl fun w26 hS => ?_
  refine wl_nil ?_
  refine xt ?_
  refine ret0n rfl hF ⟨rfl, ?_⟩
  unfold headS
  rw [if_neg c26, if_neg c46, if_neg c63, if_neg c87, if_neg c111, if_neg c125, if_pos c142]
  exact hS
 refine rg hF rfl fun a hF => cx 159 hF rfl (fun c159 hF => ?_) fun c159 hF => ?_
 ·
  refine ws fun K25 hK25 => ga 3 hF rfl fun a hF => ?_
  refine es 3 0 hF hS hp rfl rfl rfl rfl rfl rfl fun w27 hS => ?_
  refine wl_nil <| hK25 _ _ <| wp_seq_k fun K26 hK26 => wp_region_J (is := [0, 1, 2, 3, 4, 5, 6, 7, 8, 9, 10, 11]) (fun (_ : Unit) r => r) _ (()) [10, 11] (by kernel_rfl) hF hS (by kernel_rfl) <| tq 5 rfl <| tj_load [10, 11] (by kernel_rfl) rfl (gw0 rfl) rfl rfl (fun a w_ x_ hF hS => r_load1 sc3 (hF.ev rfl) (hS.elt1 (q := 3) (j := 9) hp rfl (fun _ => rfl))) <| tq 3 rfl <| tj_load [10, 11] (by kernel_rfl) rfl (gw0 rfl) rfl rfl (fun a w_ x_ hF hS => r_load1 sc3 (hF.ev rfl) (hS.elt1 (q := 3) (j := 7) hp rfl (fun _ => rfl))) ?_
  refine tj_fin (tl := [_, _]) (by kernel_rfl) rfl ?_; intro a w28 hF hS; try dsimp only at hS
  refine ck hF rfl (l9Swap_c (s := s) hS) ?_; rintro v w29 a ⟨rfl, hS⟩ hF
  refine ga 1 hF rfl fun a hF => wl_nil ⟨rfl, ?_⟩
  refine hK26 _ _ <| cx 175 hF rfl (fun c175 hF => ?_) fun c175 hF => ?_
  ·
   replace c175 : ¬ hitB s.cells (headCell s.config t.op.key) t.curr = true := fun h => by rw [h] at c175; cases c175
   refine ws fun K27 hK27 => gB 8 0 hF hS rfl rfl rfl fun a hF => wv 0 hF hS rfl rfl rfl rfl rfl rfl fun w30 hS => wl_nil <| hK27 _ _ <| wp_region_lit <| ga 3 hF rfl fun a hF => ?_
   refine es 3 0 hF hS hp rfl rfl rfl rfl rfl rfl fun w31 hS => ?_
   refine wl_nil ?_
   refine xt ?_
   refine ret0n rfl hF ⟨rfl, ?_⟩
   unfold headS
   rw [if_neg c26, if_neg c46, if_neg c63, if_neg c87, if_neg c111, if_neg c125, if_neg c142, if_pos c159, if_neg c175]
   exact hS
  refine wp_skip ?_
  refine xt ?_
  refine ret0n rfl hF ⟨rfl, ?_⟩
  unfold headS
  rw [if_neg c26, if_neg c46, if_neg c63, if_neg c87, if_neg c111, if_neg c125, if_neg c142, if_pos c159, if_pos c175]
  exact hS
 refine wp_skip ?_
 refine xt ?_
 refine ret0n rfl hF ⟨rfl, ?_⟩
 unfold headS
 rw [if_neg c26, if_neg c46, if_neg c63, if_neg c87, if_neg c111, if_neg c125, if_neg c142, if_neg c159]
 exact hS
theorem l14Own_c {W w : World} {l : List Res} {g gt ot mt ct p : Nat} {z0 z1 : Slv} {s : Sl.State} {t : Sl.Thread} (hp : p < s.threads.length) (hf : Fit s t) (hS : Sep W (Box g ((s).encw tl (sv z0) (sv z1) (.slice (some ⟨gt, ot, none⟩) mt ct)) :: Own intEK (sv z0) (s).cells :: Own intEK (sv z1) (s).generations :: Own threadEK (.slice (some ⟨gt, ot, none⟩) mt ct) (s.threads.set p t) :: l) w) : Calls Tryz.prog 97 #[.pointer (some ⟨g, 0, none⟩), vi (p : Int)] w (Ret fun v w' => v = .tuple #[] ∧ Sep W (Box g (((ownS s t (p : Int)).1).encw tl (sv z0) (sv z1) (.slice (some ⟨gt, ot, none⟩) mt ct)) :: Own intEK (sv z0) ((ownS s t (p : Int)).1).cells :: Own intEK (sv z1) ((ownS s t (p : Int)).1).generations :: Own threadEK (.slice (some ⟨gt, ot, none⟩) mt ct) (s.threads.set p (ownS s t (p : Int)).2) :: l) w') := by
 refine cfr Tryz.func97 Tryz.ntmps97 fun a hF => ?_
 have hl0 := hS.own_len (q := 1) rfl
 have hl1 := hS.own_len (q := 2) rfl
 have hmt : mt = s.threads.length := by have := hS.own_len (q := 3) (s := (some ⟨gt, ot, none⟩, mt, ct)) rfl; simpa using this
 have hlc := hf.two
 have hz1 := hf.sizes; unfold sizesOk at hz1
 refine ws fun K1 hK1 => gB 5 0 hF hS rfl rfl rfl fun a hF => ?_
 refine wl hF rfl rfl rfl (r_index sl73 (hF.ev rfl) (hF.ev rfl) (by omega) (by first | omega | (dsimp only; omega))) fun a hF => ?_
 refine ge hK1 hF rfl fun a hF => ws fun K2 hK2 => ga 3 hF rfl fun a hF => wl hF rfl rfl rfl (r_load1 sc3 (hF.ev rfl) (hS.elt1 (q := 3) (j := 0) hp rfl (fun _ => rfl))) fun a hF => wl_nil <| hK2 _ _ <| wp_block <| rg hF rfl fun a hF => ?_
 refine cx 17 hF rfl (fun c17 hF => ?_) fun c17 hF => ?_
 ·
  refine ws fun K4 hK4 => gB 5 0 hF hS rfl rfl rfl fun a hF => ?_
  obtain ⟨g24, o24, m24, q24, hv24, hm24, hl24, hc24⟩ := Rd.atF ((hS.own_rd (i := 1) rfl)) (a := a) (X := .const (.int .i64 0)) ec (by omega) (by omega)
  refine wl hF rfl rfl rfl (r_index sl29 ((hF.ev rfl).trans hv24) ec (by omega) (by first | omega | (simp at hm24; omega))) fun a hF => ?_
  refine wl hF rfl rfl rfl (r_load1 sc3 (hF.ev rfl) (hc24 0 _ rfl)) fun a hF => ga 2 hF rfl fun a hF => ?_
  refine es 3 11 hF hS hp rfl rfl rfl rfl rfl rfl fun w1 hS => ?_
  refine wl_nil <| hK4 _ _ <| wp_region_lit <| ga 3 hF rfl fun a hF => ?_
  refine es 3 0 hF hS hp rfl rfl rfl rfl rfl rfl fun w2 hS => ?_
  refine wl_nil ?_
  refine xt ?_
  refine ret0n rfl hF ⟨rfl, ?_⟩
  unfold ownS
  rw [if_pos c17]
  exact hS
 refine rg hF rfl fun a hF => cx 31 hF rfl (fun c31 hF => ?_) fun c31 hF => ?_
 ·
  refine wp_seq_k fun K6 hK6 => wp_region_J (is := [0, 1, 2, 3, 4, 5, 7, 8, 9, 10, 6, 11]) (fun (f : Int) r => Box g (s.encfw tl (sv z0) (sv z1) (.slice (some ⟨gt, ot, none⟩) mt ct) f) :: r) _ (s.faults) [11] (by kernel_rfl) hF hS (by kernel_rfl) <| tq 5 rfl <| tj_load [6, 11] (by kernel_rfl) rfl (gw0 rfl) rfl rfl (fun a w_ x_ hF hS => r_load1 sc3 (hF.ev rfl) (hS.elt1 (q := 3) (j := 7) hp rfl (fun _ => rfl))) <| tq 3 rfl <| tj_load [11] (by kernel_rfl) rfl (gw0 rfl) rfl rfl (fun a w_ x_ hF hS => r_load1 sc3 (hF.ev rfl) (hS.elt1 (q := 3) (j := 11) hp rfl (fun _ => rfl))) ?_
  refine tj_mc (by kernel_rfl) rfl (gw0 rfl) rfl rfl (fun a w_ hF => r_call3 en118 (hF.ev rfl) (hF.ev rfl) ec) (fun w_ hS => calls_unit (l9Cell_c (s := s) hf.node hf.lg (hS.pm 4 [0, 2, 1, 3] rfl))) (fun _ w_ h_ => ⟨_, (h_.pm 4 [0, 2, 1, 3] rfl)⟩) ?_; intro _
  refine tj_fin (tl := [_]) (by kernel_rfl) rfl ?_; intro a w3 hF hS; try dsimp only at hS
  replace hS := hS.pm 4 [0, 2, 1, 3] rfl
  refine ck hF rfl (l9Swap_c (s := faultS s t.node) hS) ?_; rintro v w4 a ⟨rfl, hS⟩ hF
  refine wl_nil ⟨rfl, ?_⟩
  refine hK6 _ _ <| wp_region_lit <| ga 3 hF rfl fun a hF => ?_
  refine es 3 0 hF hS hp rfl rfl rfl rfl rfl rfl fun w5 hS => ?_
  refine wl_nil ?_
  refine xt ?_
  refine ret0n rfl hF ⟨rfl, ?_⟩
  unfold ownS
  rw [if_neg c17, if_pos c31]
  exact hS
 refine rg hF rfl fun a hF => cx 48 hF rfl (fun c48 hF => ?_) fun c48 hF => ?_
 ·
  refine ws fun K8 hK8 => ga 5 hF rfl fun a hF => wl hF rfl rfl rfl (r_load1 sc3 (hF.ev rfl) (hS.elt1 (q := 3) (j := 7) hp rfl (fun _ => rfl))) fun a hF => ?_
  replace hS := hS.pm 4 [0, 2, 1, 3] rfl
  refine ck hF rfl (l9Cell_c (s := s) hf.node hf.lg hS) ?_; rintro v w6 a ⟨rfl, hS⟩ hF
  refine ckr hF hS rfl (l9LoadR_c (fun j u hu => hS.box7 (i := 0) rfl j u hu) (hS.own_rd (i := 2) rfl)) fun w7 a hS hF => ge hK8 hF rfl fun a hF => wp_seq_k fun K9 hK9 => ?_
  refine wp_region_todo (is := [0, 1, 2, 3, 4, 5, 6, 7, 8, 9, 10, 11, 12, 13, 14, 16]) [(15, 6, [.int .i64 0, .int .i64 0, .int .i64 0, .int .i64 0])] [16] (by kernel_rfl) hF hS ⟨⟨⟨_, _, _, rfl, zr139⟩, trivial⟩, by decide, by decide, by decide⟩ (by kernel_rfl) ?_; intro hl_ wd hSd
  refine tp 3 hl_ rfl <| todo_load [14, 16] hl_ (by kernel_rfl) rfl (gw0 rfl) rfl rfl rfl (fun a w_ hF hB_ => r_load1 sc3 (hF.ev rfl) ((hSd.ext hB_).elt1 (q := 3) (j := 9) hp rfl (fun _ => rfl))) <| tp 4 hl_ rfl <| todo_load [14, 16] hl_ (by kernel_rfl) rfl (gw0 rfl) rfl rfl rfl (fun a w_ hF hB_ => r_load1 sc3 (hF.ev rfl) ((hSd.ext hB_).elt1 (q := 3) (j := 2) hp rfl (fun _ => rfl))) <| tp 3 hl_ rfl <| todo_load [14, 16] hl_ (by kernel_rfl) rfl (gw0 rfl) rfl rfl rfl (fun a w_ hF hB_ => r_load1 sc3 (hF.ev rfl) ((hSd.ext hB_).elt1 (q := 3) (j := 12) hp rfl (fun _ => rfl))) <| tp 1 hl_ rfl ?_
  refine todo_pure hl_ (by kernel_rfl) rfl (gw0 rfl) rfl rfl rfl (fun a w_ hF => r_build (bd139_0_1_2_3 _ _ _ _) ⟨rfl, (hF.ev rfl), rfl, (hF.ev rfl), rfl, (hF.ev rfl), rfl, (hF.ev rfl), trivial⟩) ?_
  refine todo_fin hl_ rfl (by kernel_rfl) (tl := [_]) rfl ?_; intro a w8 hF hA_
  obtain ⟨g1, hS, he_0⟩ := hA_.open1; clear hA_
  replace hF := hF.more he_0; clear he_0
  clear hl_; try clear hSd
  try dsimp only [List.cons_append, List.nil_append, List.set] at hS
  try clear wd
  refine ww 0 hF hS rfl rfl rfl rfl rfl rfl fun w9 hS => wl_nil ⟨rfl, ?_⟩
  refine hK9 _ _ <| wp_seq_k fun K10 hK10 => ws fun K11 hK11 => ga 3 hF rfl fun a hF => wl hF rfl rfl rfl (r_load1 sc3 (hF.ev rfl) (hS.elt1 (q := 4) (j := 9) hp rfl (fun _ => rfl))) fun a hF => ga 2 hF rfl fun a hF => ?_
  apply wa 3 78 81 hF hS
  ·
   intro hg78 a hF
   refine gB 1 0 hF hS rfl rfl rfl fun a hF => ckr hF hS rfl (specIsEntry_c (e := newE s t) hf.entry) fun w10 a hS hF => ?_
   exact je 3 hF hS rfl rfl rfl rfl
  intro a w11 hF hS
  refine ga 1 hF rfl fun a hF => ?_
  apply wa 7 82 89 hF hS
  ·
   intro hg82 a hF
   refine ga 3 hF rfl fun a hF => wl_take hF rfl rfl rfl rfl ?_
   obtain ⟨ce86, ke86, ze86, he86⟩ := hS.eltK (q := 4) hp rfl; have kk86 := ke86; obtain ⟨u86_0, u86_1, u86_2, u86_3, u86_4, rfl, f86_0, f86_1, f86_2, f86_3, f86_4⟩ := ke86
   obtain ⟨Ae86, qe86, rfl, _, hme86⟩ := f86_2.sl; unfold maxLen at hme86
   refine wl hF rfl rfl rfl (r_load1 sc108 (hF.ev rfl) (he86 16 _ rfl)) fun a hF => ?_
   exact je 7 hF hS rfl rfl rfl rfl
  intro a w12 hF hS
  refine wl_nil <| hK11 _ _ <| cx 89 hF rfl (fun c89 hF => ?_) fun c89 hF => ?_
  ·
   obtain ⟨A0_, A1_, A2_, A3_, A4_, k0_, k1_, k2_, k3_, k4_, ⟨n0_, n1_, n2_, n3_, n4_⟩, ⟨q0_, q1_, q2_, q3_, q4_⟩, hS_⟩ := Sep.thr_lend (t := t) (hS.pm 5 [4, 0, 1, 2, 3] rfl) hp; replace hS := hS_; clear hS_; unfold maxLen at n0_ n1_ n2_ n3_ n4_; try dsimp only at n0_ n1_ n2_ n3_ n4_ q0_ q1_ q2_ q3_ q4_
   dsimp only [Thread.encv] at hS
   refine wp_region_todo (is := [0, 1, 2, 3, 4, 5, 6, 7, 8, 9, 10]) [] [7, 8, 9, 10] (by kernel_rfl) hF hS ⟨trivial, by decide, by decide, by decide⟩ (by kernel_rfl) ?_; intro hl_ wd hSd
   refine tp 4 hl_ rfl <| todo_load [7, 8, 9, 10] hl_ (by kernel_rfl) rfl (gw0 rfl) rfl rfl rfl (fun a w_ hF hB_ => r_load1 sc108 (hF.ev rfl) ((hSd.ext hB_).but1 (q := 5) (j := 16) rfl rfl)) <| todo_load [6, 7, 8, 9, 10] hl_ (by kernel_rfl) rfl (gw0 rfl) rfl rfl rfl (fun a w_ hF hB_ => r_loadn ag139 (hF.ev rfl) ((hSd.ext hB_).box_rd (i := 6) rfl) sz139) ?_
   refine todo_op hl_ rfl (by kernel_rfl) rfl rfl rfl rfl rfl (fun a w_ hF hS => r_bslice entryEK [.agg (newE s t).enc.toArray] [newE s t] rfl mk108 rfl ⟨rfl, (hF.ev rfl), trivial⟩ rfl rfl rfl rfl) ?_; intro gl_96
   refine todo_fin hl_ rfl (by kernel_rfl) (tl := [_, _, _, _]) rfl ?_; intro a w14 hF hA_
   have hS := hA_.sep; clear hA_
   clear hl_; try clear hSd
   try dsimp only [List.cons_append, List.nil_append, List.set] at hS
   try clear wd
   refine wl_append (q := 3) hF hS rfl rfl (hS.own_rd (i := 0) rfl) mk108 rfl (hF.ev rfl) (hF.ev rfl) (by simp; omega) (by unfold maxLen; simp; omega) ?_; intro A_97 c_97 w15 a hS_ hF; replace hS := hS_; clear hS_; dsimp only [List.set, List.length_cons, List.length_nil] at hS hF
   refine ga 2 hF rfl fun a hF => ?_
   refine wl_bstore (q := 6) (j := 16) hF hS rfl sz108 (hF.ev rfl) rfl (hF.ev rfl) rfl rfl fun w16 hS => ?_; dsimp only [List.set] at hS
   refine wl_nil ⟨rfl, ?_⟩
   refine hK10 _ _ <| wp_region_lit <| ga 3 hF rfl fun a hF => ?_
   refine wl_bstore (q := 6) (j := 0) hF hS rfl sz3 (hF.ev rfl) rfl ec rfl rfl fun w17 hS => ?_; dsimp only [List.set] at hS
   refine wl_nil ?_
   refine xt ?_
   replace hS := Sep.thr_back (t' := { t with buffer := t.buffer ++ [newE s t], pc := 46 }) (y0 := (_, _, _)) (y1 := (_, _, _)) (y2 := (_, _, _)) (y3 := (_, _, _)) (y4 := (_, _, _)) (hS.pm 11 [1, 2, 3, 4, 5, 6, 0, 7, 8, 9, 10] rfl) rfl
   have e45 : (if (¬ t.curr = 0 ∧ isEntry (newE s t) = true) ∧ (t.buffer.length : Int) < 100 then { t with buffer := t.buffer ++ [newE s t], pc := 46 } else { t with pc := 46 } : Sl.Thread) = { t with buffer := t.buffer ++ [newE s t], pc := 46 } := if_pos c89
   refine ret0n rfl hF ⟨rfl, ?_⟩
   unfold ownS
   rw [if_neg c17, if_neg c31, if_pos c48, e45]
   exact (hS.pm 6 [3, 5, 4, 0] rfl)
  have hng : ¬ ((¬ t.curr = 0 ∧ isEntry (newE s t) = true) ∧ (t.buffer.length : Int) < 100) := fun h => by
    rcases c89 with (c | c) | c
    · exact h.1.1 c
    · rw [h.1.2] at c; cases c
    · omega
  refine wp_skip <| hK10 _ _ <| wp_region_lit <| ga 3 hF rfl fun a hF => ?_
  refine es 4 0 hF hS hp rfl rfl rfl rfl rfl rfl fun w18 hS => ?_
  refine wl_nil ?_
  refine xt ?_
  have e45 : (if (¬ t.curr = 0 ∧ isEntry (newE s t) = true) ∧ (t.buffer.length : Int) < 100 then { t with buffer := t.buffer ++ [newE s t], pc := 46 } else { t with pc := 46 } : Sl.Thread) = { t with pc := 46 } := if_neg hng
  refine ret0n rfl hF ⟨rfl, ?_⟩
  unfold ownS
  rw [if_neg c17, if_neg c31, if_pos c48, e45]
  exact (hS.pm 5 [1, 3, 2, 4] rfl)
 refine rg hF rfl fun a hF => cx 103 hF rfl (fun c103 hF => ?_) fun c103 hF => ?_
 ·
  refine ws fun K13 hK13 => ga 4 hF rfl fun a hF => wl hF rfl rfl rfl (r_loadn ag25 (hF.ev rfl) (hS.boxn (vs := [_, _, _, _, _, _]) (i := 0) (m := 6) rfl rfl) sz25) fun a hF => ga 1 hF rfl fun a hF => ckr hF hS rfl (specHazardCell_c _ _ _) fun w19 a hS hF => ?_
  refine ck hF rfl (l9Put_c (s := s) hS) ?_; rintro v w20 a ⟨rfl, hS⟩ hF
  refine wl_nil <| hK13 _ _ <| wp_region_lit <| ga 3 hF rfl fun a hF => ?_
  refine es 3 0 hF hS hp rfl rfl rfl rfl rfl rfl fun w21 hS => ?_
  refine wl_nil ?_
  refine xt ?_
  refine ret0n rfl hF ⟨rfl, ?_⟩
  unfold ownS
  rw [if_neg c17, if_neg c31, if_neg c48, if_pos c103]
  exact hS
 refine rg hF rfl fun a hF => cx 116 hF rfl (fun c116 hF => ?_) fun c116 hF => ?_
 ·
  refine ws fun K15 hK15 => ga 4 hF rfl fun a hF => wl hF rfl rfl rfl (r_loadn ag25 (hF.ev rfl) (hS.boxn (vs := [_, _, _, _, _, _]) (i := 0) (m := 6) rfl rfl) sz25) fun a hF => ga 1 hF rfl fun a hF => ckr hF hS rfl (specHazardCell_c _ _ _) fun w22 a hS hF => ?_
  refine ck hF rfl (l9Put_c (s := s) hS) ?_; rintro v w23 a ⟨rfl, hS⟩ hF
  refine wl_nil <| hK15 _ _ <| wp_seq_k fun K16 hK16 => wp_seq_k fun K17 hK17 => wp_region_calm (by kernel_rfl) (by kernel_rfl) <| qa 3 hF tk rfl fun a hF => wq hF rfl rfl rfl (fun w_ hB_ => r_loadn ag25 (hF.ev rfl) ((hS.ext hB_).boxn (vs := [_, _, _, _, _, _]) (i := 0) (m := 6) rfl rfl) sz25) fun a hF => qa 2 hF tk rfl fun a hF => ?_
  obtain ⟨ce132, ke132, ze132, he132⟩ := hS.eltK (q := 3) hp rfl; have kk132 := ke132; obtain ⟨u132_0, u132_1, u132_2, u132_3, u132_4, rfl, f132_0, f132_1, f132_2, f132_3, f132_4⟩ := ke132
  refine wq hF rfl rfl rfl (fun w_ hB_ => r_loadn ag110 (hF.ev rfl) (fun j_ u_ hu_ => cellB hB_ (he132 j_ u_ hu_)) sz110) fun a hF => qk hF rfl (fun w_ hB_ => specMustFlush_c (c := s.config) (threadEK.ext hB_ kk132)) fun a hF => qa 1 hF tk rfl fun a hF => ?_
  refine wpQuiet_nil ?_; intro w24 hB_; have hS := hS.ext hB_
  refine hK17 _ _ <| cx 134 hF rfl (fun c134 hF => ?_) fun c134 hF => ?_
  ·
   replace c134 : ¬ mustFlush s.config t = true := by rw [c134]; decide
   refine ws fun K18 hK18 => ga 2 hF rfl fun a hF => ?_
   replace hS := hS.pm 4 [0, 3, 1, 2] rfl
   refine ck hF rfl (l10Finish_c (s := putS s (hazardCell s.config (p : Int) 1) 0) hp hS) ?_; rintro v w25 a ⟨rfl, hS⟩ hF
   refine wl_nil (hK18 _ _ ?_)
   refine xr ?_
   refine ret0 rfl hF ⟨rfl, ?_⟩
   unfold ownS
   rw [if_neg c17, if_neg c31, if_neg c48, if_neg c103, if_pos c116, if_neg c134]
   exact (hS.pm 4 [0, 2, 3, 1] rfl)
  refine wp_skip <| hK16 _ _ <| ws fun K19 hK19 => ga 1 hF rfl fun a hF => ?_
  replace hS := hS.pm 4 [3, 0, 1, 2] rfl
  refine ck hF rfl (l10Clear_c hp hS) ?_; rintro v w26 a ⟨rfl, hS⟩ hF
  refine wl_nil <| hK19 _ _ <| wp_region_lit <| ga 3 hF rfl fun a hF => ?_
  refine es 0 0 hF hS hp rfl rfl rfl rfl rfl rfl fun w27 hS => ?_
  refine wl_nil ?_
  refine xt ?_
  refine ret0n rfl hF ⟨rfl, ?_⟩
  unfold ownS
  rw [if_neg c17, if_neg c31, if_neg c48, if_neg c103, if_pos c116, if_pos c134]
  exact (hS.pm 4 [1, 2, 3, 0] rfl)
 refine wp_skip ?_
 refine xt ?_
 refine ret0n rfl hF ⟨rfl, ?_⟩
 unfold ownS
 rw [if_neg c17, if_neg c31, if_neg c48, if_neg c103, if_neg c116]
 exact hS
set_option maxRecDepth 20000
variable {tl : List Value}
def foundN (t : Sl.Thread) (n : Int) : List Int := if n = 0 then t.found else t.found ++ [n]
def freeStep (z : List Int × List Int) (h : Int) : List Int × List Int := if at0 z.1 (indexOf h) < 9998 ∧ (z.2.length : Int) < 100 then (z.1.set (indexOf h).toNat (IntKind.i64.wrap (at0 z.1 (indexOf h) + 1)), z.2 ++ [indexOf h]) else z
def freeAll (gs fr hs : List Int) : List Int × List Int := hs.foldl freeStep (gs, fr)
def scanN (s : Sl.State) (t : Sl.Thread) : Int := loadC s.cells (hazardCell s.config (IntKind.i64.wrap (t.at_.tdiv 2)) (t.at_.tmod 2))
def reclaimS (s : Sl.State) (t : Sl.Thread) (p : Int) : Sl.State × Sl.Thread :=
  if IntKind.i64.wrap (t.at_ + 1) < IntKind.i64.wrap (2 * s.config.threads) then (s, { t with found := foundN t (scanN s t), at_ := IntKind.i64.wrap (t.at_ + 1) })
  else ({ s with generations := (freeAll s.generations t.free (splitOut t.limbo (foundN t (scanN s t)))).1 }, endT t 0 0 |> fun x => { x with limbo := splitIn t.limbo (foundN t (scanN s t)), free := (freeAll s.generations t.free (splitOut t.limbo (foundN t (scanN s t)))).2 })
section
variable {gs fr hs : List Int} {h : Int} {k : Nat}
theorem freeAll_yes (hx : hs[k]? = some h) (hc : at0 (freeAll gs fr (hs.take k)).1 (indexOf h) < 9998 ∧ ((freeAll gs fr (hs.take k)).2.length : Int) < 100) :
    freeAll gs fr (hs.take (k + 1)) = ((freeAll gs fr (hs.take k)).1.set (indexOf h).toNat (IntKind.i64.wrap (at0 (freeAll gs fr (hs.take k)).1 (indexOf h) + 1)), (freeAll gs fr (hs.take k)).2 ++ [indexOf h]) := by
  rw [List.take_add_one, hx]
  unfold freeAll at hc ⊢
  rw [List.foldl_append]
  simp only [Option.toList_some, List.foldl_cons, List.foldl_nil]
  exact if_pos hc
theorem freeAll_no (hx : hs[k]? = some h) (hc : ¬ (at0 (freeAll gs fr (hs.take k)).1 (indexOf h) < 9998 ∧ ((freeAll gs fr (hs.take k)).2.length : Int) < 100)) :
    freeAll gs fr (hs.take (k + 1)) = freeAll gs fr (hs.take k) := by
  rw [List.take_add_one, hx]
  unfold freeAll at hc ⊢
  rw [List.foldl_append]
  simp only [Option.toList_some, List.foldl_cons, List.foldl_nil]
  exact if_neg hc
theorem freeStep_len {z : List Int × List Int} : (freeStep z h).1.length = z.1.length ∧ (freeStep z h).2.length ≤ z.2.length + 1 := by
 unfold freeStep
 split
 · exact ⟨by simp, by simp⟩
 · exact ⟨rfl, by omega⟩
theorem foldl_len : ∀ (hs : List Int) (z : List Int × List Int), (hs.foldl freeStep z).1.length = z.1.length ∧ (hs.foldl freeStep z).2.length ≤ z.2.length + hs.length
  | [], z => ⟨rfl, by simp⟩
  | h :: hs, z => by
    have h1 := foldl_len hs (freeStep z h)
    have h2 := freeStep_len (z := z) (h := h)
    simp only [List.foldl_cons, List.length_cons]
    exact ⟨h1.1.trans h2.1, by omega⟩
theorem freeAll_len : (freeAll gs fr hs).1.length = gs.length := (foldl_len hs (gs, fr)).1
theorem freeAll_free : (freeAll gs fr hs).2.length ≤ fr.length + hs.length := (foldl_len hs (gs, fr)).2
end
theorem split_len (xs ys : List Int) : (splitIn xs ys).length + (splitOut xs ys).length = xs.length := by
 unfold splitIn splitOut
 induction xs with
 | nil => rfl
 | cons x xs ih =>
   simp only [List.filter_cons]
   by_cases h : x ∈ ys <;> simp [h] <;> omega
theorem foundN_len {t : Sl.Thread} {n : Int} : (foundN t n).length ≤ t.found.length + 1 := by unfold foundN; split <;> simp
theorem reclaimS_size (s : Sl.State) (t : Sl.Thread) (p : Int) : ((reclaimS s t p).1.cells.length = s.cells.length ∧ (reclaimS s t p).1.generations.length = s.generations.length) ∧ (reclaimS s t p).2.size ≤ t.size + 1 := by
 have h1 := foundN_len (t := t) (n := scanN s t)
 have h2 := split_len t.limbo (foundN t (scanN s t))
 have h3 := freeAll_free (gs := s.generations) (fr := t.free) (hs := splitOut t.limbo (foundN t (scanN s t)))
 unfold reclaimS
 split
 · refine ⟨⟨rfl, rfl⟩, ?_⟩
   unfold Sl.Thread.size; dsimp only; omega
 · refine ⟨⟨rfl, freeAll_len⟩, ?_⟩
   unfold endT clearT Sl.Thread.size; dsimp only; simp only [List.length_nil]; omega
theorem Fit.nodes {s : Sl.State} {t : Sl.Thread} (hf : Fit s t) {ys : List Int} {h : Int} (hm : h ∈ splitOut t.limbo ys) : int64 h ∧ 0 ≤ indexOf h ∧ indexOf h < s.config.capacity := by
 have h1 : h ∈ t.limbo := by unfold splitOut at hm; exact (List.mem_filter.1 hm).1
 have h2 := hf.th
 unfold threadOk at h2; simp only [Bool.and_eq_true] at h2
 have h3 := List.all_eq_true.1 h2.1.2 h h1
 unfold isNode at h3; simp only [Bool.and_eq_true, decide_eq_true_eq] at h3
 exact ⟨hf.wt.2.2.2.2.2.2.2.2.2.2.2.2.2.2.2 h h1, indexOf_pos h3.1, h3.2⟩
theorem l16Scan_c {W w : World} {l : List Res} {g gt ot mt ct p : Nat} {z0 z1 : Slv} {s : Sl.State} {t : Sl.Thread} (hp : p < s.threads.length) (hf : Fit s t) (hS : Sep W (Box g ((s).encw tl (sv z0) (sv z1) (.slice (some ⟨gt, ot, none⟩) mt ct)) :: Own intEK (sv z0) (s).cells :: Own intEK (sv z1) (s).generations :: Own threadEK (.slice (some ⟨gt, ot, none⟩) mt ct) (s.threads.set p t) :: l) w) : Calls Tryz.prog 100 #[.pointer (some ⟨g, 0, none⟩), vi (p : Int)] w (Ret fun v w' => v = .tuple #[] ∧ Sep W (Box g (((reclaimS s t (p : Int)).1).encw tl (sv z0) (sv z1) (.slice (some ⟨gt, ot, none⟩) mt ct)) :: Own intEK (sv z0) ((reclaimS s t (p : Int)).1).cells :: Own intEK (sv z1) ((reclaimS s t (p : Int)).1).generations :: Own threadEK (.slice (some ⟨gt, ot, none⟩) mt ct) (s.threads.set p (reclaimS s t (p : Int)).2) :: l) w') := by
 refine cfr Tryz.func100 Tryz.ntmps100 fun a hF => ?_
 have hl0 := hS.own_len (q := 1) rfl
 have hl1 := hS.own_len (q := 2) rfl
 have hmt : mt = s.threads.length := by have := hS.own_len (q := 3) (s := (some ⟨gt, ot, none⟩, mt, ct)) rfl; simpa using this
 have hz1 := hf.sizes; unfold sizesOk at hz1
 refine ws fun K1 hK1 => gB 5 0 hF hS rfl rfl rfl fun a hF => ?_
 refine wl hF rfl rfl rfl (r_index sl73 (hF.ev rfl) (hF.ev rfl) (by omega) (by first | omega | (dsimp only; omega))) fun a hF => ?_
 refine ge hK1 hF rfl fun a hF => wp_seq_k fun K2 hK2 => wp_region_calm (by kernel_rfl) (by kernel_rfl) <| qa 4 hF tk rfl fun a hF => wq hF rfl rfl rfl (fun w_ hB_ => r_loadn ag25 (hF.ev rfl) ((hS.ext hB_).boxn (vs := [_, _, _, _, _, _]) (i := 0) (m := 6) rfl rfl) sz25) fun a hF => qa 3 hF tk rfl fun a hF => wq hF rfl rfl rfl (fun w_ hB_ => r_load1 sc3 (hF.ev rfl) ((hS.ext hB_).elt1 (q := 3) (j := 13) hp rfl (fun _ => rfl))) fun a hF => ?_
 refine wq hF rfl rfl rfl (fun w_ hB_ => r_quo (by first | decide | omega) (hF.ev rfl) ec) fun a hF => qa 3 hF tk rfl fun a hF => wq hF rfl rfl rfl (fun w_ hB_ => r_load1 sc3 (hF.ev rfl) ((hS.ext hB_).elt1 (q := 3) (j := 13) hp rfl (fun _ => rfl))) fun a hF => wq hF rfl rfl rfl (fun w_ hB_ => r_rem (by first | decide | omega) (hF.ev rfl) ec) fun a hF => qk hF rfl (fun w_ hB_ => specHazardCell_c _ _ _) fun a hF => qk hF rfl (fun w_ hB_ => l9LoadR_c (fun j u hu => (hS.ext hB_).box7 (i := 0) rfl j u hu) ((hS.ext hB_).own_rd (i := 1) rfl)) fun a hF => qa 1 hF tk rfl fun a hF => ?_
 refine wpQuiet_nil ?_; intro w1 hB_; have hS := hS.ext hB_
 refine hK2 _ _ <| wp_cut (fun a w => Sep W (Box g (s.encw tl (sv z0) (sv z1) (.slice (some ⟨gt, ot, none⟩) mt ct)) :: Own intEK (sv z0) s.cells :: Own intEK (sv z1) s.generations :: Own threadEK (.slice (some ⟨gt, ot, none⟩) mt ct) (s.threads.set p ({ t with found := (foundN t (scanN s t)) })) :: l) w ∧ Fr 134 [(0, .pointer (some ⟨g, 0, none⟩)), (1, vi (p : Int)), (4, .pointer (some ⟨gt, ot + p * 19, none⟩))] a) ?_ ?_
 ·
  refine rg hF rfl fun a hF => cx 34 hF rfl (fun c34 hF => ?_) fun c34 hF => ?_
  ·
   obtain ⟨A0_, A1_, A2_, A3_, A4_, k0_, k1_, k2_, k3_, k4_, ⟨n0_, n1_, n2_, n3_, n4_⟩, ⟨q0_, q1_, q2_, q3_, q4_⟩, hS_⟩ := Sep.thr_lend (t := t) (hS.pm 4 [3, 0, 1, 2] rfl) hp; replace hS := hS_; clear hS_; unfold maxLen at n0_ n1_ n2_ n3_ n4_; try dsimp only at n0_ n1_ n2_ n3_ n4_ q0_ q1_ q2_ q3_ q4_
   dsimp only [Thread.encv] at hS
   refine wp_region_lit <| ga 4 hF rfl fun a hF => wl hF rfl rfl rfl (r_load1 sc29 (hF.ev rfl) (hS.but1 (q := 5) (j := 14) rfl rfl)) fun a hF => ga 1 hF rfl fun a hF => wl_bslice intEK [vi (scanN s t)] [scanN s t] rfl hF hS rfl mk29 rfl ⟨rfl, (hF.ev rfl), trivial⟩ rfl rfl rfl rfl fun gl_41 w2 a hS hF => ?_
   refine wl_append (q := 1) hF hS rfl rfl (hS.own_rd (i := 0) rfl) mk29 rfl (hF.ev rfl) (hF.ev rfl) (by simp; omega) (by unfold maxLen; simp; omega) ?_; intro A_42 c_42 w3 a hS_ hF; replace hS := hS_; clear hS_; dsimp only [List.set, List.length_cons, List.length_nil] at hS hF
   refine ga 2 hF rfl fun a hF => ?_
   refine wl_bstore (q := 6) (j := 14) hF hS rfl sz29 (hF.ev rfl) rfl (hF.ev rfl) rfl rfl fun w4 hS => ?_; dsimp only [List.set] at hS
   refine wl_nil ?_
   refine xt ?_
   have e0 : (foundN t (scanN s t)) = t.found ++ [scanN s t] := if_neg c34
   replace hS := Sep.thr_back (t' := { t with found := t.found ++ [scanN s t] }) (y0 := (_, _, _)) (y1 := (_, _, _)) (y2 := (_, _, _)) (y3 := (_, _, _)) (y4 := (_, _, _)) (hS.pm 10 [1, 2, 3, 4, 5, 6, 0, 7, 8, 9] rfl) rfl
   rw [e0]
   exact ⟨(hS.pm 5 [2, 3, 4, 0] rfl), (((hF.nil.keepE hF (t := 4) rfl rfl).keepE hF (t := 1) rfl rfl).keepE hF (t := 0) rfl rfl)⟩
  refine wp_skip ?_
  refine xt ?_
  have e0 : (foundN t (scanN s t)) = t.found := if_pos c34
  rw [e0]
  exact ⟨hS, (((hF.nil.keepE hF (t := 4) rfl rfl).keepE hF (t := 1) rfl rfl).keepE hF (t := 0) rfl rfl)⟩
 rintro a w5 ⟨hS, hF⟩
 refine ws fun K4 hK4 => ga 4 hF rfl fun a hF => wl hF rfl rfl rfl (r_load1 sc3 (hF.ev rfl) (hS.elt1 (q := 3) (j := 13) hp rfl (fun _ => rfl))) fun a hF => ga 3 hF rfl fun a hF => ?_
 refine es 3 13 hF hS hp rfl rfl rfl rfl rfl rfl fun w6 hS => ?_
 refine wl_nil <| hK4 _ _ <| wp_seq_k fun K5 hK5 => wp_seq_k fun K6 hK6 => wp_region_calm (by kernel_rfl) (by kernel_rfl) <| qa 3 hF tk rfl fun a hF => wq hF rfl rfl rfl (fun w_ hB_ => r_load1 sc3 (hF.ev rfl) ((hS.ext hB_).elt1 (q := 3) (j := 13) hp rfl (fun _ => rfl))) fun a hF => qb 7 0 hF tk hS rfl rfl rfl fun a hF => ?_
 refine wpQuiet_nil ?_; intro w7 hB_; have hS := hS.ext hB_
 refine hK6 _ _ <| cx 63 hF rfl (fun c63 hF => ?_) fun c63 hF => ?_
 ·
  refine xr ?_
  refine ret0 rfl hF ⟨rfl, ?_⟩
  unfold reclaimS
  rw [if_pos c63]
  exact hS
 obtain ⟨A0_, A1_, A2_, A3_, A4_, k0_, k1_, k2_, k3_, k4_, ⟨n0_, n1_, n2_, n3_, n4_⟩, ⟨q0_, q1_, q2_, q3_, q4_⟩, hS_⟩ := Sep.thr_lend (t := { t with found := (foundN t (scanN s t)), at_ := IntKind.i64.wrap (t.at_ + 1) }) (hS.pm 4 [3, 0, 1, 2] rfl) hp; replace hS := hS_; clear hS_; unfold maxLen at n0_ n1_ n2_ n3_ n4_; try dsimp only at n0_ n1_ n2_ n3_ n4_ q0_ q1_ q2_ q3_ q4_
 dsimp only [Thread.encv] at hS
 have hgl0 := hf.lg
 refine wp_skip <| hK5 _ _ <| wp_seq_k fun K7 hK7 => ?_
 refine wp_region_todo (is := [0, 1, 2, 3, 4, 5, 6, 7, 8, 9, 10, 11, 12, 13]) [] [] (by kernel_rfl) hF hS ⟨trivial, by decide, by decide, by decide⟩ (by kernel_rfl) ?_; intro hl_ wd hSd
 refine tp 3 hl_ rfl <| todo_load [8, 9, 10, 11, 12, 13] hl_ (by kernel_rfl) rfl (gw0 rfl) rfl rfl rfl (fun a w_ hF hB_ => r_load1 sc29 (hF.ev rfl) ((hSd.ext hB_).but1 (q := 5) (j := 18) rfl rfl)) <| tp 3 hl_ rfl <| todo_load [8, 9, 10, 11, 12, 13] hl_ (by kernel_rfl) rfl (gw0 rfl) rfl rfl rfl (fun a w_ hF hB_ => r_load1 sc29 (hF.ev rfl) ((hSd.ext hB_).but1 (q := 5) (j := 14) rfl rfl)) ?_
 refine todo_mk hl_ rfl (by kernel_rfl) rfl rfl rfl rfl rfl (fun a w_ hF => r_call2 en125 (hF.ev rfl) (hF.ev rfl)) (fun w_ hS => specSplit_c (hS.own_rd (i := 4) rfl) (hS.own_rd (i := 0) rfl) (by omega)) ?_; rintro ⟨p73, q73⟩
 refine tp 5 hl_ rfl ?_
 refine todo_fin hl_ rfl (by kernel_rfl) (tl := []) rfl ?_; intro a w8 hF hA_
 have hS := hA_.sep; clear hA_
 clear hl_; try clear hSd
 try dsimp only [List.cons_append, List.nil_append, List.set] at hS
 try clear wd
 refine wl_nil ⟨rfl, ?_⟩
 refine hK7 _ _ <| ws fun K8 hK8 => wl hF rfl rfl rfl (r_move (hF.ev rfl)) fun a hF => ?_
 obtain ⟨⟨Ap, np, cp⟩, rfl⟩ := hS.own_sv (q := 0) rfl; obtain rfl : np = _ := hS.own_len (q := 0) (s := (Ap, np, cp)) rfl
 obtain ⟨⟨Aq, nq, cq⟩, rfl⟩ := hS.own_sv (q := 1) rfl; obtain rfl : nq = _ := hS.own_len (q := 1) (s := (Aq, nq, cq)) rfl
 have hq1 := out_le' t.limbo (foundN t (scanN s t))
 replace hS : Sep W (Own intEK (.slice Ap _ cp) _ :: Own intEK (.slice Aq _ cq) _ :: _) _ := hS
 try dsimp only at hF
 refine ga 3 hF rfl fun a hF => ?_
 refine wl_bstore (q := 7) (j := 18) hF hS rfl sz29 (hF.ev rfl) rfl (hF.ev rfl) rfl rfl fun w9 hS => ?_; dsimp only [List.set] at hS
 refine wl_nil <| hK8 _ _ <| wp_seq_k fun K9 hK9 => rg hF rfl fun a hF => wp_block ?_
 replace hS := hS.pull (p := 7) rfl; dsimp only [List.eraseIdx] at hS
 replace hS := hS.pull (p := 10) rfl; dsimp only [List.eraseIdx] at hS
 replace hS := hS.pull (p := 5) rfl; dsimp only [List.eraseIdx] at hS
 have hL_ := ((((hF.nil.keep hF (t := 7) rfl).keep hF (t := 4) rfl).keep hF (t := 1) rfl).keep hF (t := 0) rfl)
 refine wp_loop_m (σ := Nat × Slv) (fun z L_ => (8, vi z.1) :: L_) (fun z l_ => (Own intEK (sv z.2) (freeAll s.generations t.free ((splitOut t.limbo (foundN t (scanN s t))).take z.1)).2) :: (Own intEK (sv z1) (freeAll s.generations t.free ((splitOut t.limbo (foundN t (scanN s t))).take z.1)).1) :: (OwnBut threadEK (.slice (some ⟨gt, ot, none⟩) mt ct) (s.threads.set p ({ t with found := (foundN t (scanN s t)), at_ := IntKind.i64.wrap (t.at_ + 1) })) p (Thread.encv ({ t with found := (foundN t (scanN s t)), at_ := IntKind.i64.wrap (t.at_ + 1) }) (.slice A0_ (foundN t (scanN s t)).length k0_) (sv z.2) (.slice A2_ t.buffer.length k2_) (.slice A3_ t.work.length k3_) (.slice Ap (splitIn t.limbo (foundN t (scanN s t))).length cp))) :: l_) (fun z => (z.1 ≤ (splitOut t.limbo (foundN t (scanN s t))).length)) (fun z => (splitOut t.limbo (foundN t (scanN s t))).length - z.1) (0, (A1_, t.free.length, k1_)) (hS) (hL_.keepE hF (t := 8) rfl rfl) ?_ ?_
 · exact Nat.zero_le _
 rintro ⟨k, Af, nf, cf⟩ a w10 hk hS hF; try dsimp only at hF; try dsimp only at hS; try dsimp only at hk
 obtain rfl : nf = _ := hS.own_len (q := 0) (s := (Af, nf, cf)) rfl
 replace hS : Sep W (Own intEK (.slice Af _ cf) _ :: _) _ := hS
 refine wp_seq_k fun K11 hK11 => rg hF rfl fun a hF => cx 83 hF rfl (fun c83 hF => ?_) fun c83 hF => ?_
 ·
  have hlt : k < (splitOut t.limbo (foundN t (scanN s t))).length := by omega
  have hx := at0_nat hlt
  have hm_ : at0 (splitOut t.limbo (foundN t (scanN s t))) (k : Int) ∈ splitOut t.limbo (foundN t (scanN s t)) := at0_mem (by omega) (by omega)
  obtain ⟨hh1, hi0, hi1⟩ := hf.nodes hm_
  have hgl := freeAll_len (gs := s.generations) (fr := t.free) (hs := (splitOut t.limbo (foundN t (scanN s t))).take k)
  refine wp_skip <| hK11 _ _ <| wp_seq_k fun K13 hK13 => wp_block <| ws fun K14 hK14 => ga 2 hF rfl fun a hF => ?_
  obtain ⟨g88, o88, m88, q88, hv88, hm88, hl88, hc88⟩ := Rd.atF ((hS.own_rd (i := 4) rfl)) (a := a) (X := .tmp 87) (hF.ev rfl) (by omega) (by omega)
  refine wl hF rfl rfl rfl (r_index sl29 ((hF.ev rfl).trans hv88) (hF.ev rfl) (by omega) (by first | omega | (simp at hm88; omega))) fun a hF => ?_
  refine wl hF rfl rfl rfl (r_load1 sc3 (hF.ev rfl) (hc88 0 _ rfl)) fun a hF => ckr hF hS rfl (specIndexOf_c hh1) fun w11 a hS hF => ge hK14 hF rfl fun a hF => ws fun K15 hK15 => gB 5 9 hF hS rfl rfl rfl fun a hF => ?_
  obtain ⟨g96, o96, m96, q96, hv96, hm96, hl96, hc96⟩ := Rd.atF ((hS.own_rd (i := 1) rfl)) (a := a) (X := .tmp 95) (hF.ev rfl) (by omega) (by omega)
  refine wl hF rfl rfl rfl (r_index sl29 ((hF.ev rfl).trans hv96) (hF.ev rfl) (by omega) (by first | omega | (simp at hm96; omega))) fun a hF => ?_
  refine wl hF rfl rfl rfl (r_load1 sc3 (hF.ev rfl) (hc96 0 _ rfl)) fun a hF => ga 2 hF rfl fun a hF => ?_
  apply wa 7 99 106 hF hS
  ·
   intro hg99 a hF
   refine ga 3 hF rfl fun a hF => wl_take hF rfl rfl rfl rfl <| wl hF rfl rfl rfl (r_load1 sc29 (hF.ev rfl) (hS.but1 (q := 2) (j := 15) rfl rfl)) fun a hF => ?_
   exact je 7 hF hS rfl rfl rfl rfl
  intro a w12 hF hS
  refine wl_nil <| hK15 _ _ <| cx 106 hF rfl (fun c106 hF => ?_) fun c106 hF => ?_
  ·
   refine wp_seq_k fun K16 hK16 => ?_
   refine wp_region_todo (is := [0, 1, 2, 3, 4, 5, 6, 7, 8, 9, 10, 11, 12, 13, 14]) [] [14] (by kernel_rfl) hF hS ⟨trivial, by decide, by decide, by decide⟩ (by kernel_rfl) ?_; intro hl_ wd hSd
   refine tp 3 hl_ rfl <| todo_load [13, 14] hl_ (by kernel_rfl) rfl (gw0 rfl) rfl rfl rfl (fun a w_ hF hB_ => r_load1 sc29 (hF.ev rfl) ((hSd.ext hB_).box (i := 9) rfl rfl)) <| tp 4 hl_ rfl <| todo_load [10, 11, 12, 13, 14] hl_ (by kernel_rfl) rfl (gw0 rfl) rfl rfl rfl (fun a w_ hF hB_ => r_load1 sc29 (hF.ev rfl) ((hSd.ext hB_).box (i := 9) rfl rfl)) <| tp 1 hl_ rfl ?_
   obtain ⟨g117, o117, m117, q117, hv117, hm117, hl117, hc117⟩ := Rd.idxF ((hSd.own_rd (i := 1) rfl)) (at0_get (i := (indexOf (at0 (splitOut t.limbo (foundN t (scanN s t))) (k : Int)))) (by omega) (by omega))
   refine todo_pure hl_ (by kernel_rfl) rfl (gw0 rfl) rfl rfl rfl (fun a w_ hF => r_index sl29 ((hF.ev rfl).trans hv117) (hF.ev rfl) (by omega) (by first | omega | (simp at hm117; omega))) ?_
   refine todo_load [12, 13, 14] hl_ (by kernel_rfl) rfl (gw0 rfl) rfl rfl rfl (fun a w_ hF hB_ => r_load1 sc3 (hF.ev rfl) (cellB hB_ (hc117 0 _ rfl))) <| tp 1 hl_ rfl ?_
   obtain ⟨g120, o120, m120, q120, hv120, hm120, hl120, hc120⟩ := Rd.idxF ((hSd.own_rd (i := 1) rfl)) (at0_get (i := (indexOf (at0 (splitOut t.limbo (foundN t (scanN s t))) (k : Int)))) (by omega) (by omega))
   refine todo_pure hl_ (by kernel_rfl) rfl (gw0 rfl) rfl rfl rfl (fun a w_ hF => r_index sl29 ((hF.ev rfl).trans hv120) (hF.ev rfl) (by omega) (by first | omega | (simp at hm120; omega))) ?_
   refine todo_fin hl_ rfl (by kernel_rfl) (tl := [_]) rfl ?_; intro a w13 hF hA_
   have hS := hA_.sep; clear hA_
   clear hl_; try clear hSd
   try dsimp only [List.cons_append, List.nil_append, List.set] at hS
   try clear wd
   refine wl_istore (q := 1) hF hS rfl hv120 (by omega) (by omega) sz3 (hF.ev rfl) rfl (hF.ev rfl) fun w14 hS => ?_; dsimp only [List.set] at hS
   refine wl_nil ⟨rfl, ?_⟩
   refine hK16 _ _ <| wp_region_lit <| ga 4 hF rfl fun a hF => wl hF rfl rfl rfl (r_load1 sc29 (hF.ev rfl) (hS.but1 (q := 2) (j := 15) rfl rfl)) fun a hF => ga 1 hF rfl fun a hF => wl_bslice intEK [vi (indexOf (at0 (splitOut t.limbo (foundN t (scanN s t))) (k : Int)))] [indexOf (at0 (splitOut t.limbo (foundN t (scanN s t))) (k : Int))] rfl hF hS rfl mk29 rfl ⟨rfl, (hF.ev rfl), trivial⟩ rfl rfl rfl rfl fun gl_127 w15 a hS hF => ?_
   refine wl_append (q := 1) hF hS rfl rfl (hS.own_rd (i := 0) rfl) mk29 rfl (hF.ev rfl) (hF.ev rfl) (by simp; omega) (by unfold maxLen; simp; omega) ?_; intro A_128 c_128 w16 a hS_ hF; replace hS := hS_; clear hS_; dsimp only [List.set, List.length_cons, List.length_nil] at hS hF
   refine ga 2 hF rfl fun a hF => ?_
   refine wl_bstore (q := 3) (j := 15) hF hS rfl sz29 (hF.ev rfl) rfl (hF.ev rfl) rfl rfl fun w17 hS => ?_; dsimp only [List.set] at hS
   refine wl_nil ?_
   refine xt ?_
   refine hK13 _ _ <| rl hF rfl fun a hF => ?_
   refine xt ?_
   have e_ := freeAll_yes (gs := s.generations) (fr := t.free) hx c106; have e1 := congrArg Prod.fst e_; have e2 := congrArg Prod.snd e_; dsimp only at e1 e2; rw [← e1, ← e2] at hS
   refine ⟨(k + 1, (_, _, _)), (by dsimp only; omega), (hS.pm 12 [1, 2, 3, 4, 5, 6, 7, 8, 9, 10, 11] rfl), (((((hF.nil.keep hF (t := 7) rfl).keep hF (t := 4) rfl).keep hF (t := 1) rfl).keep hF (t := 0) rfl).keepE hF (t := 8) rfl (wk (by omega))), by dsimp only; omega⟩
  refine wp_skip ?_
  refine xt ?_
  refine hK13 _ _ <| rl hF rfl fun a hF => ?_
  refine xt ?_
  have e_ := freeAll_no (gs := s.generations) (fr := t.free) hx (by omega); rw [← e_] at hS
  refine ⟨(k + 1, (_, _, _)), (by dsimp only; omega), hS, (((((hF.nil.keep hF (t := 7) rfl).keep hF (t := 4) rfl).keep hF (t := 1) rfl).keep hF (t := 0) rfl).keepE hF (t := 8) rfl (wk (by omega))), by dsimp only; omega⟩
 obtain rfl : k = (splitOut t.limbo (foundN t (scanN s t))).length := by omega
 rw [List.take_length] at hS
 replace hS := Sep.thr_back (t' := { t with found := (foundN t (scanN s t)), at_ := IntKind.i64.wrap (t.at_ + 1), limbo := splitIn t.limbo (foundN t (scanN s t)), free := (freeAll s.generations t.free (splitOut t.limbo (foundN t (scanN s t)))).2 }) (y0 := (_, _, _)) (y1 := (_, _, _)) (y2 := (_, _, _)) (y3 := (_, _, _)) (y4 := (_, _, _)) (hS.pm 11 [5, 0, 6, 7, 3, 2, 1, 4, 8, 9, 10] rfl) rfl
 refine wp_exit ?_
 refine xt ?_
 refine hK9 _ _ <| wp_region_lit <| ga 2 hF rfl fun a hF => ?_
 replace hS := hS.pm 6 [4, 0, 1, 2, 3, 5] rfl
 refine ck hF rfl (l10Finish_c (s := s) hp hS) ?_; rintro v w18 a ⟨rfl, hS⟩ hF
 refine wl_nil ?_
 refine xt ?_
 refine ret0n rfl hF ⟨rfl, ?_⟩
 unfold reclaimS
 rw [if_neg c63]
 exact (hS.pm 6 [0, 5, 2, 1] rfl)
set_option maxRecDepth 20000
set_option maxRecDepth 20000
variable {tl : List Value}
def keyF (t : Sl.Thread) : Int := if t.op.kind = 5 then -1 else t.op.key
def scanA (s : Sl.State) (t : Sl.Thread) : Int := loadC s.cells (announceCell s.config t.at_)
def scanF (s : Sl.State) (t : Sl.Thread) : List Int := foundN t (scanA s t)
def afterT (c : Config) (t : Sl.Thread) : Sl.Thread := if limboLimit c ≤ (t.limbo.length : Int) ∨ t.op.kind = 5 ∧ (0 : Int) < t.limbo.length then { clearT t with pc := 70 } else endT t 0 0
def mergeT (s : Sl.State) (t : Sl.Thread) : Sl.Thread := { t with found := scanF s t, at_ := IntKind.i64.wrap (t.at_ + 1), buffer := splitK s.config.policy (keyF t) t.buffer (scanF s t), work := t.work ++ splitD s.config.policy (keyF t) t.buffer (scanF s t), pc := 60 }
def scanT (s : Sl.State) (t : Sl.Thread) : Sl.Thread :=
  if IntKind.i64.wrap (t.at_ + 1) < s.config.threads then { t with found := scanF s t, at_ := IntKind.i64.wrap (t.at_ + 1) }
  else if ((t.work.length + (splitD s.config.policy (keyF t) t.buffer (scanF s t)).length : Nat) : Int) = 0 then afterT s.config (mergeT s t) else mergeT s t
def flushS (s : Sl.State) (t : Sl.Thread) (p : Int) : Sl.State × Sl.Thread :=
  if t.pc = 50 then (s, scanT s t)
  else if t.pc = 60 then (faultS s (at0 t.work 0).handle, { t with seen := loadC s.cells (cellOf s (at0 t.work 0).handle 2), pc := 61 })
  else if t.pc = 61 then
    if hitB s.cells (cellOf s (at0 t.work 0).handle 2) t.seen = true then (swapS (faultS s (at0 t.work 0).handle) (cellOf s (at0 t.work 0).handle 2) t.seen (marked t.seen), { t with pc := 10 })
    else ({ swapS (faultS s (at0 t.work 0).handle) (cellOf s (at0 t.work 0).handle 2) t.seen (marked t.seen) with retries := IntKind.i64.wrap (s.retries + 1) }, { t with pc := 60 })
  else if t.pc = 62 then (putS s (hazardCell s.config p 0) 0, { t with pc := 63 })
  else if t.pc = 63 then (putS s (hazardCell s.config p 1) 0, afterT s.config t)
  else (s, t)
def isF (n : Int) : Bool := decide (n = 50) || decide (60 ≤ n ∧ n ≤ 63)
theorem afterT_size {c : Config} {t : Sl.Thread} : (afterT c t).size ≤ t.size := by
 unfold afterT
 split
 · unfold clearT Sl.Thread.size; simp only [List.length_nil]; omega
 · exact endT_size
theorem mergeT_size {s : Sl.State} {t : Sl.Thread} : (mergeT s t).size ≤ t.size + 1 := by
 have h1 := foundN_len (t := t) (n := scanA s t)
 have h2 := splitE_len s.config.policy (keyF t) t.buffer (scanF s t)
 unfold mergeT Sl.Thread.size scanF at *; dsimp only; simp only [List.length_append]; omega
theorem scanT_size {s : Sl.State} {t : Sl.Thread} : (scanT s t).size ≤ t.size + 1 := by
 have h1 := foundN_len (t := t) (n := scanA s t)
 have h2 := mergeT_size (s := s) (t := t)
 unfold scanT
 split
 · unfold Sl.Thread.size scanF; dsimp only; omega
 split
 · exact Nat.le_trans afterT_size h2
 · exact h2
theorem flushS_size (s : Sl.State) (t : Sl.Thread) (p : Int) : ((flushS s t p).1.cells.length = s.cells.length ∧ (flushS s t p).1.generations.length = s.generations.length) ∧ (flushS s t p).2.size ≤ t.size + 1 := by
 unfold flushS
 repeat' split
 all_goals (refine ⟨⟨?_, rfl⟩, ?_⟩)
 all_goals first | rfl | exact Nat.le_succ _ | exact scanT_size | exact Nat.le_trans afterT_size (Nat.le_succ _) | exact putC_len | (unfold swapS faultS; dsimp only; split <;> first | rfl | exact putC_len)
theorem Fit.work {s : Sl.State} {t : Sl.Thread} (hf : Fit s t) (h : t.pc = 60 ∨ t.pc = 61) : 0 < t.work.length := by
 have h2 := hf.th
 unfold threadOk at h2; simp only [Bool.and_eq_true, decide_eq_true_eq] at h2
 have h3 := h2.1.1.1.2
 unfold pcOk at h3
 have := h3.2.1
 omega
theorem Fit.hand {s : Sl.State} {t : Sl.Thread} (hf : Fit s t) (h : 0 < t.work.length) : int64 (at0 t.work 0).handle := (hf.wt.2.2.2.2.2.2.2.2.2.2.2.2.2.2.1 _ (at0_mem (by omega) (by omega))).1
theorem l15After_c {W w : World} {l : List Res} {g gt ot mt ct p : Nat} {v0 v1 : Value} {s : Sl.State} {ts : List Sl.Thread} {t : Sl.Thread} (hp : p < ts.length) (hS : Sep W (Box g (s.encw tl v0 v1 (.slice (some ⟨gt, ot, none⟩) mt ct)) :: Own threadEK (.slice (some ⟨gt, ot, none⟩) mt ct) (ts.set p (t)) :: l) w) : Calls Tryz.prog 124 #[.pointer (some ⟨g, 0, none⟩), vi (p : Int)] w (Ret fun v w' => v = .tuple #[] ∧ Sep W (Box g (s.encw tl v0 v1 (.slice (some ⟨gt, ot, none⟩) mt ct)) :: Own threadEK (.slice (some ⟨gt, ot, none⟩) mt ct) (ts.set p (afterT s.config t)) :: l) w') := by
 refine cfr Tryz.func124 Tryz.ntmps124 fun a hF => ?_
 have hmt := hS.own_len (s := (some ⟨gt, ot, none⟩, mt, ct)) (q := 1) rfl
 simp only [List.length_set] at hmt
 refine ws fun K1 hK1 => gB 5 0 hF hS rfl rfl rfl fun a hF => ?_
 refine wl hF rfl rfl rfl (r_index sl73 (hF.ev rfl) (hF.ev rfl) (by omega) (by first | omega | (dsimp only; omega))) fun a hF => ?_
 refine ge hK1 hF rfl fun a hF => ws fun K2 hK2 => ga 3 hF rfl fun a hF => ?_
 obtain ⟨ce15, ke15, ze15, he15⟩ := hS.eltK (q := 1) hp rfl; have kk15 := ke15; obtain ⟨u15_0, u15_1, u15_2, u15_3, u15_4, rfl, f15_0, f15_1, f15_2, f15_3, f15_4⟩ := ke15
 obtain ⟨Ae15, qe15, rfl, _, hme15⟩ := f15_4.sl; unfold maxLen at hme15
 refine wl hF rfl rfl rfl (r_load1 sc29 (hF.ev rfl) (he15 18 _ rfl)) fun a hF => ge hK2 hF rfl fun a hF => wp_seq_k fun K3 hK3 => ws fun K4 hK4 => ga 4 hF rfl fun a hF => wl hF rfl rfl rfl (r_loadn ag25 (hF.ev rfl) (hS.boxn (vs := [_, _, _, _, _, _]) (i := 0) (m := 6) rfl rfl) sz25) fun a hF => ckr hF hS rfl (specLimboLimit_c _) fun w1 a hS hF => ?_
 refine ga 2 hF rfl fun a hF => ?_
 apply wo 11 24 35 hF hS
 ·
  intro hg24 a hF
  refine ga 4 hF rfl fun a hF => wl_take hF rfl rfl rfl rfl <| wl hF rfl rfl rfl (r_load1 sc3 (hF.ev rfl) (hS.elt1 (q := 1) (j := 1) hp rfl (fun _ => rfl))) fun a hF => ga 2 hF rfl fun a hF => ?_
  apply wa 3 31 34 hF hS
  ·
   intro hg31 a hF
   exact je 3 hF hS rfl rfl rfl rfl
  intro a w2 hF hS
  exact je 9 hF hS rfl rfl rfl rfl
 intro a w3 hF hS
 refine wl_nil <| hK4 _ _ <| cx 35 hF rfl (fun c35 hF => ?_) fun c35 hF => ?_
 ·
  refine ws fun K5 hK5 => ga 1 hF rfl fun a hF => ?_
  replace hS := hS.pm 2 [1, 0] rfl
  refine ck hF rfl (l10Clear_c hp hS) ?_; rintro v w4 a ⟨rfl, hS⟩ hF
  refine wl_nil <| hK5 _ _ <| ws fun K6 hK6 => ga 3 hF rfl fun a hF => ?_
  refine es 0 0 hF hS hp rfl rfl rfl rfl rfl rfl fun w5 hS => ?_
  refine wl_nil (hK6 _ _ ?_)
  refine xr ?_
  refine ret0 rfl hF ⟨rfl, ?_⟩
  unfold afterT
  rw [if_pos c35]
  exact (hS.pm 2 [1, 0] rfl)
 refine wp_skip <| hK3 _ _ <| wp_region_lit <| ga 2 hF rfl fun a hF => ?_
 refine ck hF rfl (l10Finish_c (s := s) hp hS) ?_; rintro v w6 a ⟨rfl, hS⟩ hF
 refine wl_nil ?_
 refine xt ?_
 refine ret0n rfl hF ⟨rfl, ?_⟩
 unfold afterT
 rw [if_neg (by omega)]
 exact hS
set_option maxRecDepth 20000
variable {tl : List Value}
theorem l15Scan_c {W w : World} {l : List Res} {g gt ot mt ct p : Nat} {z0 z1 : Slv} {s : Sl.State} {t : Sl.Thread} (hp : p < s.threads.length) (hf : Fit s t) (hS : Sep W (Box g ((s).encw tl (sv z0) (sv z1) (.slice (some ⟨gt, ot, none⟩) mt ct)) :: Own intEK (sv z0) (s).cells :: Own intEK (sv z1) (s).generations :: Own threadEK (.slice (some ⟨gt, ot, none⟩) mt ct) (s.threads.set p t) :: l) w) : Calls Tryz.prog 122 #[.pointer (some ⟨g, 0, none⟩), vi (p : Int)] w (Ret fun v w' => v = .tuple #[] ∧ Sep W (Box g ((s).encw tl (sv z0) (sv z1) (.slice (some ⟨gt, ot, none⟩) mt ct)) :: Own intEK (sv z0) (s).cells :: Own intEK (sv z1) (s).generations :: Own threadEK (.slice (some ⟨gt, ot, none⟩) mt ct) (s.threads.set p (scanT s t)) :: l) w') := by
 refine cfr Tryz.func122 Tryz.ntmps122 fun a hF => ?_
 have hl0 := hS.own_len (q := 1) rfl
 have hl1 := hS.own_len (q := 2) rfl
 have hmt : mt = s.threads.length := by have := hS.own_len (q := 3) (s := (some ⟨gt, ot, none⟩, mt, ct)) rfl; simpa using this
 have hz1 := hf.sizes; unfold sizesOk at hz1
 refine ws fun K1 hK1 => gB 5 0 hF hS rfl rfl rfl fun a hF => ?_
 refine wl hF rfl rfl rfl (r_index sl73 (hF.ev rfl) (hF.ev rfl) (by omega) (by first | omega | (dsimp only; omega))) fun a hF => ?_
 refine ge hK1 hF rfl fun a hF => wp_seq_k fun K2 hK2 => wp_region_calm (by kernel_rfl) (by kernel_rfl) <| qa 4 hF tk rfl fun a hF => wq hF rfl rfl rfl (fun w_ hB_ => r_loadn ag25 (hF.ev rfl) ((hS.ext hB_).boxn (vs := [_, _, _, _, _, _]) (i := 0) (m := 6) rfl rfl) sz25) fun a hF => qa 3 hF tk rfl fun a hF => wq hF rfl rfl rfl (fun w_ hB_ => r_load1 sc3 (hF.ev rfl) ((hS.ext hB_).elt1 (q := 3) (j := 13) hp rfl (fun _ => rfl))) fun a hF => ?_
 refine qk hF rfl (fun w_ hB_ => specAnnounceCell_c _ _) fun a hF => qk hF rfl (fun w_ hB_ => l9LoadR_c (fun j u hu => (hS.ext hB_).box7 (i := 0) rfl j u hu) ((hS.ext hB_).own_rd (i := 1) rfl)) fun a hF => qa 1 hF tk rfl fun a hF => ?_
 refine wpQuiet_nil ?_; intro w1 hB_; have hS := hS.ext hB_
 refine hK2 _ _ <| wp_cut (fun a w => Sep W (Box g (s.encw tl (sv z0) (sv z1) (.slice (some ⟨gt, ot, none⟩) mt ct)) :: Own intEK (sv z0) s.cells :: Own intEK (sv z1) s.generations :: Own threadEK (.slice (some ⟨gt, ot, none⟩) mt ct) (s.threads.set p ({ t with found := (scanF s t) })) :: l) w ∧ Fr 112 [(0, .pointer (some ⟨g, 0, none⟩)), (1, vi (p : Int)), (4, .pointer (some ⟨gt, ot + p * 19, none⟩))] a) ?_ ?_
 ·
  refine rg hF rfl fun a hF => cx 27 hF rfl (fun c27 hF => ?_) fun c27 hF => ?_
  ·
   obtain ⟨A0_, A1_, A2_, A3_, A4_, k0_, k1_, k2_, k3_, k4_, ⟨n0_, n1_, n2_, n3_, n4_⟩, ⟨q0_, q1_, q2_, q3_, q4_⟩, hS_⟩ := Sep.thr_lend (t := t) (hS.pm 4 [3, 0, 1, 2] rfl) hp; replace hS := hS_; clear hS_; unfold maxLen at n0_ n1_ n2_ n3_ n4_; try dsimp only at n0_ n1_ n2_ n3_ n4_ q0_ q1_ q2_ q3_ q4_
   dsimp only [Thread.encv] at hS
   refine wp_region_lit <| ga 4 hF rfl fun a hF => wl hF rfl rfl rfl (r_load1 sc29 (hF.ev rfl) (hS.but1 (q := 5) (j := 14) rfl rfl)) fun a hF => ga 1 hF rfl fun a hF => wl_bslice intEK [vi (scanA s t)] [scanA s t] rfl hF hS rfl mk29 rfl ⟨rfl, (hF.ev rfl), trivial⟩ rfl rfl rfl rfl fun gl_34 w2 a hS hF => ?_
   refine wl_append (q := 1) hF hS rfl rfl (hS.own_rd (i := 0) rfl) mk29 rfl (hF.ev rfl) (hF.ev rfl) (by first | omega | (simp; omega)) (by unfold maxLen; first | omega | (simp; omega)) ?_; intro A_35 c_35 w3 a hS_ hF; replace hS := hS_; clear hS_; dsimp only [List.set, List.length_cons, List.length_nil] at hS hF
   refine ga 2 hF rfl fun a hF => ?_
   refine wl_bstore (q := 6) (j := 14) hF hS rfl sz29 (hF.ev rfl) rfl (hF.ev rfl) rfl rfl fun w4 hS => ?_; dsimp only [List.set] at hS
   refine wl_nil ?_
   refine xt ?_
   have e0 : (scanF s t) = t.found ++ [scanA s t] := if_neg c27
   replace hS := Sep.thr_back (t' := { t with found := t.found ++ [scanA s t] }) (y0 := (_, _, _)) (y1 := (_, _, _)) (y2 := (_, _, _)) (y3 := (_, _, _)) (y4 := (_, _, _)) (hS.pm 10 [1, 2, 3, 4, 5, 6, 0, 7, 8, 9] rfl) rfl
   rw [e0]
   exact ⟨(hS.pm 5 [2, 3, 4, 0] rfl), (((hF.nil.keepE hF (t := 4) rfl rfl).keepE hF (t := 1) rfl rfl).keepE hF (t := 0) rfl rfl)⟩
  refine wp_skip ?_
  refine xt ?_
  have e0 : (scanF s t) = t.found := if_pos c27
  rw [e0]
  exact ⟨hS, (((hF.nil.keepE hF (t := 4) rfl rfl).keepE hF (t := 1) rfl rfl).keepE hF (t := 0) rfl rfl)⟩
 rintro a w5 ⟨hS, hF⟩
 refine ws fun K4 hK4 => ga 4 hF rfl fun a hF => wl hF rfl rfl rfl (r_load1 sc3 (hF.ev rfl) (hS.elt1 (q := 3) (j := 13) hp rfl (fun _ => rfl))) fun a hF => ga 3 hF rfl fun a hF => ?_
 refine es 3 13 hF hS hp rfl rfl rfl rfl rfl rfl fun w6 hS => ?_
 refine wl_nil <| hK4 _ _ <| wp_seq_k fun K5 hK5 => wp_seq_k fun K6 hK6 => wp_region_calm (by kernel_rfl) (by kernel_rfl) <| qa 3 hF tk rfl fun a hF => wq hF rfl rfl rfl (fun w_ hB_ => r_load1 sc3 (hF.ev rfl) ((hS.ext hB_).elt1 (q := 3) (j := 13) hp rfl (fun _ => rfl))) fun a hF => qb 6 0 hF tk hS rfl rfl rfl fun a hF => ?_
 refine wpQuiet_nil ?_; intro w7 hB_; have hS := hS.ext hB_
 refine hK6 _ _ <| cx 55 hF rfl (fun c55 hF => ?_) fun c55 hF => ?_
 ·
  refine xr ?_
  refine ret0 rfl hF ⟨rfl, ?_⟩
  unfold scanT
  rw [if_pos c55]
  exact hS
 refine wp_skip <| hK5 _ _ <| ws fun K7 hK7 => ga 4 hF rfl fun a hF => wl hF rfl rfl rfl (r_load1 sc3 (hF.ev rfl) (hS.elt1 (q := 3) (j := 2) hp rfl (fun _ => rfl))) fun a hF => ge hK7 hF rfl fun a hF => wp_cut (fun a w => Sep W (Box g (s.encw tl (sv z0) (sv z1) (.slice (some ⟨gt, ot, none⟩) mt ct)) :: Own intEK (sv z0) s.cells :: Own intEK (sv z1) s.generations :: Own threadEK (.slice (some ⟨gt, ot, none⟩) mt ct) (s.threads.set p ({ t with found := (scanF s t), at_ := IntKind.i64.wrap (t.at_ + 1) })) :: l) w ∧ Fr 112 [(0, .pointer (some ⟨g, 0, none⟩)), (1, vi (p : Int)), (4, .pointer (some ⟨gt, ot + p * 19, none⟩)), (6, vi (keyF t))] a) ?_ ?_
 ·
  refine ws fun K8 hK8 => ga 4 hF rfl fun a hF => wl hF rfl rfl rfl (r_load1 sc3 (hF.ev rfl) (hS.elt1 (q := 3) (j := 1) hp rfl (fun _ => rfl))) fun a hF => ge hK8 hF rfl fun a hF => cx 66 hF rfl (fun c66 hF => ?_) fun c66 hF => ?_
  ·
   refine rl hF rfl fun a hF => ?_
   refine xt ?_
   exact ⟨hS, ((((hF.nil.keepE hF (t := 6) rfl (congrArg vi (if_pos c66).symm)).keepE hF (t := 4) rfl rfl).keepE hF (t := 1) rfl rfl).keepE hF (t := 0) rfl rfl)⟩
  refine wp_skip ?_
  refine xt ?_
  exact ⟨hS, ((((hF.nil.keepE hF (t := 6) rfl (congrArg vi (if_neg c66).symm)).keepE hF (t := 4) rfl rfl).keepE hF (t := 1) rfl rfl).keepE hF (t := 0) rfl rfl)⟩
 rintro a w8 ⟨hS, hF⟩
 obtain ⟨A0_, A1_, A2_, A3_, A4_, k0_, k1_, k2_, k3_, k4_, ⟨n0_, n1_, n2_, n3_, n4_⟩, ⟨q0_, q1_, q2_, q3_, q4_⟩, hS_⟩ := Sep.thr_lend (t := { t with found := (scanF s t), at_ := IntKind.i64.wrap (t.at_ + 1) }) (hS.pm 4 [3, 0, 1, 2] rfl) hp; replace hS := hS_; clear hS_; unfold maxLen at n0_ n1_ n2_ n3_ n4_; try dsimp only at n0_ n1_ n2_ n3_ n4_ q0_ q1_ q2_ q3_ q4_
 dsimp only [Thread.encv] at hS
 have hsp := splitE_len s.config.policy (keyF t) t.buffer (scanF s t)
 refine wp_seq_k fun K9 hK9 => ?_
 refine wp_region_todo (is := [0, 1, 2, 3, 4, 5, 6, 7, 8, 9, 10, 11, 12, 13, 14, 15, 16, 17, 18, 19]) [] [] (by kernel_rfl) hF hS ⟨trivial, by decide, by decide, by decide⟩ (by kernel_rfl) ?_; intro hl_ wd hSd
 refine tp 4 hl_ rfl <| todo_load [14, 15, 16, 17, 18, 19] hl_ (by kernel_rfl) rfl (gw0 rfl) rfl rfl rfl (fun a w_ hF hB_ => r_load1 sc3 (hF.ev rfl) ((hSd.ext hB_).box (i := 6) rfl rfl)) <| tp 4 hl_ rfl <| todo_load [14, 15, 16, 17, 18, 19] hl_ (by kernel_rfl) rfl (gw0 rfl) rfl rfl rfl (fun a w_ hF hB_ => r_load1 sc108 (hF.ev rfl) ((hSd.ext hB_).but1 (q := 5) (j := 16) rfl rfl)) <| tp 3 hl_ rfl <| todo_load [14, 15, 16, 17, 18, 19] hl_ (by kernel_rfl) rfl (gw0 rfl) rfl rfl rfl (fun a w_ hF hB_ => r_load1 sc29 (hF.ev rfl) ((hSd.ext hB_).but1 (q := 5) (j := 14) rfl rfl)) ?_
 refine todo_mk hl_ rfl (by kernel_rfl) rfl rfl rfl rfl rfl (fun a w_ hF => r_call4 en128 (hF.ev rfl) (hF.ev rfl) (hF.ev rfl) (hF.ev rfl)) (fun w_ hS => specSplitE_c (hS.own_rd (i := 2) rfl) (hS.own_rd (i := 0) rfl) (by omega)) ?_; rintro ⟨⟨Ap82, np82, cp82⟩, Aq82, nq82, cq82⟩
 refine tp 5 hl_ rfl ?_
 refine todo_fin hl_ rfl (by kernel_rfl) (tl := []) rfl ?_; intro a w9 hF hA_
 have hS := hA_.sep; clear hA_
 clear hl_; try clear hSd
 try dsimp only [List.cons_append, List.nil_append, List.set] at hS
 try clear wd
 refine wl_nil ⟨rfl, ?_⟩
 refine hK9 _ _ <| ws fun K10 hK10 => wl hF rfl rfl rfl (r_move (hF.ev rfl)) fun a hF => ?_
 have hnp := hS.own_len (q := 0) (s := (_, _, _)) rfl
 have hnq := hS.own_len (q := 1) (s := (_, _, _)) rfl
 refine ga 3 hF rfl fun a hF => ?_
 refine wl_bstore (q := 7) (j := 16) hF hS rfl sz108 (hF.ev rfl) rfl (hF.ev rfl) rfl rfl fun w10 hS => ?_; dsimp only [List.set] at hS
 refine wl_nil <| hK10 _ _ <| ws fun K11 hK11 => ga 1 hF rfl fun a hF => wl_bslice entryEK [] [] rfl hF hS rfl mk108 rfl trivial rfl rfl rfl rfl fun gl_90 w11 a hS hF => ga 3 hF rfl fun a hF => wl hF rfl rfl rfl (r_load1 sc108 (hF.ev rfl) (hS.but1 (q := 8) (j := 17) rfl rfl)) fun a hF => ?_
 refine wl_append0 hF hS rfl (hS.own_rd (i := 6) rfl) mk108 rfl (by first | omega | (simp; omega)) (by unfold maxLen; first | omega | (simp; omega)) (hF.ev rfl) (hF.ev rfl) fun s95 w12 a hS hF => ?_
 refine ga 1 hF rfl fun a hF => ?_
 refine wl_append (q := 0) hF hS rfl rfl (hS.own_rd (i := 3) rfl) mk108 rfl (hF.ev rfl) (hF.ev rfl) (by first | omega | (simp; omega)) (by unfold maxLen; first | omega | (simp; omega)) ?_; intro A_97 c_97 w13 a hS_ hF; replace hS := hS_; clear hS_; dsimp only [List.set, List.length_cons, List.length_nil] at hS hF
 refine ga 2 hF rfl fun a hF => ?_
 refine wl_bstore (q := 9) (j := 17) hF hS rfl sz108 (hF.ev rfl) rfl (hF.ev rfl) rfl rfl fun w14 hS => ?_; dsimp only [List.set] at hS
 refine wl_nil <| hK11 _ _ <| ws fun K12 hK12 => ga 3 hF rfl fun a hF => ?_
 refine wl_bstore (q := 9) (j := 0) hF hS rfl sz3 (hF.ev rfl) rfl ec rfl rfl fun w15 hS => ?_; dsimp only [List.set] at hS
 refine wl_nil <| hK12 _ _ <| ws fun K13 hK13 => ga 3 hF rfl fun a hF => wl hF rfl rfl rfl (r_load1 sc108 (hF.ev rfl) (hS.but1 (q := 9) (j := 17) rfl rfl)) fun a hF => ge hK13 hF rfl fun a hF => cx 108 hF rfl (fun c108 hF => ?_) fun c108 hF => ?_
 ·
  replace hS := Sep.thr_back (t' := mergeT s t) (y0 := (_, _, _)) (y1 := (_, _, _)) (y2 := (_, _, _)) (y3 := (_, _, _)) (y4 := (_, _, _)) (hS.pm 13 [4, 5, 2, 0, 8, 9, 1, 3, 6, 7, 10, 11, 12] rfl) rfl
  refine wp_region_lit <| ga 2 hF rfl fun a hF => ?_
  replace hS := hS.pm 8 [5, 0, 1, 2, 3, 4, 6, 7] rfl
  refine ck hF rfl (l15After_c (s := s) (t := mergeT s t) hp hS) ?_; rintro v w16 a ⟨rfl, hS⟩ hF
  refine wl_nil ?_
  refine xt ?_
  refine ret0n rfl hF ⟨rfl, ?_⟩
  unfold scanT
  rw [if_neg c55, if_pos c108]
  exact (hS.pm 8 [0, 6, 7, 1] rfl)
 refine wp_skip ?_
 refine xt ?_
 replace hS := Sep.thr_back (t' := mergeT s t) (y0 := (_, _, _)) (y1 := (_, _, _)) (y2 := (_, _, _)) (y3 := (_, _, _)) (y4 := (_, _, _)) (hS.pm 13 [4, 5, 2, 0, 8, 9, 1, 3, 6, 7, 10, 11, 12] rfl) rfl
 refine ret0n rfl hF ⟨rfl, ?_⟩
 unfold scanT
 rw [if_neg c55, if_neg c108]
 exact (hS.pm 8 [5, 6, 7, 0] rfl)
theorem l15Flush_c {W w : World} {l : List Res} {g gt ot mt ct p : Nat} {z0 z1 : Slv} {s : Sl.State} {t : Sl.Thread} (hp : p < s.threads.length) (hf : Fit s t) (hS : Sep W (Box g ((s).encw tl (sv z0) (sv z1) (.slice (some ⟨gt, ot, none⟩) mt ct)) :: Own intEK (sv z0) (s).cells :: Own intEK (sv z1) (s).generations :: Own threadEK (.slice (some ⟨gt, ot, none⟩) mt ct) (s.threads.set p t) :: l) w) : Calls Tryz.prog 99 #[.pointer (some ⟨g, 0, none⟩), vi (p : Int)] w (Ret fun v w' => v = .tuple #[] ∧ Sep W (Box g (((flushS s t (p : Int)).1).encw tl (sv z0) (sv z1) (.slice (some ⟨gt, ot, none⟩) mt ct)) :: Own intEK (sv z0) ((flushS s t (p : Int)).1).cells :: Own intEK (sv z1) ((flushS s t (p : Int)).1).generations :: Own threadEK (.slice (some ⟨gt, ot, none⟩) mt ct) (s.threads.set p (flushS s t (p : Int)).2) :: l) w') := by
 refine cfr Tryz.func99 Tryz.ntmps99 fun a hF => ?_
 have hl0 := hS.own_len (q := 1) rfl
 have hl1 := hS.own_len (q := 2) rfl
 have hmt : mt = s.threads.length := by have := hS.own_len (q := 3) (s := (some ⟨gt, ot, none⟩, mt, ct)) rfl; simpa using this
 refine ws fun K1 hK1 => gB 5 0 hF hS rfl rfl rfl fun a hF => ?_
 refine wl hF rfl rfl rfl (r_index sl73 (hF.ev rfl) (hF.ev rfl) (by omega) (by first | omega | (dsimp only; omega))) fun a hF => ?_
 refine ge hK1 hF rfl fun a hF => ws fun K2 hK2 => ga 3 hF rfl fun a hF => wl hF rfl rfl rfl (r_load1 sc3 (hF.ev rfl) (hS.elt1 (q := 3) (j := 0) hp rfl (fun _ => rfl))) fun a hF => wl_nil <| hK2 _ _ <| wp_block <| rg hF rfl fun a hF => ?_
 refine cx 15 hF rfl (fun c15 hF => ?_) fun c15 hF => ?_
 ·
  refine wp_region_lit <| ga 2 hF rfl fun a hF => ?_
  refine ck hF rfl (l15Scan_c hp hf hS) ?_; rintro v w1 a ⟨rfl, hS⟩ hF
  refine wl_nil ?_
  refine xt ?_
  refine ret0n rfl hF ⟨rfl, ?_⟩
  unfold flushS
  rw [if_pos c15]
  exact hS
 refine rg hF rfl fun a hF => cx 20 hF rfl (fun c20 hF => ?_) fun c20 hF => ?_
 ·
  obtain ⟨A0_, A1_, A2_, A3_, A4_, k0_, k1_, k2_, k3_, k4_, ⟨n0_, n1_, n2_, n3_, n4_⟩, ⟨q0_, q1_, q2_, q3_, q4_⟩, hS_⟩ := Sep.thr_lend (t := t) (hS.pm 4 [3, 0, 1, 2] rfl) hp; replace hS := hS_; clear hS_; unfold maxLen at n0_ n1_ n2_ n3_ n4_; try dsimp only at n0_ n1_ n2_ n3_ n4_ q0_ q1_ q2_ q3_ q4_
  dsimp only [Thread.encv] at hS
  have hwl := hf.work (by omega)
  have hwx : t.work[0]? = some (at0 t.work 0) := at0_nat (k := 0) (by omega)
  have hh := hf.hand hwl
  obtain ⟨gw, ow, mw, cw, hvw, _⟩ := Rd.idxF (hS.own_rd (i := 3) rfl) hwx; simp only [Value.slice.injEq] at hvw; obtain ⟨rfl, _, _⟩ := hvw
  refine ws fun K5 hK5 => ga 6 hF rfl fun a hF => wl hF rfl rfl rfl (r_load1 sc108 (hF.ev rfl) (hS.but1 (q := 5) (j := 17) rfl rfl)) fun a hF => wl hF rfl rfl rfl (r_index sl108 (hF.ev rfl) ec (by omega) (by omega)) fun a hF => ga 1 hF rfl fun a hF => wl hF rfl rfl rfl (r_load1 sc3 (hF.ev rfl) (hS.own_cell (q := 3) (i := 0) (j := 0) rfl hwx rfl)) fun a hF => ?_
  replace hS := hS.pm 9 [6, 8, 0, 1, 2, 3, 4, 5, 7] rfl
  refine ck hF rfl (l9Cell_c (s := s) hh hf.lg hS) ?_; rintro v w2 a ⟨rfl, hS⟩ hF
  refine ckr hF hS rfl (l9LoadR_c (fun j u hu => hS.box7 (i := 0) rfl j u hu) (hS.own_rd (i := 8) rfl)) fun w3 a hS hF => ga 2 hF rfl fun a hF => ?_
  refine wl_bstore (q := 7) (j := 11) hF hS rfl sz3 (hF.ev rfl) rfl (hF.ev rfl) rfl rfl fun w4 hS => ?_; dsimp only [List.set] at hS
  refine wl_nil <| hK5 _ _ <| wp_region_lit <| ga 3 hF rfl fun a hF => ?_
  refine wl_bstore (q := 7) (j := 0) hF hS rfl sz3 (hF.ev rfl) rfl ec rfl rfl fun w5 hS => ?_; dsimp only [List.set] at hS
  refine wl_nil ?_
  refine xt ?_
  replace hS := Sep.thr_back (t' := { t with seen := loadC s.cells (cellOf s (at0 t.work 0).handle 2), pc := 61 }) (y0 := (_, _, _)) (y1 := (_, _, _)) (y2 := (_, _, _)) (y3 := (_, _, _)) (y4 := (_, _, _)) (hS.pm 9 [2, 3, 4, 5, 6, 7, 0, 1, 8] rfl) rfl
  refine ret0n rfl hF ⟨rfl, ?_⟩
  unfold flushS
  rw [if_neg c15, if_pos c20]
  exact (hS.pm 4 [1, 3, 2, 0] rfl)
 refine rg hF rfl fun a hF => cx 39 hF rfl (fun c39 hF => ?_) fun c39 hF => ?_
 ·
  obtain ⟨A0_, A1_, A2_, A3_, A4_, k0_, k1_, k2_, k3_, k4_, ⟨n0_, n1_, n2_, n3_, n4_⟩, ⟨q0_, q1_, q2_, q3_, q4_⟩, hS_⟩ := Sep.thr_lend (t := t) (hS.pm 4 [3, 0, 1, 2] rfl) hp; replace hS := hS_; clear hS_; unfold maxLen at n0_ n1_ n2_ n3_ n4_; try dsimp only at n0_ n1_ n2_ n3_ n4_ q0_ q1_ q2_ q3_ q4_
  dsimp only [Thread.encv] at hS
  have hwl := hf.work (by omega)
  have hwx : t.work[0]? = some (at0 t.work 0) := at0_nat (k := 0) (by omega)
  have hh := hf.hand hwl
  obtain ⟨gw, ow, mw, cw, hvw, _⟩ := Rd.idxF (hS.own_rd (i := 3) rfl) hwx; simp only [Value.slice.injEq] at hvw; obtain ⟨rfl, _, _⟩ := hvw
  refine ws fun K7 hK7 => ga 3 hF rfl fun a hF => ?_
  refine wl_bstore (q := 5) (j := 0) hF hS rfl sz3 (hF.ev rfl) rfl ec rfl rfl fun w6 hS => ?_; dsimp only [List.set] at hS
  refine wl_nil <| hK7 _ _ <| wp_seq_k fun K8 hK8 => ?_
  replace hS := hS.pm 9 [6, 0, 1, 2, 3, 4, 5, 7, 8] rfl
  refine wp_region_J (is := [0, 1, 2, 3, 4, 5, 6, 7, 8, 10, 11, 12, 13, 14, 15, 16, 17, 9, 18, 19, 20]) (fun (f : Int) r => Box g (s.encfw tl (sv z0) (sv z1) (.slice (some ⟨gt, ot, none⟩) mt ct) f) :: r) _ (s.faults) [19, 20] (by kernel_rfl) hF hS (by kernel_rfl) <| tq 5 rfl <| tj_load [6, 7, 8, 9, 18, 19, 20] (by kernel_rfl) rfl (gw0 rfl) rfl rfl (fun a w_ x_ hF hS => r_load1 sc108 (hF.ev rfl) (hS.but1 (q := 6) (j := 17) rfl rfl)) <| tj_pure (by kernel_rfl) rfl (gw0 rfl) rfl rfl (fun a w_ hF => r_index sl108 (hF.ev rfl) ec (by omega) (by omega)) <| tq 1 rfl <| tj_load [9, 18, 19, 20] (by kernel_rfl) rfl (gw0 rfl) rfl rfl (fun a w_ x_ hF hS => r_load1 sc3 (hF.ev rfl) (hS.own_cell (q := 4) (i := 0) (j := 0) rfl hwx rfl)) <| tq 3 rfl ?_
  refine tj_load [19, 20] (by kernel_rfl) rfl (gw0 rfl) rfl rfl (fun a w_ x_ hF hS => r_load1 sc3 (hF.ev rfl) (hS.but1 (q := 6) (j := 11) rfl rfl)) <| tq 3 rfl <| tj_load [18, 19, 20] (by kernel_rfl) rfl (gw0 rfl) rfl rfl (fun a w_ x_ hF hS => r_load1 sc3 (hF.ev rfl) (hS.but1 (q := 6) (j := 11) rfl rfl)) ?_
  refine tj_mc (by kernel_rfl) rfl (gw0 rfl) rfl rfl (fun a w_ hF => r_call3 en118 (hF.ev rfl) (hF.ev rfl) ec) (fun w_ hS => calls_unit (l9Cell_c (s := s) hh hf.lg (hS.pm 9 [0, 8, 1, 2, 3, 4, 5, 6, 7] rfl))) (fun _ w_ h_ => ⟨_, (h_.pm 9 [0, 2, 3, 4, 5, 6, 7, 8, 1] rfl)⟩) ?_; intro _
  refine tj_rd (by kernel_rfl) rfl (gw0 rfl) rfl rfl (fun a w_ hF => r_call1 en123 (hF.ev rfl)) (fun w_ hS => specMarked_c hf.seen) ?_
  refine tj_fin (tl := [_, _]) (by kernel_rfl) rfl ?_; intro a w7 hF hS; try dsimp only at hS
  replace hS := hS.pm 9 [0, 8, 1, 2, 3, 4, 5, 6, 7] rfl
  refine ck hF rfl (l9Swap_c (s := faultS s (at0 t.work 0).handle) hS) ?_; rintro v w8 a ⟨rfl, hS⟩ hF
  refine ga 1 hF rfl fun a hF => wl_nil ⟨rfl, ?_⟩
  refine hK8 _ _ <| cx 64 hF rfl (fun c64 hF => ?_) fun c64 hF => ?_
  ·
   replace c64 : ¬ hitB s.cells (cellOf s (at0 t.work 0).handle 2) t.seen = true := fun h => by rw [show hitB (faultS s (at0 t.work 0).handle).cells (cellOf s (at0 t.work 0).handle 2) t.seen = true from h] at c64; cases c64
   refine ws fun K9 hK9 => gB 8 0 hF hS rfl rfl rfl fun a hF => wv 0 hF hS rfl rfl rfl rfl rfl rfl fun w9 hS => wl_nil <| hK9 _ _ <| wp_region_lit <| ga 3 hF rfl fun a hF => ?_
   refine wl_bstore (q := 8) (j := 0) hF hS rfl sz3 (hF.ev rfl) rfl ec rfl rfl fun w10 hS => ?_; dsimp only [List.set] at hS
   refine wl_nil ?_
   refine xt ?_
   replace hS := Sep.thr_back (t' := { t with pc := 60 }) (y0 := (_, _, _)) (y1 := (_, _, _)) (y2 := (_, _, _)) (y3 := (_, _, _)) (y4 := (_, _, _)) (hS.pm 9 [3, 4, 5, 6, 7, 8, 0, 1, 2] rfl) rfl
   refine ret0n rfl hF ⟨rfl, ?_⟩
   unfold flushS
   rw [if_neg c15, if_neg c20, if_pos c39, if_neg c64]
   exact (hS.pm 4 [1, 2, 3, 0] rfl)
  replace c64 : hitB s.cells (cellOf s (at0 t.work 0).handle 2) t.seen = true := c64
  refine wp_skip ?_
  refine xt ?_
  replace hS := Sep.thr_back (t' := { t with pc := 10 }) (y0 := (_, _, _)) (y1 := (_, _, _)) (y2 := (_, _, _)) (y3 := (_, _, _)) (y4 := (_, _, _)) (hS.pm 9 [3, 4, 5, 6, 7, 8, 0, 1, 2] rfl) rfl
  refine ret0n rfl hF ⟨rfl, ?_⟩
  unfold flushS
  rw [if_neg c15, if_neg c20, if_pos c39, if_pos c64]
  exact (hS.pm 4 [1, 2, 3, 0] rfl)
 refine rg hF rfl fun a hF => cx 76 hF rfl (fun c76 hF => ?_) fun c76 hF => ?_
 ·
  refine ws fun K11 hK11 => ga 4 hF rfl fun a hF => wl hF rfl rfl rfl (r_loadn ag25 (hF.ev rfl) (hS.boxn (vs := [_, _, _, _, _, _]) (i := 0) (m := 6) rfl rfl) sz25) fun a hF => ga 1 hF rfl fun a hF => ckr hF hS rfl (specHazardCell_c _ _ _) fun w11 a hS hF => ?_
  refine ck hF rfl (l9Put_c (s := s) hS) ?_; rintro v w12 a ⟨rfl, hS⟩ hF
  refine wl_nil <| hK11 _ _ <| wp_region_lit <| ga 3 hF rfl fun a hF => ?_
  refine es 3 0 hF hS hp rfl rfl rfl rfl rfl rfl fun w13 hS => ?_
  refine wl_nil ?_
  refine xt ?_
  refine ret0n rfl hF ⟨rfl, ?_⟩
  unfold flushS
  rw [if_neg c15, if_neg c20, if_neg c39, if_pos c76]
  exact hS
 refine rg hF rfl fun a hF => cx 89 hF rfl (fun c89 hF => ?_) fun c89 hF => ?_
 ·
  refine ws fun K13 hK13 => ga 4 hF rfl fun a hF => wl hF rfl rfl rfl (r_loadn ag25 (hF.ev rfl) (hS.boxn (vs := [_, _, _, _, _, _]) (i := 0) (m := 6) rfl rfl) sz25) fun a hF => ga 1 hF rfl fun a hF => ckr hF hS rfl (specHazardCell_c _ _ _) fun w14 a hS hF => ?_
  refine ck hF rfl (l9Put_c (s := s) hS) ?_; rintro v w15 a ⟨rfl, hS⟩ hF
  refine wl_nil <| hK13 _ _ <| wp_region_lit <| ga 2 hF rfl fun a hF => ?_
  replace hS := hS.pm 4 [0, 3, 1, 2] rfl
  refine ck hF rfl (l15After_c (s := putS s (hazardCell s.config (p : Int) 1) 0) hp hS) ?_; rintro v w16 a ⟨rfl, hS⟩ hF
  refine wl_nil ?_
  refine xt ?_
  refine ret0n rfl hF ⟨rfl, ?_⟩
  unfold flushS
  rw [if_neg c15, if_neg c20, if_neg c39, if_neg c76, if_pos c89]
  exact (hS.pm 4 [0, 2, 3, 1] rfl)
 refine wp_skip ?_
 refine xt ?_
 refine ret0n rfl hF ⟨rfl, ?_⟩
 unfold flushS
 rw [if_neg c15, if_neg c20, if_neg c39, if_neg c76, if_neg c89]
 exact hS
theorem specIsFlush_c {W : World} {n : Int} : Calls Tryz.prog 98 #[vi n] W (Ret fun v w' => v = .bool (isF n) ∧ Below W.heap.size W w') := by
 refine cfr Tryz.func98 Tryz.ntmps98 fun a hF => ?_
 have hS := Sep.refl W
 refine rg hF rfl fun a hF => ws fun K2 hK2 => ga 3 hF rfl fun a hF => ?_
 apply wo 3 5 8 hF hS
 ·
  intro hg5 a hF
  refine ga 1 hF rfl fun a hF => ckr hF hS rfl (l1In_c _ _ _) fun w1 a hS hF => ?_
  exact je 3 hF hS rfl rfl rfl rfl
 intro a w2 hF hS
 refine ge hK2 hF rfl fun a hF => ?_
 refine xr ?_
 exact ret1 rfl hF rfl ⟨rfl, hS.old⟩
set_option maxRecDepth 20000
variable {tl : List Value}
def beginS (s : Sl.State) (t : Sl.Thread) (p : Int) : Sl.State × Sl.Thread :=
  if t.pc = 1 then (s, { t with seen := at0 s.cells 0, pc := if s.config.clockMax ≤ at0 s.cells 0 then 5 else 2 })
  else if t.pc = 2 then (putS s (announceCell s.config p) t.seen, { t with pc := 3 })
  else if t.pc = 3 then if at0 s.cells 0 = t.seen then (s, { t with pc := 4 }) else ({ s with retries := IntKind.i64.wrap (s.retries + 1) }, { t with pc := 1 })
  else if t.pc = 4 then (swapS s 0 t.seen (IntKind.i64.wrap (t.seen + 1)), endT { t with snapshot := t.seen } 0 0)
  else if t.pc = 5 then (putS s (announceCell s.config p) 0, endT t 5 0)
  else (s, t)
def isB (n : Int) : Bool := decide (1 ≤ n ∧ n ≤ 5)
theorem l11Begin_c {W w : World} {l : List Res} {g gt ot mt ct p : Nat} {z0 z1 : Slv} {s : Sl.State} {t : Sl.Thread} (hp : p < s.threads.length) (hlc : 2 ≤ s.cells.length) (hS : Sep W (Box g ((s).encw tl (sv z0) (sv z1) (.slice (some ⟨gt, ot, none⟩) mt ct)) :: Own intEK (sv z0) (s).cells :: Own intEK (sv z1) (s).generations :: Own threadEK (.slice (some ⟨gt, ot, none⟩) mt ct) (s.threads.set p t) :: l) w) : Calls Tryz.prog 89 #[.pointer (some ⟨g, 0, none⟩), vi (p : Int)] w (Ret fun v w' => v = .tuple #[] ∧ Sep W (Box g (((beginS s t (p : Int)).1).encw tl (sv z0) (sv z1) (.slice (some ⟨gt, ot, none⟩) mt ct)) :: Own intEK (sv z0) ((beginS s t (p : Int)).1).cells :: Own intEK (sv z1) ((beginS s t (p : Int)).1).generations :: Own threadEK (.slice (some ⟨gt, ot, none⟩) mt ct) (s.threads.set p (beginS s t (p : Int)).2) :: l) w') := by
 refine cfr Tryz.func89 Tryz.ntmps89 fun a hF => ?_
 have hl0 := hS.own_len (q := 1) rfl
 have hl1 := hS.own_len (q := 2) rfl
 have hmt : mt = s.threads.length := by have := hS.own_len (q := 3) (s := (some ⟨gt, ot, none⟩, mt, ct)) rfl; simpa using this
 refine ws fun K1 hK1 => gB 5 0 hF hS rfl rfl rfl fun a hF => ?_
 refine wl hF rfl rfl rfl (r_index sl73 (hF.ev rfl) (hF.ev rfl) (by omega) (by first | omega | (dsimp only; omega))) fun a hF => ?_
 refine ge hK1 hF rfl fun a hF => ws fun K2 hK2 => ga 3 hF rfl fun a hF => wl hF rfl rfl rfl (r_loadn ag25 (hF.ev rfl) (hS.boxn (vs := [_, _, _, _, _, _]) (i := 0) (m := 6) rfl rfl) sz25) fun a hF => ga 1 hF rfl fun a hF => ckr hF hS rfl (specAnnounceCell_c _ _) fun w1 a hS hF => ge hK2 hF rfl fun a hF => ?_
 refine ws fun K3 hK3 => ga 3 hF rfl fun a hF => wl hF rfl rfl rfl (r_load1 sc3 (hF.ev rfl) (hS.elt1 (q := 3) (j := 0) hp rfl (fun _ => rfl))) fun a hF => wl_nil <| hK3 _ _ <| wp_block <| rg hF rfl fun a hF => cx 22 hF rfl (fun c22 hF => ?_) fun c22 hF => ?_
 ·
  refine ws fun K5 hK5 => gB 5 0 hF hS rfl rfl rfl fun a hF => ?_
  obtain ⟨g29, o29, m29, q29, hv29, hm29, hl29, hc29⟩ := Rd.atF ((hS.own_rd (i := 1) rfl)) (a := a) (X := .const (.int .i64 0)) ec (by omega) (by omega)
  refine wl hF rfl rfl rfl (r_index sl29 ((hF.ev rfl).trans hv29) ec (by omega) (by first | omega | (simp at hm29; omega))) fun a hF => ?_
  refine wl hF rfl rfl rfl (r_load1 sc3 (hF.ev rfl) (hc29 0 _ rfl)) fun a hF => ga 2 hF rfl fun a hF => ?_
  refine es 3 11 hF hS hp rfl rfl rfl rfl rfl rfl fun w2 hS => ?_
  refine wl_nil <| hK5 _ _ <| ws fun K6 hK6 => ga 3 hF rfl fun a hF => ?_
  refine es 3 0 hF hS hp rfl rfl rfl rfl rfl rfl fun w3 hS => ?_
  refine wl_nil <| hK6 _ _ <| wp_seq_k fun K7 hK7 => wp_region_calm (by kernel_rfl) (by kernel_rfl) <| qa 3 hF tk rfl fun a hF => wq hF rfl rfl rfl (fun w_ hB_ => r_load1 sc3 (hF.ev rfl) ((hS.ext hB_).elt1 (q := 3) (j := 11) hp rfl (fun _ => rfl))) fun a hF => qb 6 0 hF tk hS rfl rfl rfl fun a hF => ?_
  refine wpQuiet_nil ?_; intro w4 hB_; have hS := hS.ext hB_
  refine hK7 _ _ <| cx 45 hF rfl (fun c45 hF => ?_) fun c45 hF => ?_
  ·
   refine wp_region_lit <| ga 3 hF rfl fun a hF => ?_
   refine es 3 0 hF hS hp rfl rfl rfl rfl rfl rfl fun w5 hS => ?_
   refine wl_nil ?_
   refine xt ?_
   refine ret0n rfl hF ⟨rfl, ?_⟩
   unfold beginS
   rw [if_pos c22, if_pos c45]
   exact hS
  refine wp_skip ?_
  refine xt ?_
  refine ret0n rfl hF ⟨rfl, ?_⟩
  unfold beginS
  rw [if_pos c22, if_neg c45]
  exact hS
 refine rg hF rfl fun a hF => cx 49 hF rfl (fun c49 hF => ?_) fun c49 hF => ?_
 ·
  refine ws fun K9 hK9 => ga 5 hF rfl fun a hF => wl hF rfl rfl rfl (r_load1 sc3 (hF.ev rfl) (hS.elt1 (q := 3) (j := 11) hp rfl (fun _ => rfl))) fun a hF => ?_
  refine ck hF rfl (l9Put_c (s := s) hS) ?_; rintro v w6 a ⟨rfl, hS⟩ hF
  refine wl_nil <| hK9 _ _ <| wp_region_lit <| ga 3 hF rfl fun a hF => ?_
  refine es 3 0 hF hS hp rfl rfl rfl rfl rfl rfl fun w7 hS => ?_
  refine wl_nil ?_
  refine xt ?_
  refine ret0n rfl hF ⟨rfl, ?_⟩
  unfold beginS
  rw [if_neg c22, if_pos c49]
  exact hS
 refine rg hF rfl fun a hF => cx 61 hF rfl (fun c61 hF => ?_) fun c61 hF => ?_
 ·
  refine ws fun K11 hK11 => ga 3 hF rfl fun a hF => ?_
  refine es 3 0 hF hS hp rfl rfl rfl rfl rfl rfl fun w8 hS => ?_
  refine wl_nil <| hK11 _ _ <| wp_seq_k fun K12 hK12 => wp_region_calm (by kernel_rfl) (by kernel_rfl) <| qb 4 0 hF tk hS rfl rfl rfl fun a hF => ?_
  obtain ⟨g70, o70, m70, q70, hv70, hm70, hl70, hc70⟩ := Rd.atF ((hS.own_rd (i := 1) rfl)) (a := a) (X := .const (.int .i64 0)) ec (by omega) (by omega)
  refine wq hF rfl rfl rfl (fun w_ hB_ => r_index sl29 ((hF.ev rfl).trans hv70) ec (by omega) (by first | omega | (simp at hm70; omega))) fun a hF => ?_
  refine wq hF rfl rfl rfl (fun w_ hB_ => r_load1 sc3 (hF.ev rfl) (cellB hB_ (hc70 0 _ rfl))) fun a hF => qa 3 hF tk rfl fun a hF => wq hF rfl rfl rfl (fun w_ hB_ => r_load1 sc3 (hF.ev rfl) ((hS.ext hB_).elt1 (q := 3) (j := 11) hp rfl (fun _ => rfl))) fun a hF => qa 1 hF tk rfl fun a hF => ?_
  refine wpQuiet_nil ?_; intro w9 hB_; have hS := hS.ext hB_
  refine hK12 _ _ <| cx 76 hF rfl (fun c76 hF => ?_) fun c76 hF => ?_
  ·
   refine ws fun K13 hK13 => gB 8 0 hF hS rfl rfl rfl fun a hF => wv 0 hF hS rfl rfl rfl rfl rfl rfl fun w10 hS => wl_nil <| hK13 _ _ <| wp_region_lit <| ga 3 hF rfl fun a hF => ?_
   refine es 3 0 hF hS hp rfl rfl rfl rfl rfl rfl fun w11 hS => ?_
   refine wl_nil ?_
   refine xt ?_
   refine ret0n rfl hF ⟨rfl, ?_⟩
   unfold beginS
   rw [if_neg c22, if_neg c49, if_pos c61, if_neg c76]
   exact hS
  refine wp_skip ?_
  refine xt ?_
  refine ret0n rfl hF ⟨rfl, ?_⟩
  unfold beginS
  rw [if_neg c22, if_neg c49, if_pos c61, if_pos c76]
  exact hS
 refine rg hF rfl fun a hF => cx 88 hF rfl (fun c88 hF => ?_) fun c88 hF => ?_
 ·
  refine wp_seq_k fun K15 hK15 => ?_
  refine wp_region_todo (is := [0, 1, 2, 3, 4, 5, 6, 7, 8, 9, 10]) [] [10] (by kernel_rfl) hF hS ⟨trivial, by decide, by decide, by decide⟩ (by kernel_rfl) ?_; intro hl_ wd hSd
  refine tp 4 hl_ rfl <| todo_load [10] hl_ (by kernel_rfl) rfl (gw0 rfl) rfl rfl rfl (fun a w_ hF hB_ => r_load1 sc3 (hF.ev rfl) ((hSd.ext hB_).elt1 (q := 3) (j := 11) hp rfl (fun _ => rfl))) <| tp 3 hl_ rfl <| todo_load [9, 10] hl_ (by kernel_rfl) rfl (gw0 rfl) rfl rfl rfl (fun a w_ hF hB_ => r_load1 sc3 (hF.ev rfl) ((hSd.ext hB_).elt1 (q := 3) (j := 11) hp rfl (fun _ => rfl))) <| tp 1 hl_ rfl <| todo_fork [(10, [])] hl_ rfl (by kernel_rfl) (List.forall_mem_cons.2 ⟨?_, fun _ h_ => nomatch h_⟩)
  ·
   refine op_mc (Γ := Unit) (m' := []) rfl (gw0 rfl) rfl rfl rfl (fun a w_ hF => r_call4 en113 (hF.ev rfl) ec (hF.ev rfl) (hF.ev rfl)) (fun w_ hS => calls_unit (l9Swap_c (s := s) hS)) ?_; intro _; try clear hSd; try clear wd; intro wd hSd
   refine todo_fin hl_ rfl (by kernel_rfl) (tl := []) rfl ?_; intro a w12 hF hA_
   have hS := hA_.sep; clear hA_
   clear hl_; try clear hSd
   try dsimp only [List.cons_append, List.nil_append, List.set] at hS
   try clear wd
   refine wl_nil ⟨rfl, ?_⟩
   refine hK15 _ _ <| ws fun K16 hK16 => ga 4 hF rfl fun a hF => wl hF rfl rfl rfl (r_load1 sc3 (hF.ev rfl) (hS.elt1 (q := 3) (j := 11) hp rfl (fun _ => rfl))) fun a hF => ga 2 hF rfl fun a hF => ?_
   refine es 3 6 hF hS hp rfl rfl rfl rfl rfl rfl fun w13 hS => ?_
   refine wl_nil <| hK16 _ _ <| wp_region_lit <| ga 2 hF rfl fun a hF => ?_
   replace hS := hS.pm 4 [0, 3, 1, 2] rfl
   refine ck hF rfl (l10Finish_c (s := swapS s 0 t.seen (IntKind.i64.wrap (t.seen + 1))) hp hS) ?_; rintro v w14 a ⟨rfl, hS⟩ hF
   refine wl_nil ?_
   refine xt ?_
   refine ret0n rfl hF ⟨rfl, ?_⟩
   unfold beginS
   rw [if_neg c22, if_neg c49, if_neg c61, if_pos c88]
   exact (hS.pm 4 [0, 2, 3, 1] rfl)
 refine rg hF rfl fun a hF => cx 111 hF rfl (fun c111 hF => ?_) fun c111 hF => ?_
 ·
  refine ws fun K18 hK18 => ga 2 hF rfl fun a hF => ?_
  refine ck hF rfl (l9Put_c (s := s) hS) ?_; rintro v w15 a ⟨rfl, hS⟩ hF
  refine wl_nil <| hK18 _ _ <| wp_region_lit <| ga 2 hF rfl fun a hF => ?_
  replace hS := hS.pm 4 [0, 3, 1, 2] rfl
  refine ck hF rfl (l10Finish_c (s := putS s (announceCell s.config (p : Int)) 0) hp hS) ?_; rintro v w16 a ⟨rfl, hS⟩ hF
  refine wl_nil ?_
  refine xt ?_
  refine ret0n rfl hF ⟨rfl, ?_⟩
  unfold beginS
  rw [if_neg c22, if_neg c49, if_neg c61, if_neg c88, if_pos c111]
  exact (hS.pm 4 [0, 2, 3, 1] rfl)
 refine wp_skip ?_
 refine xt ?_
 refine ret0n rfl hF ⟨rfl, ?_⟩
 unfold beginS
 rw [if_neg c22, if_neg c49, if_neg c61, if_neg c88, if_neg c111]
 exact hS
theorem specIsBegin_c {W : World} {n : Int} : Calls Tryz.prog 88 #[vi n] W (Ret fun v w' => v = .bool (isB n) ∧ Below W.heap.size W w') := by
 refine cfr Tryz.func88 Tryz.ntmps88 fun a hF => ?_
 have hS := Sep.refl W
 refine rg hF rfl fun a hF => ws fun K2 hK2 => ga 1 hF rfl fun a hF => ckr hF hS rfl (l1In_c _ _ _) fun w1 a hS hF => ge hK2 hF rfl fun a hF => ?_
 refine xr ?_
 exact ret1 rfl hF rfl ⟨rfl, hS.old⟩
set_option maxRecDepth 20000
variable {tl : List Value}
def isWr (n : Int) : Bool := decide (30 ≤ n ∧ n ≤ 47)
def scanEndS (s : Sl.State) (t : Sl.Thread) (p : Int) : Sl.State × Sl.Thread := (putS s (announceCell s.config p) 0, endT { t with snapshot := 0 } 0 0)
def stepS (s : Sl.State) (t : Sl.Thread) (p : Int) : Sl.State × Sl.Thread :=
  if isB t.pc = true then beginS s t p
  else if isW t.pc = true then walkS s t p
  else if isR t.pc = true then readS s t p
  else if isWr t.pc = true then if t.pc ≤ 34 then takeS s t p else if t.pc ≤ 42 then headS s t p else ownS s t p
  else if isF t.pc = true then flushS s t p
  else if t.pc = 70 then reclaimS s t p
  else if t.pc = 80 then scanEndS s t p
  else (s, t)
theorem no_true {b : Bool} (h : b = false) : ¬ b = true := by rw [h]; decide
theorem specIsWrite_c {W : World} {n : Int} : Calls Tryz.prog 94 #[vi n] W (Ret fun v w' => v = .bool (isWr n) ∧ Below W.heap.size W w') := by
 refine cfr Tryz.func94 Tryz.ntmps94 fun a hF => ?_
 have hS := Sep.refl W
 refine rg hF rfl fun a hF => ws fun K2 hK2 => ga 1 hF rfl fun a hF => ckr hF hS rfl (l1In_c _ _ _) fun w1 a hS hF => ge hK2 hF rfl fun a hF => ?_
 refine xr ?_
 exact ret1 rfl hF rfl ⟨rfl, hS.old⟩
theorem l17Step_c {W w : World} {l : List Res} {g gt ot mt ct p : Nat} {z0 z1 : Slv} {s : Sl.State} {t : Sl.Thread} (hp : p < s.threads.length) (hf : Fit s t) (hS : Sep W (Box g ((s).encw tl (sv z0) (sv z1) (.slice (some ⟨gt, ot, none⟩) mt ct)) :: Own intEK (sv z0) (s).cells :: Own intEK (sv z1) (s).generations :: Own threadEK (.slice (some ⟨gt, ot, none⟩) mt ct) (s.threads.set p t) :: l) w) : Calls Tryz.prog 75 #[.pointer (some ⟨g, 0, none⟩), vi (p : Int)] w (Ret fun v w' => v = .tuple #[] ∧ Sep W (Box g (((stepS (stepped s) t (p : Int)).1).encw tl (sv z0) (sv z1) (.slice (some ⟨gt, ot, none⟩) mt ct)) :: Own intEK (sv z0) ((stepS (stepped s) t (p : Int)).1).cells :: Own intEK (sv z1) ((stepS (stepped s) t (p : Int)).1).generations :: Own threadEK (.slice (some ⟨gt, ot, none⟩) mt ct) (s.threads.set p (stepS (stepped s) t (p : Int)).2) :: l) w') := by
 refine cfr Tryz.func75 Tryz.ntmps75 fun a hF => ?_
 have hl0 := hS.own_len (q := 1) rfl
 have hl1 := hS.own_len (q := 2) rfl
 have hmt : mt = s.threads.length := by have := hS.own_len (q := 3) (s := (some ⟨gt, ot, none⟩, mt, ct)) rfl; simpa using this
 have hlc := hf.two
 refine ws fun K1 hK1 => gB 5 0 hF hS rfl rfl rfl fun a hF => ?_
 refine wl hF rfl rfl rfl (r_index sl73 (hF.ev rfl) (hF.ev rfl) (by omega) (by first | omega | (dsimp only; omega))) fun a hF => ?_
 refine ga 1 hF rfl fun a hF => wl hF rfl rfl rfl (r_load1 sc3 (hF.ev rfl) (hS.elt1 (q := 3) (j := 0) hp rfl (fun _ => rfl))) fun a hF => ge hK1 hF rfl fun a hF => ws fun K2 hK2 => gB 8 0 hF hS rfl rfl rfl fun a hF => wv 0 hF hS rfl rfl rfl rfl rfl rfl fun w1 hS => wl_nil (hK2 _ _ ?_)
 refine wp_block <| ws fun K3 hK3 => ga 1 hF rfl fun a hF => ckr hF hS rfl (specIsBegin_c) fun w2 a hS hF => ge hK3 hF rfl fun a hF => cx 21 hF rfl (fun c21 hF => ?_) fun c21 hF => ?_
 ·
  refine wp_region_lit <| ga 2 hF rfl fun a hF => ?_
  refine ck hF rfl (l11Begin_c (s := stepped s) hp hlc hS) ?_; rintro v w3 a ⟨rfl, hS⟩ hF
  refine wl_nil ?_
  refine xt ?_
  refine ret0n rfl hF ⟨rfl, ?_⟩
  unfold stepS
  rw [if_pos c21]
  exact hS
 refine ws fun K4 hK4 => ga 1 hF rfl fun a hF => ckr hF hS rfl (specIsWalk_c) fun w4 a hS hF => ge hK4 hF rfl fun a hF => cx 27 hF rfl (fun c27 hF => ?_) fun c27 hF => ?_
 ·
  refine wp_region_lit <| ga 2 hF rfl fun a hF => ?_
  refine ck hF rfl (l12Walk_c (s := stepped s) hp hf.stepped hS) ?_; rintro v w5 a ⟨rfl, hS⟩ hF
  refine wl_nil ?_
  refine xt ?_
  refine ret0n rfl hF ⟨rfl, ?_⟩
  unfold stepS
  rw [if_neg (no_true c21), if_pos c27]
  exact hS
 refine ws fun K5 hK5 => ga 1 hF rfl fun a hF => ckr hF hS rfl (specIsRead_c) fun w6 a hS hF => ge hK5 hF rfl fun a hF => cx 33 hF rfl (fun c33 hF => ?_) fun c33 hF => ?_
 ·
  refine wp_region_lit <| ga 2 hF rfl fun a hF => ?_
  refine ck hF rfl (l13Read_c (s := stepped s) hp hf.stepped hS) ?_; rintro v w7 a ⟨rfl, hS⟩ hF
  refine wl_nil ?_
  refine xt ?_
  refine ret0n rfl hF ⟨rfl, ?_⟩
  unfold stepS
  rw [if_neg (no_true c21), if_neg (no_true c27), if_pos c33]
  exact hS
 refine ws fun K6 hK6 => ga 1 hF rfl fun a hF => ckr hF hS rfl (specIsWrite_c) fun w8 a hS hF => ge hK6 hF rfl fun a hF => cx 39 hF rfl (fun c39 hF => ?_) fun c39 hF => ?_
 ·
  refine wp_block <| rg hF rfl fun a hF => cx 45 hF rfl (fun c45 hF => ?_) fun c45 hF => ?_
  ·
   refine wp_region_lit <| ga 2 hF rfl fun a hF => ?_
   refine ck hF rfl (l14Take_c (s := stepped s) hp hf.stepped hS) ?_; rintro v w9 a ⟨rfl, hS⟩ hF
   refine wl_nil ?_
   refine xt ?_
   refine ret0n rfl hF ⟨rfl, ?_⟩
   unfold stepS
   rw [if_neg (no_true c21), if_neg (no_true c27), if_neg (no_true c33), if_pos c39, if_pos c45]
   exact hS
  refine rg hF rfl fun a hF => cx 51 hF rfl (fun c51 hF => ?_) fun c51 hF => ?_
  ·
   refine wp_region_lit <| ga 2 hF rfl fun a hF => ?_
   refine ck hF rfl (l14Head_c (s := stepped s) hp hf.stepped hS) ?_; rintro v w10 a ⟨rfl, hS⟩ hF
   refine wl_nil ?_
   refine xt ?_
   refine ret0n rfl hF ⟨rfl, ?_⟩
   unfold stepS
   rw [if_neg (no_true c21), if_neg (no_true c27), if_neg (no_true c33), if_pos c39, if_neg c45, if_pos c51]
   exact hS
  refine wp_region_lit <| ga 2 hF rfl fun a hF => ?_
  refine ck hF rfl (l14Own_c (s := stepped s) hp hf.stepped hS) ?_; rintro v w11 a ⟨rfl, hS⟩ hF
  refine wl_nil ?_
  refine xt ?_
  refine ret0n rfl hF ⟨rfl, ?_⟩
  unfold stepS
  rw [if_neg (no_true c21), if_neg (no_true c27), if_neg (no_true c33), if_pos c39, if_neg c45, if_neg c51]
  exact hS
 refine ws fun K9 hK9 => ga 1 hF rfl fun a hF => ckr hF hS rfl (specIsFlush_c) fun w12 a hS hF => ge hK9 hF rfl fun a hF => cx 57 hF rfl (fun c57 hF => ?_) fun c57 hF => ?_
 ·
  refine wp_region_lit <| ga 2 hF rfl fun a hF => ?_
  refine ck hF rfl (l15Flush_c (s := stepped s) hp hf.stepped hS) ?_; rintro v w13 a ⟨rfl, hS⟩ hF
  refine wl_nil ?_
  refine xt ?_
  refine ret0n rfl hF ⟨rfl, ?_⟩
  unfold stepS
  rw [if_neg (no_true c21), if_neg (no_true c27), if_neg (no_true c33), if_neg (no_true c39), if_pos c57]
  exact hS
 refine rg hF rfl fun a hF => cx 63 hF rfl (fun c63 hF => ?_) fun c63 hF => ?_
 ·
  refine wp_region_lit <| ga 2 hF rfl fun a hF => ?_
  refine ck hF rfl (l16Scan_c (s := stepped s) hp hf.stepped hS) ?_; rintro v w14 a ⟨rfl, hS⟩ hF
  refine wl_nil ?_
  refine xt ?_
  refine ret0n rfl hF ⟨rfl, ?_⟩
  unfold stepS
  rw [if_neg (no_true c21), if_neg (no_true c27), if_neg (no_true c33), if_neg (no_true c39), if_neg (no_true c57), if_pos c63]
  exact hS
 refine rg hF rfl fun a hF => cx 69 hF rfl (fun c69 hF => ?_) fun c69 hF => ?_
 ·
  refine ws fun K12 hK12 => ga 4 hF rfl fun a hF => wl hF rfl rfl rfl (r_loadn ag25 (hF.ev rfl) (hS.boxn (vs := [_, _, _, _, _, _]) (i := 0) (m := 6) rfl rfl) sz25) fun a hF => ga 1 hF rfl fun a hF => ckr hF hS rfl (specAnnounceCell_c _ _) fun w15 a hS hF => ?_
  refine ck hF rfl (l9Put_c (s := stepped s) hS) ?_; rintro v w16 a ⟨rfl, hS⟩ hF
  refine wl_nil <| hK12 _ _ <| ws fun K13 hK13 => gB 5 0 hF hS rfl rfl rfl fun a hF => ?_
  refine wl hF rfl rfl rfl (r_index sl73 (hF.ev rfl) (hF.ev rfl) (by omega) (by first | omega | (dsimp only; omega))) fun a hF => ?_
  refine ga 1 hF rfl fun a hF => ?_
  refine es 3 6 hF hS hp rfl rfl rfl rfl rfl rfl fun w17 hS => ?_
  refine wl_nil <| hK13 _ _ <| wp_region_lit <| ga 2 hF rfl fun a hF => ?_
  replace hS := hS.pm 4 [0, 3, 1, 2] rfl
  refine ck hF rfl (l10Finish_c (s := putS (stepped s) (announceCell s.config (p : Int)) 0) hp hS) ?_; rintro v w18 a ⟨rfl, hS⟩ hF
  refine wl_nil ?_
  refine xt ?_
  refine ret0n rfl hF ⟨rfl, ?_⟩
  unfold stepS
  rw [if_neg (no_true c21), if_neg (no_true c27), if_neg (no_true c33), if_neg (no_true c39), if_neg (no_true c57), if_neg c63, if_pos c69]
  exact (hS.pm 4 [0, 2, 3, 1] rfl)
 refine wp_skip ?_
 refine xt ?_
 refine ret0n rfl hF ⟨rfl, ?_⟩
 unfold stepS
 rw [if_neg (no_true c21), if_neg (no_true c27), if_neg (no_true c33), if_neg (no_true c39), if_neg (no_true c57), if_neg c63, if_neg c69]
 exact hS
set_option maxRecDepth 20000
/-- what every step keeps -/
structure KS (s x : Sl.State) : Prop where
  cf : x.config = s.config
  th : x.threads = s.threads
  lc : x.cells.length = s.cells.length
  lg : x.generations.length = s.generations.length
  wc : ∀ y ∈ x.cells, int64 y
  wg : ∀ y ∈ x.generations, int64 y
  ws : int64 x.steps
  wh : int64 x.changes
  wr : int64 x.retries
  wf : int64 x.faults
theorem int64_wrap (n : Int) : int64 (IntKind.i64.wrap n) := by rw [w64]; unfold int64; omega
theorem int64_ite {c : Prop} [Decidable c] {a b : Int} (ha : int64 a) (hb : int64 b) : int64 (if c then a else b) := by split <;> assumption
theorem int64_marked {h : Int} (h1 : int64 h) : int64 (marked h) := by unfold marked; split <;> first | exact int64_wrap _ | exact h1
theorem int64_indexOf {h : Int} (h1 : int64 h) : int64 (indexOf h) := by unfold indexOf; unfold int64 at *; split <;> omega
theorem int64_makeHandle {i g : Int} : int64 (makeHandle i g) := by unfold makeHandle; split <;> first | exact int64_wrap _ | (unfold int64; omega)
theorem mem_putC {xs : List Int} {a v : Int} (h : ∀ y ∈ xs, int64 y) (hv : int64 v) : ∀ y ∈ putC xs a v, int64 y := by
 intro y hy
 unfold putC at hy
 split at hy
 · rcases List.mem_or_eq_of_mem_set hy with h1 | h1
   · exact h y h1
   · subst h1; exact hv
 · exact h y hy
theorem int64_putN {xs : List Int} {a v n : Int} (h : int64 n) : int64 (putN xs a v n) := by unfold putN; split <;> first | exact int64_wrap _ | exact h
section
variable {s x : Sl.State} {t : Sl.Thread} {a u v h n p : Int}
theorem KS.put (k : KS s x) (hv : int64 v) : KS s (putS x a v) := ⟨k.cf, k.th, (putC_len).trans k.lc, k.lg, mem_putC k.wc hv, k.wg, k.ws, int64_putN k.wh, k.wr, k.wf⟩
theorem KS.swap (k : KS s x) (hv : int64 v) : KS s (swapS x a u v) := by
 refine ⟨k.cf, k.th, ?_, k.lg, ?_, k.wg, k.ws, ?_, k.wr, k.wf⟩ <;> unfold swapS <;> dsimp only <;> split
 · exact (putC_len).trans k.lc
 · exact k.lc
 · exact mem_putC k.wc hv
 · exact k.wc
 · exact int64_putN k.wh
 · exact k.wh
theorem KS.fault (k : KS s x) : KS s (faultS x h) := ⟨k.cf, k.th, k.lc, k.lg, k.wc, k.wg, k.ws, k.wh, k.wr, int64_ite k.wf (int64_wrap _)⟩
theorem KS.prev (k : KS s x) : KS s (prevS x t) := ⟨k.cf, k.th, k.lc, k.lg, k.wc, k.wg, k.ws, k.wh, k.wr, int64_ite k.wf (int64_ite k.wf (int64_wrap _))⟩
theorem KS.retry (k : KS s x) : KS s { x with retries := IntKind.i64.wrap n } := ⟨k.cf, k.th, k.lc, k.lg, k.wc, k.wg, k.ws, k.wh, int64_wrap _, k.wf⟩
theorem KS.stepped (k : KS s x) : KS s (stepped x) := ⟨k.cf, k.th, k.lc, k.lg, k.wc, k.wg, int64_wrap _, k.wh, k.wr, k.wf⟩
/-- a thread that takes a node has seen a number of a node -/
def P31 (c : Config) (t : Sl.Thread) : Prop := t.pc = 31 → 0 ≤ t.seen ∧ t.seen < c.capacity
def SOk (s : Sl.State) (z : Sl.State × Sl.Thread) : Prop := KS s z.1 ∧ z.2.wf ∧ P31 s.config z.2
theorem wf_end {c x : Int} (hw : t.wf) (hc : int64 c) (hx : int64 x) : (endT t c x).wf := by
 obtain ⟨h1, h2, h3, h4, h5, h6, h7, h8, h9, h10, h11, h12, h13, h14, h15, h16⟩ := hw
 unfold endT clearT
 exact ⟨int64_zero, h2, ⟨hc, hx⟩, h4, int64_zero, int64_zero, int64_zero, int64_zero, int64_zero, int64_zero, int64_zero, (fun _ h => by cases h), h13, h14, h15, h16⟩
theorem p31_end {c : Config} {a b : Int} : P31 c (endT t a b) := fun h => by unfold endT at h; simp at h
end
theorem i6 {y : Int} (h : int64 y := by first | assumption | exact int64_makeHandle | (unfold int64; omega) | (unfold int64; dsimp only; omega) | exact int64_wrap _ | exact int64_loadC (by assumption) | exact int64_unmarked (by assumption) | exact int64_unmarked (int64_loadC (by assumption)) | exact int64_marked (by assumption)) : int64 y := h
theorem kso {s : Sl.State} {z : Sl.State × Sl.Thread} (h : SOk s z := by
 repeat' split
 all_goals refine ⟨?_, ?_, ?_⟩
 all_goals try dsimp only
 all_goals first
   | (first
      | exact k
      | exact k.put i6
      | exact k.fault
      | exact k.retry
      | exact k.prev
      | exact k.fault.put i6
      | exact k.swap i6
      | exact k.fault.swap i6
      | exact k.prev.swap i6
      | exact k.prev.retry
      | exact (k.swap i6).retry
      | exact (k.fault.swap i6).retry
      | exact (k.prev.swap i6).retry
      done)
   | exact hi
   | exact p31_end
   | (intro h; exfalso; revert h; dsimp only; first | omega | (split <;> omega) | (split <;> (try split) <;> omega))
   | exact wf_end hw i6 i6
   | (refine ⟨?_, ?_, ?_, ?_, ?_, ?_, ?_, ?_, ?_, ?_, ?_, ?_, ?_, ?_, ?_, ?_⟩ <;> (try dsimp only) <;> first | assumption | exact i6 | exact int64_ite i6 i6 | exact int64_ite i6 (int64_ite i6 i6) | (refine ⟨?_, ?_⟩ <;> first | assumption | exact i6))
   | exact wf_end (t := { t with snapshot := t.seen }) ⟨h1, h2, h3, h9, h5, h6, h7, h8, h9, h10, h11, h12, h13, h14, h15, h16⟩ i6 i6
   | exact wf_end (t := { t with snapshot := 0 }) ⟨h1, h2, h3, int64_zero, h5, h6, h7, h8, h9, h10, h11, h12, h13, h14, h15, h16⟩ i6 i6
   | exact p31_goT
   | (refine goT_wf ?_; refine ⟨?_, ?_, ?_, ?_, ?_, ?_, ?_, ?_, ?_, ?_, ?_, ?_, ?_, ?_, ?_, ?_⟩ <;> (try dsimp only) <;> first | assumption | exact i6 | (refine ⟨?_, ?_⟩ <;> first | assumption | exact i6))
   | (intro _; dsimp only; rw [← hct]; omega)
   | exact wf_clear hw i6
   | (intro h; unfold clearT at h; simp at h; done)
   | (have hne : (newE x t).wf := ⟨h7, ho2, h10, int64_loadC hwc⟩; exact ⟨i6, h2, h3, h4, h5, h6, h7, h8, h9, h10, h11, h12, h13, all_snoc h14 hne, h15, h16⟩)
   | exact scanT_wf hw hwc
   | exact p31_scanT (by assumption)
   | exact afterT_wf hw
   | exact p31_after) : SOk s z := h
theorem int64_at0 {xs : List Int} {i : Int} (h : ∀ y ∈ xs, int64 y) : int64 (at0 xs i) := by
 unfold at0
 cases e : xs[i.toNat]? with
 | none => exact int64_zero
 | some y => exact h y (List.mem_of_getElem? e)
theorem beginS_ok {s x : Sl.State} {t : Sl.Thread} {p : Int} (k : KS s x) (hw : t.wf) (hi : P31 s.config t) : SOk s (beginS x t p) := by
 have hwc := k.wc; have hwg := k.wg
 have hct := k.cf
 obtain ⟨h1, h2, h3, h4, h5, h6, h7, h8, h9, h10, h11, h12, h13, h14, h15, h16⟩ := id hw
 have ho1 := h2.1; have ho2 := h2.2.1; have ho3 := h2.2.2; have hr1 := h3.1; have hr2 := h3.2
 have h00 : int64 (at0 x.cells 0) := int64_at0 hwc
 have h01 : int64 (at0 x.cells 1) := int64_at0 hwc
 unfold beginS
 exact kso
theorem wf_clear {t : Sl.Thread} {n : Int} (hw : t.wf) (hn : int64 n) : ({ clearT t with pc := n } : Sl.Thread).wf := by
 obtain ⟨h1, h2, h3, h4, h5, h6, h7, h8, h9, h10, h11, h12, h13, h14, h15, h16⟩ := hw
 unfold clearT
 exact ⟨hn, h2, h3, h4, int64_zero, int64_zero, int64_zero, int64_zero, int64_zero, int64_zero, int64_zero, (fun _ h => by cases h), h13, h14, h15, h16⟩
theorem all_snoc {α : Type} {P : α → Prop} {xs : List α} {y : α} (h : ∀ x ∈ xs, P x) (hy : P y) : ∀ x ∈ xs ++ [y], P x := by
 intro x hx
 rcases List.mem_append.1 hx with h1 | h1
 · exact h x h1
 · rw [List.mem_singleton.1 h1]; exact hy
theorem goT_wf {t : Sl.Thread} (hw : t.wf) : (goT t).wf := by
 obtain ⟨h1, h2, h3, h4, h5, h6, h7, h8, h9, h10, h11, h12, h13, h14, h15, h16⟩ := hw
 have hd : ∀ x ∈ t.work.drop 1, x.wf := fun x hx => h15 x (List.mem_of_mem_drop hx)
 unfold goT
 split
 · split
   · exact ⟨by unfold int64; dsimp only; omega, h2, ⟨by unfold int64; dsimp only; omega, by unfold int64; dsimp only; omega⟩, h4, h5, h6, h7, h8, h9, h10, h11, h12, h13, h14, h15, h16⟩
   split
   · rename_i hl
     exact ⟨int64_ite (by unfold int64; omega) (by unfold int64; omega), h2, h3, h4, h5, h6, h7, h8, h9, h10, h11, h12, h13, h14, hd, all_snoc h16 (h15 _ (at0_mem (by omega) (by omega))).1⟩
   · exact ⟨by unfold int64; dsimp only; omega, h2, h3, h4, h5, h6, h7, h8, h9, h10, h11, h12, h13, h14, h15, h16⟩
 · exact ⟨by unfold int64; dsimp only; omega, h2, h3, h4, h5, h6, h7, h8, h9, h10, h11, h12, h13, h14, h15, h16⟩
theorem p31_goT {c : Config} {t : Sl.Thread} : P31 c (goT t) := by
 unfold goT
 split
 · split
   · intro h; simp at h
   split
   · intro h; exfalso; revert h; dsimp only; split <;> omega
   · intro h; simp at h
 · intro h; simp at h
theorem walkS_ok {s x : Sl.State} {t : Sl.Thread} {p : Int} (k : KS s x) (hw : t.wf) (hi : P31 s.config t) : SOk s (walkS x t p) := by
 have hwc := k.wc; have hwg := k.wg
 have hct := k.cf
 obtain ⟨h1, h2, h3, h4, h5, h6, h7, h8, h9, h10, h11, h12, h13, h14, h15, h16⟩ := id hw
 have ho1 := h2.1; have ho2 := h2.2.1; have ho3 := h2.2.2; have hr1 := h3.1; have hr2 := h3.2
 have h00 : int64 (at0 x.cells 0) := int64_at0 hwc
 have h01 : int64 (at0 x.cells 1) := int64_at0 hwc
 unfold walkS
 exact kso
theorem readS_ok {s x : Sl.State} {t : Sl.Thread} {p : Int} (k : KS s x) (hw : t.wf) (hi : P31 s.config t) : SOk s (readS x t p) := by
 have hwc := k.wc; have hwg := k.wg
 have hct := k.cf
 obtain ⟨h1, h2, h3, h4, h5, h6, h7, h8, h9, h10, h11, h12, h13, h14, h15, h16⟩ := id hw
 have ho1 := h2.1; have ho2 := h2.2.1; have ho3 := h2.2.2; have hr1 := h3.1; have hr2 := h3.2
 have h00 : int64 (at0 x.cells 0) := int64_at0 hwc
 have h01 : int64 (at0 x.cells 1) := int64_at0 hwc
 unfold readS
 exact kso
theorem takeS_ok {s x : Sl.State} {t : Sl.Thread} {p : Int} (k : KS s x) (hw : t.wf) (hz : 0 ≤ at0 x.cells 1) (hi : P31 s.config t) : SOk s (takeS x t p) := by
 have hwc := k.wc; have hwg := k.wg
 have hct := k.cf
 obtain ⟨h1, h2, h3, h4, h5, h6, h7, h8, h9, h10, h11, h12, h13, h14, h15, h16⟩ := id hw
 have ho1 := h2.1; have ho2 := h2.2.1; have ho3 := h2.2.2; have hr1 := h3.1; have hr2 := h3.2
 have h00 : int64 (at0 x.cells 0) := int64_at0 hwc
 have h01 : int64 (at0 x.cells 1) := int64_at0 hwc
 unfold takeS
 exact kso
theorem headS_ok {s x : Sl.State} {t : Sl.Thread} {p : Int} (k : KS s x) (hw : t.wf) (hi : P31 s.config t) : SOk s (headS x t p) := by
 have hwc := k.wc; have hwg := k.wg
 have hct := k.cf
 obtain ⟨h1, h2, h3, h4, h5, h6, h7, h8, h9, h10, h11, h12, h13, h14, h15, h16⟩ := id hw
 have ho1 := h2.1; have ho2 := h2.2.1; have ho3 := h2.2.2; have hr1 := h3.1; have hr2 := h3.2
 have h00 : int64 (at0 x.cells 0) := int64_at0 hwc
 have h01 : int64 (at0 x.cells 1) := int64_at0 hwc
 unfold headS
 exact kso
theorem ownS_ok {s x : Sl.State} {t : Sl.Thread} {p : Int} (k : KS s x) (hw : t.wf) (hi : P31 s.config t) : SOk s (ownS x t p) := by
 have hwc := k.wc; have hwg := k.wg
 have hct := k.cf
 obtain ⟨h1, h2, h3, h4, h5, h6, h7, h8, h9, h10, h11, h12, h13, h14, h15, h16⟩ := id hw
 have ho1 := h2.1; have ho2 := h2.2.1; have ho3 := h2.2.2; have hr1 := h3.1; have hr2 := h3.2
 have h00 : int64 (at0 x.cells 0) := int64_at0 hwc
 have h01 : int64 (at0 x.cells 1) := int64_at0 hwc
 unfold ownS
 exact kso
theorem scanEndS_ok {s x : Sl.State} {t : Sl.Thread} {p : Int} (k : KS s x) (hw : t.wf) (hi : P31 s.config t) : SOk s (scanEndS x t p) := by
 have hwc := k.wc; have hwg := k.wg
 have hct := k.cf
 obtain ⟨h1, h2, h3, h4, h5, h6, h7, h8, h9, h10, h11, h12, h13, h14, h15, h16⟩ := id hw
 have ho1 := h2.1; have ho2 := h2.2.1; have ho3 := h2.2.2; have hr1 := h3.1; have hr2 := h3.2
 have h00 : int64 (at0 x.cells 0) := int64_at0 hwc
 have h01 : int64 (at0 x.cells 1) := int64_at0 hwc
 unfold scanEndS
 exact kso
theorem foundN_wf {t : Sl.Thread} {n : Int} (h : ∀ x ∈ t.found, int64 x) (hn : int64 n) : ∀ x ∈ foundN t n, int64 x := by
 unfold foundN; split
 · exact h
 · exact all_snoc h hn
theorem splitK_wf {pol key : Int} {es : List Entry} {ns : List Int} (h : ∀ x ∈ es, x.wf) : ∀ x ∈ splitK pol key es ns, x.wf := fun x hx => h x (List.mem_filter.1 hx).1
theorem splitD_wf {pol key : Int} {es : List Entry} {ns : List Int} (h : ∀ x ∈ es, x.wf) : ∀ x ∈ splitD pol key es ns, x.wf := fun x hx => h x (List.mem_filter.1 hx).1
theorem afterT_wf {c : Config} {t : Sl.Thread} (hw : t.wf) : (afterT c t).wf := by
 unfold afterT; split
 · exact wf_clear hw (by unfold int64; omega)
 · exact wf_end hw int64_zero int64_zero
theorem p31_after {c d : Config} {t : Sl.Thread} : P31 c (afterT d t) := by
 unfold afterT; split
 · intro h; unfold clearT at h; simp at h
 · exact p31_end
theorem mergeT_wf {s : Sl.State} {t : Sl.Thread} (hw : t.wf) (hc : ∀ y ∈ s.cells, int64 y) : (mergeT s t).wf := by
 obtain ⟨h1, h2, h3, h4, h5, h6, h7, h8, h9, h10, h11, h12, h13, h14, h15, h16⟩ := hw
 have hf : ∀ x ∈ scanF s t, int64 x := foundN_wf h12 (int64_loadC hc)
 unfold mergeT
 exact ⟨by unfold int64; dsimp only; omega, h2, h3, h4, h5, h6, h7, h8, h9, h10, int64_wrap _, hf, h13, splitK_wf h14, (fun x hx => (List.mem_append.1 hx).elim (h15 x) (splitD_wf h14 x)), h16⟩
theorem scanT_wf {s : Sl.State} {t : Sl.Thread} (hw : t.wf) (hc : ∀ y ∈ s.cells, int64 y) : (scanT s t).wf := by
 unfold scanT; split
 · obtain ⟨h1, h2, h3, h4, h5, h6, h7, h8, h9, h10, h11, h12, h13, h14, h15, h16⟩ := hw
   exact ⟨h1, h2, h3, h4, h5, h6, h7, h8, h9, h10, int64_wrap _, foundN_wf h12 (int64_loadC hc), h13, h14, h15, h16⟩
 split
 · exact afterT_wf (mergeT_wf hw hc)
 · exact mergeT_wf hw hc
theorem p31_scanT {c : Config} {s : Sl.State} {t : Sl.Thread} (h5 : t.pc = 50) : P31 c (scanT s t) := by
 unfold scanT; split
 · intro h; dsimp only at h; omega
 split
 · exact p31_after
 · intro h; unfold mergeT at h; simp at h
theorem flushS_ok {s x : Sl.State} {t : Sl.Thread} {p : Int} (k : KS s x) (hw : t.wf) (hi : P31 s.config t) : SOk s (flushS x t p) := by
 have hwc := k.wc; have hwg := k.wg
 have hct := k.cf
 obtain ⟨h1, h2, h3, h4, h5, h6, h7, h8, h9, h10, h11, h12, h13, h14, h15, h16⟩ := id hw
 have ho1 := h2.1; have ho2 := h2.2.1; have ho3 := h2.2.2; have hr1 := h3.1; have hr2 := h3.2
 have h00 : int64 (at0 x.cells 0) := int64_at0 hwc
 have h01 : int64 (at0 x.cells 1) := int64_at0 hwc
 unfold flushS
 exact kso
theorem freeAll_wf {gs fr hs : List Int} (hg : ∀ x ∈ gs, int64 x) (hf : ∀ x ∈ fr, int64 x) (hh : ∀ x ∈ hs, int64 x) : (∀ x ∈ (freeAll gs fr hs).1, int64 x) ∧ (∀ x ∈ (freeAll gs fr hs).2, int64 x) := by
 unfold freeAll
 induction hs generalizing gs fr with
 | nil => exact ⟨hg, hf⟩
 | cons h hs ih =>
   simp only [List.foldl_cons]
   have h0 := hh h List.mem_cons_self
   have h1 := fun x hx => hh x (List.mem_cons_of_mem _ hx)
   unfold freeStep
   split
   · exact ih (fun x hx => (List.mem_or_eq_of_mem_set hx).elim (hg x) (fun e => e ▸ int64_wrap _)) (all_snoc hf (int64_indexOf h0)) h1
   · exact ih hg hf h1
theorem reclaimS_ok {s x : Sl.State} {t : Sl.Thread} {p : Int} (k : KS s x) (hw : t.wf) (hi : P31 s.config t) : SOk s (reclaimS x t p) := by
 obtain ⟨h1, h2, h3, h4, h5, h6, h7, h8, h9, h10, h11, h12, h13, h14, h15, h16⟩ := id hw
 have hfo : ∀ y ∈ foundN t (scanN x t), int64 y := foundN_wf h12 (int64_loadC k.wc)
 have hfr := freeAll_wf (hs := splitOut t.limbo (foundN t (scanN x t))) k.wg h13 (fun y hy => h16 y (List.mem_filter.1 hy).1)
 unfold reclaimS
 split
 · exact ⟨k, ⟨h1, h2, h3, h4, h5, h6, h7, h8, h9, h10, int64_wrap _, hfo, h13, h14, h15, h16⟩, hi⟩
 · refine ⟨⟨k.cf, k.th, k.lc, ?_, k.wc, hfr.1, k.ws, k.wh, k.wr, k.wf⟩, ?_, ?_⟩
   · exact freeAll_len.trans k.lg
   · obtain ⟨g1, g2, g3, g4, g5, g6, g7, g8, g9, g10, g11, g12, g13, g14, g15, g16⟩ := wf_end hw int64_zero int64_zero
     exact ⟨g1, g2, g3, g4, g5, g6, g7, g8, g9, g10, g11, g12, hfr.2, g14, g15, (fun y hy => h16 y (List.mem_filter.1 hy).1)⟩
   · intro h; unfold endT at h; simp at h
theorem stepS_ok {s x : Sl.State} {t : Sl.Thread} {p : Int} (k : KS s x) (hw : t.wf) (hz : 0 ≤ at0 x.cells 1) (hi : P31 s.config t) : SOk s (stepS x t p) := by
 unfold stepS
 repeat' split
 · exact beginS_ok k hw hi
 · exact walkS_ok k hw hi
 · exact readS_ok k hw hi
 · exact takeS_ok k hw hz hi
 · exact headS_ok k hw hi
 · exact ownS_ok k hw hi
 · exact flushS_ok k hw hi
 · exact reclaimS_ok k hw hi
 · exact scanEndS_ok k hw hi
 · exact ⟨k, hw, hi⟩
set_option maxRecDepth 20000
/-- a state that has come of operations begun and of steps -/
structure Good (s : Sl.State) : Prop where
  sh : shapeOk s
  wf : s.wf
  sz : s.size ≤ 2200
  p31 : ∀ t ∈ s.threads, P31 s.config t
theorem crow_mul {α : Type} {c : α → Nat} {xs : List α} {k : Nat} (h : ∀ x ∈ xs, c x ≤ k) : crow c xs ≤ xs.length * k := by
 induction xs with
 | nil => simp [crow]
 | cons x xs ih =>
   have h1 := ih (fun y hy => h y (List.mem_cons_of_mem _ hy))
   have h2 := h x List.mem_cons_self
   simp only [crow, List.length_cons, Nat.add_mul, Nat.one_mul]; omega
theorem ok_size {s : Sl.State} (h : stateOk s = true) : s.size ≤ 2118 := by
 obtain ⟨hok, h1, h2, h3⟩ := stateOk_shape h
 have hcc := cellCount_eq hok
 have hb := hok; unfold Config.ok at hb
 have h4 : crow Sl.Thread.size s.threads ≤ s.threads.length * 500 := crow_mul fun t ht => by
   have g : s.threads.all (threadOk s.config) = true := by unfold stateOk at h; simp only [Bool.and_eq_true] at h; exact h.1.1.1.2
   have g1 := List.all_eq_true.1 g t ht
   unfold threadOk at g1; simp only [Bool.and_eq_true] at g1
   have g2 : sizesOk t := of_decide_eq_true g1.2
   unfold sizesOk at g2
   unfold Sl.Thread.size
   omega
 unfold Sl.State.size
 omega
theorem goT_size' {t : Sl.Thread} : (goT t).size ≤ t.size := by
 unfold goT Sl.Thread.size
 repeat' split
 all_goals ((try simp only [List.length_append, List.length_drop, List.length_cons, List.length_nil]); first | omega | exact Nat.le_refl _)
theorem stepS_len {s : Sl.State} {t : Sl.Thread} {p : Int} : (stepS s t p).2.size ≤ t.size + 1 := by
 have e := @endT_size
 unfold stepS
 repeat' split
 · unfold beginS; repeat' split
   all_goals first | exact Nat.le_succ _ | exact Nat.le_trans (endT_size) (Nat.le_succ _)
 · unfold walkS; repeat' split
   all_goals first | exact Nat.le_succ _ | exact Nat.le_trans (goT_size') (Nat.le_succ _)
 · unfold readS; repeat' split
   all_goals first | exact Nat.le_succ _ | exact Nat.le_trans (endT_size) (Nat.le_succ _)
 · unfold takeS; repeat' split
   all_goals first | exact Nat.le_succ _ | exact Nat.le_trans (endT_size) (Nat.le_succ _)
 · unfold headS; repeat' split
   all_goals exact Nat.le_succ _
 · unfold ownS; repeat' split
   all_goals first | exact Nat.le_succ _ | exact Nat.le_trans (endT_size) (Nat.le_succ _) | (unfold clearT Sl.Thread.size; simp only [List.length_nil, List.length_append, List.length_cons]; omega) | (unfold Sl.Thread.size; simp only [List.length_nil, List.length_append, List.length_cons]; omega)
 · exact (flushS_size s t p).2
 · exact (reclaimS_size s t p).2
 · exact Nat.le_trans (endT_size (t := { t with snapshot := 0 })) (Nat.le_succ _)
 · exact Nat.le_succ _
theorem Good.ks {s : Sl.State} (h : Good s) : KS s s := ⟨rfl, rfl, rfl, rfl, h.wf.2.1, h.wf.2.2.1, h.wf.2.2.2.2.1, h.wf.2.2.2.2.2.1, h.wf.2.2.2.2.2.2.1, h.wf.2.2.2.2.2.2.2⟩
/-- a state in which one thread and what belongs to all has changed -/
theorem good_set {s x : Sl.State} {t : Sl.Thread} {p : Nat} (h : Good s) (hs : s.size ≤ 2118) (k : KS s x) (hw : t.wf) (hi : P31 s.config t) (hp : p < s.threads.length) (hz : t.size ≤ (at0 s.threads (p : Int)).size + 1) : Good { x with threads := s.threads.set p t } := by
 obtain ⟨a1, a2, a3, a4⟩ := h.sh
 have hx : s.threads[p]? = some (at0 s.threads (p : Int)) := at0_nat hp
 refine ⟨⟨?_, ?_, ?_, ?_⟩, ⟨?_, k.wc, k.wg, ?_, k.ws, k.wh, k.wr, k.wf⟩, ?_, ?_⟩ <;> (try dsimp only)
 · rw [k.cf]; exact a1
 · rw [k.cf, k.lc]; exact a2
 · rw [k.cf, k.lg]; exact a3
 · rw [k.cf, List.length_set]; exact a4
 · rw [k.cf]; exact h.wf.1
 · exact fun y hy => (List.mem_or_eq_of_mem_set hy).elim (h.wf.2.2.2.1 y) (fun e => e ▸ hw)
 · have h4 := crow_set_le (c := Sl.Thread.size) (k := 1) hx hz
   show x.cells.length + x.generations.length + ((s.threads.set p t).length + crow Sl.Thread.size (s.threads.set p t)) ≤ 2200
   have e2 : s.size = s.cells.length + s.generations.length + (s.threads.length + crow Sl.Thread.size s.threads) := rfl
   rw [k.lc, k.lg, List.length_set]; omega
 · rw [k.cf]
   exact fun y hy => (List.mem_or_eq_of_mem_set hy).elim (h.p31 y) (fun e => e ▸ hi)
theorem ok_born {s : Sl.State} (h : stateOk s = true) : 0 ≤ at0 s.cells 1 := by
 unfold stateOk at h; simp only [Bool.and_eq_true, decide_eq_true_eq] at h
 have := h.2; unfold countsOk at this; omega
theorem good_step {s : Sl.State} {p : Nat} (h : Good s) (hr : isRunning s (p : Int) = true) : Good (stepBy stepS (stepped s) p) := by
 obtain ⟨hs, h0, h1⟩ := running_of hr
 have hm : at0 s.threads (p : Int) ∈ s.threads := at0_mem (by omega) (by omega)
 obtain ⟨k, hw, hi⟩ := stepS_ok (s := s) (x := stepped s) (p := (p : Int)) h.ks.stepped (h.wf.2.2.2.1 _ hm) (ok_born (s := s) hs) (h.p31 _ hm)
 exact good_set (s := s) h (ok_size hs) k hw hi (by omega) stepS_len
theorem startT_wf {t : Sl.Thread} {o : Sl.Op} {gs : List Int} (hw : t.wf) (ho : o.wf) : (startT t o gs).wf := by
 have hw' : ({ t with op := o } : Sl.Thread).wf := ⟨hw.1, ho, hw.2.2⟩
 obtain ⟨g1, g2, g3, g4, g5, g6, g7, g8, g9, g10, g11, g12, g13, g14, g15, g16⟩ := wf_end hw' int64_zero int64_zero
 unfold startT
 repeat' split
 all_goals first
   | exact ⟨by unfold int64; dsimp only; omega, g2, g3, g4, g5, g6, g7, g8, g9, g10, g11, g12, g13, g14, g15, g16⟩
   | exact ⟨by unfold int64; dsimp only; omega, g2, g3, g4, int64_makeHandle, g6, g7, g8, g9, g10, g11, g12, (fun x hx => g13 x (List.mem_of_mem_take hx)), g14, g15, g16⟩
theorem p31_start {c : Config} {t : Sl.Thread} {o : Sl.Op} {gs : List Int} : P31 c (startT t o gs) := by
 unfold startT
 repeat' split
 all_goals (intro h; simp at h)
theorem refusal_int {s : Sl.State} {p : Int} {o : Sl.Op} : int64 (refusalOf s p o) := by
 unfold refusalOf
 repeat' split
 all_goals (unfold int64; omega)
theorem good_start {s : Sl.State} {p : Int} {o : Sl.Op} (h : Good s) (ho : o.wf) : Good (startS s p o).1 := by
 unfold startS
 split
 · rename_i hc
   obtain ⟨⟨hs, h0, h1⟩, _⟩ := hc
   obtain ⟨p, rfl⟩ : ∃ k : Nat, p = (k : Int) := ⟨p.toNat, by omega⟩
   have hm : at0 s.threads (p : Int) ∈ s.threads := at0_mem (by omega) (by omega)
   have hw := h.wf.2.2.2.1 _ hm
   split
   · exact good_set (p := p) h (ok_size hs) h.ks (startT_wf hw ho) p31_start (by omega) (Nat.le_trans startT_size (Nat.le_succ _))
   · exact good_set (p := p) h (ok_size hs) h.ks (wf_end (t := { at0 s.threads (p : Int) with op := o }) ⟨hw.1, ho, hw.2.2⟩ refusal_int int64_zero) p31_end (by omega) (Nat.le_trans endT_size (Nat.le_succ _))
 · exact h
set_option maxRecDepth 20000
set_option maxRecDepth 20000
theorem l1Byte_h {W : World} {g : Nat} {vb : Value} {bs : List Int} (hbs : byteEK.Rd W vb bs) {l : List Res} {w : World} (hS : Sep W (Cur g vb bs.length :: l) w) : Calls Tryz.prog 59 #[.pointer (some ⟨g, 0, none⟩)] w (Ret fun v w' => (∃ x : Int, v = vi x ∧ 0 ≤ x ∧ x ≤ 255) ∧ Sep W (Cur g vb bs.length :: l) w') := by
 refine cfr Tryz.func59 Tryz.ntmps59 fun a hF => ?_
 obtain ⟨i, k, hi, hS⟩ := hS.cur_open
 obtain ⟨A_b, q_b, rfl, hq_b, hn_b⟩ := hbs.sl; unfold maxLen at hn_b
 refine rg hF rfl fun a hF => ws fun K2 hK2 => gB 9 0 hF hS rfl rfl rfl fun a hF => wv 0 hF hS rfl rfl rfl rfl rfl rfl fun w1 hS => wl_nil <| hK2 _ _ <| wp_seq_k fun K3 hK3 => wp_region_calm (by kernel_rfl) (by kernel_rfl) ?_
 refine qb 4 0 hF tk hS rfl rfl rfl fun a hF => wq hF rfl rfl rfl (fun w_ hB_ => r_shr (by decide) (hF.ev rfl) ec) fun a hF => qb 4 0 hF tk hS rfl rfl rfl fun a hF => wq hF rfl rfl rfl (fun w_ hB_ => r_shr (by decide) (hF.ev rfl) ec) fun a hF => wq hF rfl rfl rfl (fun w_ hB_ => r_xor (hF.ev rfl) (hF.ev rfl)) fun a hF => wq hF rfl rfl rfl (fun w_ hB_ => r_and (hF.ev rfl) ec) fun a hF => qa 1 hF tk rfl fun a hF => ?_
 refine wpQuiet_nil ?_; intro w2 hB_; have hS := hS.ext hB_
 refine hK3 _ _ <| wp_seq_k fun K4 hK4 => wp_seq_k fun K5 hK5 => wp_region_calm (by kernel_rfl) (by kernel_rfl) <| qb 10 0 hF tk hS rfl rfl rfl fun a hF => ?_
 refine wpQuiet_nil ?_; intro w3 hB_; have hS := hS.ext hB_
 refine hK5 _ _ <| cx 34 hF rfl (fun c34 hF => ?_) fun c34 hF => ?_
 ·
  refine wp_seq_k fun K6 hK6 => wp_region_calm (by kernel_rfl) (by kernel_rfl) <| qb 9 0 hF tk hS rfl rfl rfl fun a hF => ?_
  obtain ⟨g44, o44, m44, q44, hv44, hm44, hl44, hc44⟩ := Rd.atF (hbs) (a := a) (X := .tmp 43) (hF.ev rfl) (by omega) (by omega)
  refine wq hF rfl rfl rfl (fun w_ hB_ => r_index sl22 ((hF.ev rfl).trans hv44) (hF.ev rfl) (by omega) (by first | omega | (simp at hm44; omega))) fun a hF => ?_
  refine wq hF rfl rfl rfl (fun w_ hB_ => r_load1 sc5 (hF.ev rfl) (cellB (hS.ext hB_).old (hc44 0 _ rfl))) fun a hF => wq hF rfl rfl rfl (fun w_ hB_ => r_convw iu5 iu3 (hF.ev rfl)) fun a hF => qa 1 hF tk rfl fun a hF => wq hF rfl rfl rfl (fun w_ hB_ => r_and (hF.ev rfl) ec) fun a hF => qa 1 hF tk rfl fun a hF => ?_
  refine wpQuiet_nil ?_; intro w4 hB_; have hS := hS.ext hB_
  refine hK6 _ _ <| wp_region_lit <| gB 8 0 hF hS rfl rfl rfl fun a hF => wv 0 hF hS rfl rfl rfl rfl rfl rfl fun w5 hS => wl_nil <| hK4 _ _ <| rg hF rfl fun a hF => ?_
  refine xr ?_
  refine ret1 rfl hF rfl ⟨⟨_, rfl, (and_low (n := 255) (by decide)).1, (and_low (n := 255) (by decide)).2⟩, ?_⟩
  exact hS.cur_close (by first | omega | (rw [w64_id (by omega) (by omega)]; omega))
 refine wp_skip <| hK4 _ _ <| rg hF rfl fun a hF => ?_
 refine xr ?_
 refine ret1 rfl hF rfl ⟨⟨_, rfl, (and_low (n := 255) (by decide)).1, (and_low (n := 255) (by decide)).2⟩, ?_⟩
 exact hS.cur_close (by first | omega | (rw [w64_id (by omega) (by omega)]; omega))
theorem l1Byte_c {W : World} {g : Nat} {vb : Value} {bs : List Int} (hbs : byteEK.Rd W vb bs) {l : List Res} {w : World} {q : Nat} (hS : Sep W l w) (hq : l[q]? = some (Cur g vb bs.length)) : Calls Tryz.prog 59 #[.pointer (some ⟨g, 0, none⟩)] w (Ret fun v w' => (∃ x : Int, v = vi x ∧ 0 ≤ x ∧ x ≤ 255) ∧ Sep W l w') :=
  draw_at (R := fun v => ∃ x : Int, v = vi x ∧ 0 ≤ x ∧ x ≤ 255) (fun _ _ h => l1Byte_h hbs h ) hS hq
theorem l1Below_h {W : World} {g : Nat} {vb : Value} {bs : List Int} (hbs : byteEK.Rd W vb bs) {l : List Res} {w : World} (hS : Sep W (Cur g vb bs.length :: l) w) (n : Int) : Calls Tryz.prog 38 #[.pointer (some ⟨g, 0, none⟩), vi n] w (Ret fun v w' => (∃ x : Int, v = vi x ∧ 0 ≤ x ∧ (x < n ∨ (n ≤ 0 ∧ x = 0))) ∧ Sep W (Cur g vb bs.length :: l) w') := by
 refine cfr Tryz.func38 Tryz.ntmps38 fun a hF => ?_
 refine rg hF rfl fun a hF => wp_seq_k fun K2 hK2 => rg hF rfl fun a hF => cx 10 hF rfl (fun c10 hF => ?_) fun c10 hF => ?_
 ·
  refine rg hF rfl fun a hF => ?_
  refine xr ?_
  first
    | exact ret1 rfl hF rfl ⟨⟨0, rfl, by omega, by omega⟩, hS⟩
    | exact ret1 rfl hF rfl ⟨⟨_, rfl, Int.tmod_nonneg _ (by omega), .inl (Int.tmod_lt_of_pos _ (by omega))⟩, hS⟩
    | exact ret1 rfl hF rfl ⟨⟨_, rfl, Int.tmod_nonneg _ (four_bytes h18 h20 h22 h24), .inl (Int.tmod_lt_of_pos _ (by omega))⟩, hS⟩
 refine wp_skip <| hK2 _ _ <| wp_seq_k fun K5 hK5 => rg hF rfl fun a hF => cx 12 hF rfl (fun c12 hF => ?_) fun c12 hF => ?_
 ·
  refine ws fun K7 hK7 => ga 1 hF rfl fun a hF => ?_
  refine ck hF rfl (l1Byte_c hbs (q := 0) hS rfl) ?_; rintro v w1 a ⟨⟨x14, rfl, h14⟩, hS⟩ hF
  refine ga 1 hF rfl fun a hF => wl hF rfl rfl rfl (r_rem (by first | decide | omega) (hF.ev rfl) (hF.ev rfl)) fun a hF => ge hK7 hF rfl fun a hF => ?_
  refine xr ?_
  first
    | exact ret1 rfl hF rfl ⟨⟨0, rfl, by omega, by omega⟩, hS⟩
    | exact ret1 rfl hF rfl ⟨⟨_, rfl, Int.tmod_nonneg _ (by omega), .inl (Int.tmod_lt_of_pos _ (by omega))⟩, hS⟩
    | exact ret1 rfl hF rfl ⟨⟨_, rfl, Int.tmod_nonneg _ (four_bytes h18 h20 h22 h24), .inl (Int.tmod_lt_of_pos _ (by omega))⟩, hS⟩
 refine wp_skip <| hK5 _ _ <| ws fun K8 hK8 => ga 1 hF rfl fun a hF => ?_
 refine ck hF rfl (l1Byte_c hbs (q := 0) hS rfl) ?_; rintro v w2 a ⟨⟨x18, rfl, h18⟩, hS⟩ hF
 refine ge hK8 hF rfl fun a hF => ws fun K9 hK9 => ga 1 hF rfl fun a hF => ?_
 refine ck hF rfl (l1Byte_c hbs (q := 0) hS rfl) ?_; rintro v w3 a ⟨⟨x20, rfl, h20⟩, hS⟩ hF
 refine ge hK9 hF rfl fun a hF => ws fun K10 hK10 => ga 1 hF rfl fun a hF => ?_
 refine ck hF rfl (l1Byte_c hbs (q := 0) hS rfl) ?_; rintro v w4 a ⟨⟨x22, rfl, h22⟩, hS⟩ hF
 refine ge hK10 hF rfl fun a hF => ws fun K11 hK11 => ga 1 hF rfl fun a hF => ?_
 refine ck hF rfl (l1Byte_c hbs (q := 0) hS rfl) ?_; rintro v w5 a ⟨⟨x24, rfl, h24⟩, hS⟩ hF
 refine ge hK11 hF rfl fun a hF => ws fun K12 hK12 => ga 11 hF rfl fun a hF => wl hF rfl rfl rfl (r_rem (by first | decide | omega) (hF.ev rfl) (hF.ev rfl)) fun a hF => ge hK12 hF rfl fun a hF => ?_
 refine xr ?_
 first
   | exact ret1 rfl hF rfl ⟨⟨0, rfl, by omega, by omega⟩, hS⟩
   | exact ret1 rfl hF rfl ⟨⟨_, rfl, Int.tmod_nonneg _ (by omega), .inl (Int.tmod_lt_of_pos _ (by omega))⟩, hS⟩
   | exact ret1 rfl hF rfl ⟨⟨_, rfl, Int.tmod_nonneg _ (four_bytes h18 h20 h22 h24), .inl (Int.tmod_lt_of_pos _ (by omega))⟩, hS⟩
theorem l1Below_c {W : World} {g : Nat} {vb : Value} {bs : List Int} (hbs : byteEK.Rd W vb bs) {l : List Res} {w : World} {q : Nat} (n : Int) (hS : Sep W l w) (hq : l[q]? = some (Cur g vb bs.length)) : Calls Tryz.prog 38 #[.pointer (some ⟨g, 0, none⟩), vi n] w (Ret fun v w' => (∃ x : Int, v = vi x ∧ 0 ≤ x ∧ (x < n ∨ (n ≤ 0 ∧ x = 0))) ∧ Sep W l w') :=
  draw_at (R := fun v => ∃ x : Int, v = vi x ∧ 0 ≤ x ∧ (x < n ∨ (n ≤ 0 ∧ x = 0))) (fun _ _ h => l1Below_h hbs h n) hS hq
theorem l1Once_h {W : World} {g : Nat} {vb : Value} {bs : List Int} (hbs : byteEK.Rd W vb bs) {l : List Res} {w : World} (hS : Sep W (Cur g vb bs.length :: l) w) (n : Int) : Calls Tryz.prog 21 #[.pointer (some ⟨g, 0, none⟩), vi n] w (Ret fun v w' => (∃ b : Bool, v = .bool b) ∧ Sep W (Cur g vb bs.length :: l) w') := by
 refine cfr Tryz.func21 Tryz.ntmps21 fun a hF => ?_
 refine rg hF rfl fun a hF => ws fun K2 hK2 => ga 2 hF rfl fun a hF => ?_
 refine ck hF rfl (l1Below_c hbs (q := 0) _ hS rfl) ?_; rintro v w1 a ⟨⟨x7, rfl, h7⟩, hS⟩ hF
 refine ge hK2 hF rfl fun a hF => ?_
 refine xr ?_
 exact ret1 rfl hF rfl ⟨⟨_, rfl⟩, hS⟩
theorem l1Once_c {W : World} {g : Nat} {vb : Value} {bs : List Int} (hbs : byteEK.Rd W vb bs) {l : List Res} {w : World} {q : Nat} (n : Int) (hS : Sep W l w) (hq : l[q]? = some (Cur g vb bs.length)) : Calls Tryz.prog 21 #[.pointer (some ⟨g, 0, none⟩), vi n] w (Ret fun v w' => (∃ b : Bool, v = .bool b) ∧ Sep W l w') :=
  draw_at (R := fun v => ∃ b : Bool, v = .bool b) (fun _ _ h => l1Once_h hbs h n) hS hq
theorem l1PickInt_h {W : World} {g : Nat} {vb : Value} {bs : List Int} (hbs : byteEK.Rd W vb bs) {l : List Res} {w : World} {vx : Value} {xs : List Int} (hx : ∀ w, Sep W (Cur g vb bs.length :: l) w → intEK.Rd w vx xs) (h0 : 0 < xs.length) (hS : Sep W (Cur g vb bs.length :: l) w) : Calls Tryz.prog 39 #[.pointer (some ⟨g, 0, none⟩), vx] w (Ret fun v w' => (∃ x : Int, v = vi x ∧ x ∈ xs) ∧ Sep W (Cur g vb bs.length :: l) w') := by
 refine cfr Tryz.func39 Tryz.ntmps39 fun a hF => ?_
 obtain ⟨A_x, q_x, rfl, hq_x, hn_x⟩ := (hx _ hS).sl; unfold maxLen at hn_x
 refine rg hF rfl fun a hF => ws fun K2 hK2 => ga 4 hF rfl fun a hF => ?_
 refine ck hF rfl (l1Below_c hbs (q := 0) _ hS rfl) ?_; rintro v w1 a ⟨⟨x9, rfl, h9⟩, hS⟩ hF
 obtain ⟨g10, o10, m10, q10, hv10, hm10, hl10, hc10⟩ := Rd.atF ((hx _ hS)) (a := a) (X := .tmp 9) (hF.ev rfl) (by omega) (by omega)
 refine wl hF rfl rfl rfl (r_index sl29 ((hF.ev rfl).trans hv10) (hF.ev rfl) (by omega) (by first | omega | (simp at hm10; omega))) fun a hF => ?_
 refine wl hF rfl rfl rfl (r_load1 sc3 (hF.ev rfl) (hc10 0 _ rfl)) fun a hF => ge hK2 hF rfl fun a hF => ?_
 refine xr ?_
 exact ret1 rfl hF rfl ⟨⟨_, rfl, at0_mem (by omega) (by omega)⟩, hS⟩
theorem l1PickInt_c {W : World} {g : Nat} {vb : Value} {bs : List Int} (hbs : byteEK.Rd W vb bs) {l : List Res} {w : World} {q : Nat} {vx : Value} {xs : List Int} (hx : ∀ w, Sep W l w → intEK.Rd w vx xs) (h0 : 0 < xs.length) (hS : Sep W l w) (hq : l[q]? = some (Cur g vb bs.length)) : Calls Tryz.prog 39 #[.pointer (some ⟨g, 0, none⟩), vx] w (Ret fun v w' => (∃ x : Int, v = vi x ∧ x ∈ xs) ∧ Sep W l w') := by
 refine (l1PickInt_h hbs (fun w_ h_ => hx w_ (h_.unpull hq)) h0 (hS.pull hq)).mono ?_
 rintro e w' ⟨v, rfl, hr, h⟩
 exact ⟨v, rfl, hr, h.unpull hq⟩
theorem l3Config_h {W : World} {g : Nat} {vb : Value} {bs : List Int} (hbs : byteEK.Rd W vb bs) {l : List Res} {w : World} (hS : Sep W (Cur g vb bs.length :: l) w) : Calls Tryz.prog 42 #[.pointer (some ⟨g, 0, none⟩)] w (Ret fun v w' => (∃ c : Config, v = .agg c.enc.toArray ∧ c.ok) ∧ Sep W (Cur g vb bs.length :: l) w') := by
 refine cfr Tryz.func42 Tryz.ntmps42 fun a hF => ?_
 refine ws fun K1 hK1 => wl_alloc hF hS rfl zr25 fun g1 w1 a hS _ hF => wl_nil <| hK1 _ _ <| ws fun K2 hK2 => ga 1 hF rfl fun a hF => ?_
 refine ck hF rfl (l1Below_c hbs (q := 1) _ hS rfl) ?_; rintro v w2 a ⟨⟨x5, rfl, h5⟩, hS⟩ hF
 refine ga 2 hF rfl fun a hF => ?_
 refine ck hF rfl (l1Below_c hbs (q := 1) _ hS rfl) ?_; rintro v w3 a ⟨⟨x8, rfl, h8⟩, hS⟩ hF
 refine ga 2 hF rfl fun a hF => wl_bslice intEK [vi 3, vi 6, vi 8, vi 12] [3, 6, 8, 12] rfl hF hS rfl mk29 rfl ⟨rfl, ec, rfl, ec, rfl, ec, rfl, ec, trivial⟩ rfl rfl rfl rfl fun gl_11 w4 a hS hF => ?_
 refine ck hF rfl (l1PickInt_c hbs (q := 2) (fun w_ hS => (hS.own_rd (i := 0) rfl)) (by decide) hS rfl) ?_; rintro v w5 a ⟨⟨x12, rfl, h12⟩, hS⟩ hF
 refine ga 1 hF rfl fun a hF => ?_
 refine ck hF rfl (l1Below_c hbs (q := 2) _ hS rfl) ?_; rintro v w6 a ⟨⟨x14, rfl, h14⟩, hS⟩ hF
 refine ga 2 hF rfl fun a hF => ?_
 refine ck hF rfl (l1Below_c hbs (q := 2) _ hS rfl) ?_; rintro v w7 a ⟨⟨x17, rfl, h17⟩, hS⟩ hF
 refine ga 1 hF rfl fun a hF => wl_bslice intEK [vi 99, vi 99, vi 99, vi 4] [99, 99, 99, 4] rfl hF hS rfl mk29 rfl ⟨rfl, ec, rfl, ec, rfl, ec, rfl, ec, trivial⟩ rfl rfl rfl rfl fun gl_19 w8 a hS hF => ?_
 refine ck hF rfl (l1PickInt_c hbs (q := 3) (fun w_ hS => (hS.own_rd (i := 0) rfl)) (by decide) hS rfl) ?_; rintro v w9 a ⟨⟨x20, rfl, h20⟩, hS⟩ hF
 refine wl hF rfl rfl rfl (r_build (bd25_0_1_2_3_4_5 _ _ _ _ _ _) ⟨rfl, (hF.ev rfl), rfl, (hF.ev rfl), rfl, (hF.ev rfl), rfl, (hF.ev rfl), rfl, (hF.ev rfl), rfl, (hF.ev rfl), trivial⟩) fun a hF => wl_alloc hF hS rfl zr25 fun g2 w10 a hS _ hF => ww 0 hF hS rfl rfl rfl rfl rfl rfl fun w11 hS => wl_nil <| hK2 _ _ <| ws fun K3 hK3 => gB 1 0 hF hS rfl rfl rfl fun a hF => ww 3 hF hS rfl rfl rfl rfl rfl rfl fun w12 hS => ?_
 refine wl_nil (hK3 _ _ ?_)
 refine xr ?_
 simp only [List.mem_cons, List.not_mem_nil, or_false] at h12 h20
 refine ret1c rfl ag25 hF hS (i := 3) rfl sz25 rfl ⟨⟨⟨IntKind.i64.wrap (1 + x5), IntKind.i64.wrap (1 + x8), x12, IntKind.i64.wrap (1 + x14), x17, x20⟩, rfl, ?_⟩, (hS.pm 5 [4] rfl)⟩
 rw [w64_id (q := 1 + x5) (by omega) (by omega), w64_id (q := 1 + x8) (by omega) (by omega), w64_id (q := 1 + x14) (by omega) (by omega)]
 unfold Config.ok; dsimp only; omega
theorem l3Config_c {W : World} {g : Nat} {vb : Value} {bs : List Int} (hbs : byteEK.Rd W vb bs) {l : List Res} {w : World} {q : Nat} (hS : Sep W l w) (hq : l[q]? = some (Cur g vb bs.length)) : Calls Tryz.prog 42 #[.pointer (some ⟨g, 0, none⟩)] w (Ret fun v w' => (∃ c : Config, v = .agg c.enc.toArray ∧ c.ok) ∧ Sep W l w') :=
  draw_at (R := fun v => ∃ c : Config, v = .agg c.enc.toArray ∧ c.ok) (fun _ _ h => l3Config_h hbs h ) hS hq
theorem l5Op_h {W : World} {g : Nat} {vb : Value} {bs : List Int} (hbs : byteEK.Rd W vb bs) {l : List Res} {w : World} (hS : Sep W (Cur g vb bs.length :: l) w) {n : Int} (hn : n ≤ 10) : Calls Tryz.prog 71 #[.pointer (some ⟨g, 0, none⟩), vi n] w (Ret fun v w' => (∃ o : Sl.Op, v = .agg o.enc.toArray ∧ o.ok) ∧ Sep W (Cur g vb bs.length :: l) w') := by
 refine cfr Tryz.func71 Tryz.ntmps71 fun a hF => ?_
 refine ws fun K1 hK1 => wl_alloc hF hS rfl zr42 fun g1 w1 a hS _ hF => wl_nil <| hK1 _ _ <| wp_seq_k fun K2 hK2 => ws fun K3 hK3 => ga 1 hF rfl fun a hF => ?_
 refine ck hF rfl (l1Below_c hbs (q := 1) _ hS rfl) ?_; rintro v w2 a ⟨⟨x6, rfl, h6⟩, hS⟩ hF
 refine wl_nil <| hK3 _ _ <| wp_block <| wp_seq_k fun K4 hK4 => rg hF rfl fun a hF => cx 7 hF rfl (fun c7 hF => ?_) fun c7 hF => ?_
 ·
  refine wp_skip <| hK4 _ _ <| wc_true (hF.ev rfl) <| ws fun K6 hK6 => wl hF rfl rfl rfl (r_build (bd42_0 _) ⟨rfl, ec, trivial⟩) fun a hF => ww 0 hF hS rfl rfl rfl rfl rfl rfl fun w3 hS => wl_nil (hK6 _ _ ?_)
  refine xr ?_
  refine ret1c rfl ag42 hF hS (i := 0) rfl sz42 rfl ⟨⟨⟨_, _, _⟩, rfl, ?_⟩, (hS.pm 2 [1] rfl)⟩
  unfold Sl.Op.ok; dsimp only; omega
 refine wp_region_lit <| ge hK4 hF rfl fun a hF => cx 7 hF rfl (fun c7 hF => ?_) fun c7 hF => ?_
 ·
  refine ws fun K7 hK7 => wl hF rfl rfl rfl (r_build (bd42_0 _) ⟨rfl, ec, trivial⟩) fun a hF => ww 0 hF hS rfl rfl rfl rfl rfl rfl fun w4 hS => wl_nil (hK7 _ _ ?_)
  refine xr ?_
  refine ret1c rfl ag42 hF hS (i := 0) rfl sz42 rfl ⟨⟨⟨_, _, _⟩, rfl, ?_⟩, (hS.pm 2 [1] rfl)⟩
  unfold Sl.Op.ok; dsimp only; omega
 refine wp_seq_k fun K8 hK8 => rg hF rfl fun a hF => cx 11 hF rfl (fun c11 hF => ?_) fun c11 hF => ?_
 ·
  refine wp_skip <| hK8 _ _ <| wc_true (hF.ev rfl) <| ws fun K10 hK10 => ga 2 hF rfl fun a hF => ?_
  refine ck hF rfl (l1Below_c hbs (q := 1) _ hS rfl) ?_; rintro v w5 a ⟨⟨x17, rfl, h17⟩, hS⟩ hF
  refine wl hF rfl rfl rfl (r_build (bd42_0_1 _ _) ⟨rfl, ec, rfl, (hF.ev rfl), trivial⟩) fun a hF => ww 0 hF hS rfl rfl rfl rfl rfl rfl fun w6 hS => wl_nil (hK10 _ _ ?_)
  refine xr ?_
  refine ret1c rfl ag42 hF hS (i := 0) rfl sz42 rfl ⟨⟨⟨_, _, _⟩, rfl, ?_⟩, (hS.pm 2 [1] rfl)⟩
  unfold Sl.Op.ok; dsimp only; omega
 refine rg hF rfl fun a hF => cx 11 hF rfl (fun c11 hF => ?_) fun c11 hF => ?_
 ·
  refine wp_skip <| hK8 _ _ <| wc_true (hF.ev rfl) <| ws fun K12 hK12 => ga 2 hF rfl fun a hF => ?_
  refine ck hF rfl (l1Below_c hbs (q := 1) _ hS rfl) ?_; rintro v w7 a ⟨⟨x17, rfl, h17⟩, hS⟩ hF
  refine wl hF rfl rfl rfl (r_build (bd42_0_1 _ _) ⟨rfl, ec, rfl, (hF.ev rfl), trivial⟩) fun a hF => ww 0 hF hS rfl rfl rfl rfl rfl rfl fun w8 hS => wl_nil (hK12 _ _ ?_)
  refine xr ?_
  refine ret1c rfl ag42 hF hS (i := 0) rfl sz42 rfl ⟨⟨⟨_, _, _⟩, rfl, ?_⟩, (hS.pm 2 [1] rfl)⟩
  unfold Sl.Op.ok; dsimp only; omega
 refine wp_region_lit <| ge hK8 hF rfl fun a hF => cx 11 hF rfl (fun c11 hF => ?_) fun c11 hF => ?_
 ·
  refine ws fun K13 hK13 => ga 2 hF rfl fun a hF => ?_
  refine ck hF rfl (l1Below_c hbs (q := 1) _ hS rfl) ?_; rintro v w9 a ⟨⟨x17, rfl, h17⟩, hS⟩ hF
  refine wl hF rfl rfl rfl (r_build (bd42_0_1 _ _) ⟨rfl, ec, rfl, (hF.ev rfl), trivial⟩) fun a hF => ww 0 hF hS rfl rfl rfl rfl rfl rfl fun w10 hS => wl_nil (hK13 _ _ ?_)
  refine xr ?_
  refine ret1c rfl ag42 hF hS (i := 0) rfl sz42 rfl ⟨⟨⟨_, _, _⟩, rfl, ?_⟩, (hS.pm 2 [1] rfl)⟩
  unfold Sl.Op.ok; dsimp only; omega
 refine rg hF rfl fun a hF => cx 19 hF rfl (fun c19 hF => ?_) fun c19 hF => ?_
 ·
  refine ws fun K15 hK15 => wl hF rfl rfl rfl (r_build (bd42_0 _) ⟨rfl, ec, trivial⟩) fun a hF => ww 0 hF hS rfl rfl rfl rfl rfl rfl fun w11 hS => wl_nil (hK15 _ _ ?_)
  refine xr ?_
  refine ret1c rfl ag42 hF hS (i := 0) rfl sz42 rfl ⟨⟨⟨_, _, _⟩, rfl, ?_⟩, (hS.pm 2 [1] rfl)⟩
  unfold Sl.Op.ok; dsimp only; omega
 refine rg hF rfl fun a hF => cx 22 hF rfl (fun c22 hF => ?_) fun c22 hF => ?_
 ·
  refine ws fun K17 hK17 => wl hF rfl rfl rfl (r_build (bd42_0 _) ⟨rfl, ec, trivial⟩) fun a hF => ww 0 hF hS rfl rfl rfl rfl rfl rfl fun w12 hS => wl_nil (hK17 _ _ ?_)
  refine xr ?_
  refine ret1c rfl ag42 hF hS (i := 0) rfl sz42 rfl ⟨⟨⟨_, _, _⟩, rfl, ?_⟩, (hS.pm 2 [1] rfl)⟩
  unfold Sl.Op.ok; dsimp only; omega
 refine wp_skip ?_
 refine xt ?_
 refine hK2 _ _ <| ws fun K18 hK18 => ga 2 hF rfl fun a hF => ?_
 refine ck hF rfl (l1Below_c hbs (q := 1) _ hS rfl) ?_; rintro v w13 a ⟨⟨x27, rfl, h27⟩, hS⟩ hF
 refine ga 1 hF rfl fun a hF => ?_
 refine ck hF rfl (l1Below_c hbs (q := 1) _ hS rfl) ?_; rintro v w14 a ⟨⟨x29, rfl, h29⟩, hS⟩ hF
 refine wl hF rfl rfl rfl (r_build (bd42_0_1_2 _ _ _) ⟨rfl, ec, rfl, (hF.ev rfl), rfl, (hF.ev rfl), trivial⟩) fun a hF => ww 0 hF hS rfl rfl rfl rfl rfl rfl fun w15 hS => wl_nil (hK18 _ _ ?_)
 refine xr ?_
 refine ret1c rfl ag42 hF hS (i := 0) rfl sz42 rfl ⟨⟨⟨_, _, _⟩, rfl, ?_⟩, (hS.pm 2 [1] rfl)⟩
 unfold Sl.Op.ok; dsimp only; omega
theorem l5Op_c {W : World} {g : Nat} {vb : Value} {bs : List Int} (hbs : byteEK.Rd W vb bs) {l : List Res} {w : World} {q : Nat} {n : Int} (hn : n ≤ 10) (hS : Sep W l w) (hq : l[q]? = some (Cur g vb bs.length)) : Calls Tryz.prog 71 #[.pointer (some ⟨g, 0, none⟩), vi n] w (Ret fun v w' => (∃ o : Sl.Op, v = .agg o.enc.toArray ∧ o.ok) ∧ Sep W l w') :=
  draw_at (R := fun v => ∃ o : Sl.Op, v = .agg o.enc.toArray ∧ o.ok) (fun _ _ h => l5Op_h hbs h hn) hS hq
theorem l1New_c {W : World} {vb : Value} {bs : List Int} (hb : byteEK.Rd W vb bs) (hz : bs.length ≤ 1048576) : Calls Tryz.prog 19 #[vb] W (Ret (Mk W (fun g : Nat => .pointer (some ⟨g, 0, none⟩)) (fun g => [Cur g vb bs.length]))) := by
 refine cfr Tryz.func19 Tryz.ntmps19 fun a hF => ?_
 have hS := Sep.refl W
 obtain ⟨A_b, q_b, rfl, hq_b, hn_b⟩ := hb.sl; unfold maxLen at hn_b
 refine rg hF rfl fun a hF => rg hF rfl fun a hF => wp_seq_k fun K3 hK3 => rg hF rfl fun a hF => wp_block ?_
 have hL_ := ((hF.nil.keep hF (t := 2) rfl).keep hF (t := 0) rfl)
 refine wp_loop_r (σ := Nat × Int) (fun z L_ => (4, vi z.1) :: (3, vi z.2) :: L_) (fun z => (z.1 ≤ bs.length)) (fun z => bs.length - z.1) (0, _) hS ((hL_.keepE hF (t := 3) rfl rfl).keepE hF (t := 4) rfl rfl) ?_ ?_
 · exact Nat.zero_le _
 rintro ⟨k, h⟩ a w1 hk hS hF; try dsimp only at hF; try dsimp only at hS; try dsimp only at hk
 refine wp_seq_k fun K5 hK5 => ws fun K6 hK6 => ga 5 hF rfl fun a hF => ?_
 apply wa 3 12 15 hF hS
 ·
  intro hg12 a hF
  exact je 3 hF hS rfl rfl rfl rfl
 intro a w2 hF hS
 refine wl_nil <| hK6 _ _ <| cx 15 hF rfl (fun c15 hF => ?_) fun c15 hF => ?_
 ·
  refine wp_skip <| hK5 _ _ <| wp_seq_k fun K7 hK7 => wp_block <| wp_region_lit <| ga 4 hF rfl fun a hF => ?_
  obtain ⟨g22, o22, m22, q22, hv22, hm22, hl22, hc22⟩ := Rd.atF (hb) (a := a) (X := .tmp 21) (hF.ev rfl) (by omega) (by omega)
  refine wl hF rfl rfl rfl (r_index sl22 ((hF.ev rfl).trans hv22) (hF.ev rfl) (by omega) (by first | omega | (simp at hm22; omega))) fun a hF => ?_
  refine wl hF rfl rfl rfl (r_load1 sc5 (hF.ev rfl) (cellB hS.old (hc22 0 _ rfl))) fun a hF => wl hF rfl rfl rfl (r_convw iu5 iu3 (hF.ev rfl)) fun a hF => ga 2 hF rfl fun a hF => wl hF rfl rfl rfl (r_and (hF.ev rfl) ec) fun a hF => ga 1 hF rfl fun a hF => wl_nil ?_
  refine xt ?_
  refine hK7 _ _ <| rl hF rfl fun a hF => ?_
  refine xt ?_
  refine ⟨(k + 1, _), (by dsimp only; omega), hS, ((((hF.nil.keep hF (t := 2) rfl).keep hF (t := 0) rfl).keepE hF (t := 3) rfl rfl).keepE hF (t := 4) rfl (wk (by omega))), by dsimp only; omega⟩
 refine wp_exit ?_
 refine xt ?_
 refine hK3 _ _ <| ws fun K8 hK8 => ga 2 hF rfl fun a hF => wl hF rfl rfl rfl (r_build (bd72_0_2 _ _ _ _) ⟨rfl, (hF.ev rfl), rfl, (hF.ev rfl), trivial⟩) fun a hF => wl_box (cs := [_, _, _]) hF hS rfl (hF.ev rfl) rfl fun g1 w3 a hS _ hF => ge hK8 hF rfl fun a hF => ?_
 refine xr ?_
 exact ret1 rfl hF rfl ⟨g1, rfl, (hS.pick [0] (by decide) rfl).cur_close ⟨by omega, by omega⟩⟩
set_option maxRecDepth 20000
end Go.Proofs.YtbgacfdnmbhloaaGreat.Wk
